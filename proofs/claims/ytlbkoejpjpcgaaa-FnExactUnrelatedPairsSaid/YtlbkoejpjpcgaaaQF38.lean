-- Written by a program of this session (wip/xprint.py over the kit's printer).
import Derived.Test.YtlbkoejpjpcgaaaQ0
import Derived.Test.YtlbkoejpjpcgaaaQF71
import Derived.Test.YtlbkoejpjpcgaaaQF85
import Derived.Test.YtlbkoejpjpcgaaaQF90
import Derived.Test.YtlbkoejpjpcgaaaQF94
import Derived.Test.YtlbkoejpjpcgaaaQF98
import Derived.Test.YtlbkoejpjpcgaaaQP
namespace Go.Proofs.Ytlbkoejpjpcgaaa.Q
open Go.RowKit Go.Proofs.YtlbkoejpjpcgaaaW.PrintWords Go.Proofs.YtlbkoejpjpcgaaaW.PrintLast
set_option linter.unusedVariables false
set_option linter.unusedSimpArgs false

/-! ### impl_UnrelatedPairs: function 38 -/
theorem rd_numsU (cs : List S108) (i : Nat) (h : i < cs.length) : rd (nums cs) (i : Int) = (cs.getD i z108).f0 := by
  simp [rd, nums, List.getD_eq_getElem?_getD, h]
/-- The pairs of a row, of those behind it in the list: neither is later than the other. -/
def urRow (cs : List S108) (M : Nat → Nat → Bool) (i k : Nat) : List S100 := ((List.range k).filter fun b => decide (i < b) && (!M i b && !M b i)).map fun b => ⟨(cs.getD i z108).f0, (cs.getD b z108).f0⟩
theorem urRow_succ (cs : List S108) (M : Nat → Nat → Bool) (i k : Nat) (h : i < k) : urRow cs M i (k + 1) = if (!M i k && !M k i) = true then urRow cs M i k ++ [⟨(cs.getD i z108).f0, (cs.getD k z108).f0⟩] else urRow cs M i k := by
  unfold urRow
  rw [List.range_succ, List.filter_append, List.map_append]
  cases hm : (!M i k && !M k i) <;> simp [hm, h]
theorem urRow_le (cs : List S108) (M : Nat → Nat → Bool) (i k : Nat) : (urRow cs M i k).length ≤ k := by
  unfold urRow
  rw [List.length_map]
  exact Nat.le_trans (List.length_filter_le _ _) (by simp)
theorem urRow_start (cs : List S108) (M : Nat → Nat → Bool) (i : Nat) : urRow cs M i (i + 1) = [] := by
  unfold urRow
  rw [List.map_eq_nil_iff, List.filter_eq_nil_iff]
  intro b hb
  have := List.mem_range.1 hb
  simp only [Bool.and_eq_true, decide_eq_true_eq, not_and]
  intro h
  omega
def urTo (cs : List S108) (M : Nat → Nat → Bool) (i k : Nat) : List S100 := ((List.range i).flatMap fun a => urRow cs M a cs.length) ++ urRow cs M i k
theorem urTo_succ (cs : List S108) (M : Nat → Nat → Bool) (i k : Nat) (h : i < k) : urTo cs M i (k + 1) = if (!M i k && !M k i) = true then urTo cs M i k ++ [⟨(cs.getD i z108).f0, (cs.getD k z108).f0⟩] else urTo cs M i k := by
  unfold urTo
  rw [urRow_succ cs M i k h]
  split <;> simp [List.append_assoc]
def urAll (cs : List S108) (M : Nat → Nat → Bool) (i : Nat) : List S100 := (List.range i).flatMap fun a => urRow cs M a cs.length
theorem urTo_start (cs : List S108) (M : Nat → Nat → Bool) (i : Nat) : urTo cs M i (i + 1) = urAll cs M i := by
  unfold urTo urAll
  rw [urRow_start, List.append_nil]
theorem urTo_row (cs : List S108) (M : Nat → Nat → Bool) (i : Nat) : urTo cs M i cs.length = urAll cs M (i + 1) := by
  unfold urTo urAll
  rw [List.range_succ, List.flatMap_append]
  simp
theorem urAll_le (cs : List S108) (M : Nat → Nat → Bool) (i : Nat) : (urAll cs M i).length ≤ i * cs.length := by
  induction i with
  | zero => simp [urAll]
  | succ i ih =>
    have : urAll cs M (i + 1) = urAll cs M i ++ urRow cs M i cs.length := (urTo_row cs M i).symm
    rw [this, List.length_append, Nat.succ_mul]
    have := urRow_le cs M i cs.length
    omega
theorem urTo_le (cs : List S108) (M : Nat → Nat → Bool) (i k : Nat) : (urTo cs M i k).length ≤ i * cs.length + k := by
  have h : urTo cs M i k = urAll cs M i ++ urRow cs M i k := rfl
  rw [h, List.length_append]
  have := urAll_le cs M i
  have := urRow_le cs M i k
  omega
def impl_UnrelatedPairs.f (l0_0 : List S108) (l0_1 : List S100) : Option (List S100 × Bool) := some (if goodB l0_0 l0_1 then (urAll l0_0 (lat l0_0 l0_1) l0_0.length, true) else ([], false))
def impl_UnrelatedPairs.T12 : Bool × List (List Nat × List Nat) := (true, [([], []), ([], []), ([1], [1]), ([2], [2]), ([3], [3]), ([], []), ([4, 5], [4, 5]), ([6], [6]), ([], []), ([8], [8]), ([9], [9]), ([10], [10]), ([], []), ([11, 12], [11, 12]), ([13], [13]), ([7, 14], [7, 14]), ([15], [15]), ([0, 16], [0, 16]), ([17, 17, 0, 1, 2, 3, 4, 5, 6, 7, 8, 9, 10, 11, 12, 13, 14, 15, 16, 17], [0, 17])])
def impl_UnrelatedPairs.B12 : List Nat := [0, 0, 2, 6, 14, 0, 62, 126, 0, 256, 768, 1792, 0, 7936, 16128, 32766, 65534, 131071, 262143]
theorem impl_UnrelatedPairs.tab12 : rtab .any (opsOf Try.f38 12) = impl_UnrelatedPairs.T12 := by kernel_rfl
theorem impl_UnrelatedPairs.bits12 : waitsOk impl_UnrelatedPairs.T12.2 impl_UnrelatedPairs.B12 = true := by kernel_rfl
set_option maxHeartbeats 8000000 in
set_option maxRecDepth 100000 in
theorem impl_UnrelatedPairs.calls (A0_0 : Option Addr) (c0_0 : Nat) (l0_0 : List S108) (A0_1 : Option Addr) (c0_1 : Nat) (l0_1 : List S100) (r1 : List S100) (r2 : Bool) (w : World) (hr0_0 : Kd.C k108 w A0_0 l0_0.length l0_0) (hc0_0 : l0_0.length ≤ c0_0) (hr0_1 : Kd.C k100 w A0_1 l0_1.length l0_1) (hc0_1 : l0_1.length ≤ c0_1) (h : impl_UnrelatedPairs.f l0_0 l0_1 = some (r1, r2)) :
    Calls Try.prog 38 #[.agg #[.slice A0_0 l0_0.length c0_0, .slice A0_1 l0_1.length c0_1]] w fun e w' => ∃ v0_ : Value, e = .returned (.tuple #[v0_, .bool r2]) ∧ Kd.R k100 109 w' w.heap.size (fun _ => True) v0_ r1 ∧ Below w.heap.size w w' := by
  have H := Option.some.inj h
  clear h
  have HR0 := Aside0.mk hr0_0
  have HR1 := Aside0.mk hr0_1
  have HC0 := Aside0.mk hc0_0
  have HC1 := Aside0.mk hc0_1
  clear hr0_0 hr0_1 hc0_0 hc0_1
  obtain ⟨wb, hwb⟩ : ∃ wb, (w).alloc (.cells #[.slice A0_0 l0_0.length c0_0, .slice A0_1 l0_1.length c0_1] 33 (0, 0)) = wb := ⟨_, rfl⟩
  have HBw := Aside0.mk (show Below w.heap.size w wb from by rw [← hwb]; repeat (first | exact Below.refl _ _ | apply below_alloc))
  have HWB := HBw
  have hhr : wb.heap[w.heap.size]? = some (.cells #[.slice A0_0 l0_0.length c0_0, .slice A0_1 l0_1.length c0_1] 33 (0, 0)) := by rw [← hwb]; have h := blk_new (w) (.cells #[.slice A0_0 l0_0.length c0_0, .slice A0_1 l0_1.length c0_1] 33 (0, 0)); rw [show (w).heap.size = w.heap.size from by rfl] at h; exact h
  have hb0 : wb.cell? ⟨w.heap.size, 0, none⟩ = some (.slice A0_0 l0_0.length c0_0) := (blk_cell hhr 0).trans rfl
  have hb1 : wb.cell? ⟨w.heap.size, 1, none⟩ = some (.slice A0_1 l0_1.length c0_1) := (blk_cell hhr 1).trans rfl
  have hbs : w.heap.size < wb.heap.size := blk_lt hhr
  have HW := Aside0.mk hwb
  clear hwb hhr
  obtain ⟨b, hb⟩ : ∃ b, goodB l0_0 l0_1 = b := ⟨_, rfl⟩
  have AV := Aside0.mk (show impl_IsValidRecord.f l0_0 l0_1 = some b from congrArg some hb)
  rw [hb] at H
  cases b with
  | false =>
    clear hb
    injection H with H1 H2
    subst H1; subst H2
    go_enter Try.func38, Try.ntmps38
    go_upto_region 1 with (fail)
    try rw [HW.out]
    clear HW
    go_wp2_with (go_at_call 71; (with_reducible refine (impl_IsValidRecord.calls _ _ l0_0 _ _ l0_1 _ _ (Kd.C_below HR0.out (by repeat (first | exact HBw.out | exact Below.refl _ _ | apply below_alloc | apply pw_below_drewN | apply below_drew1))) HC0.out (Kd.C_below HR1.out (by repeat (first | exact HBw.out | exact Below.refl _ _ | apply below_alloc | apply pw_below_drewN | apply below_drew1))) HC1.out AV.out).mono ?_); rintro e w1 ⟨rfl, hb⟩; have HBw : Aside0 (Below w.heap.size w w1) := Aside0.mk (below_chain (w := w) (by repeat (first | exact HBw.out | exact Below.refl _ _ | apply below_alloc | apply pw_below_drewN | apply below_drew1)) hb); have hb0 := pw_cell_below hb hb0; clear hb)
    go_ret2
    exact ⟨_, rfl, Kd.R_nil _ _ _ _ _, (by repeat (first | exact HBw.out | exact Below.refl _ _ | apply below_alloc | apply pw_below_drewN | apply below_drew1))⟩
  | true =>
    have HG := Aside0.mk (goodB_parts hb)
    clear hb
    injection H with H1 H2
    have HR1_ := Aside0.mk H1
    subst H2
    clear H1
    have HN := Aside0.mk HG.out.1
    go_enter Try.func38, Try.ntmps38
    go_upto_region 1 with (fail)
    try rw [HW.out]
    clear HW
    go_upto_region 4 with (first | (go_at_call 71; (with_reducible refine (impl_IsValidRecord.calls _ _ l0_0 _ _ l0_1 _ _ (Kd.C_below HR0.out (by repeat (first | exact HBw.out | exact Below.refl _ _ | apply below_alloc | apply pw_below_drewN | apply below_drew1))) HC0.out (Kd.C_below HR1.out (by repeat (first | exact HBw.out | exact Below.refl _ _ | apply below_alloc | apply pw_below_drewN | apply below_drew1))) HC1.out AV.out).mono ?_); rintro e w1 ⟨rfl, hb⟩; have HBw : Aside0 (Below w.heap.size w w1) := Aside0.mk (below_chain (w := w) (by repeat (first | exact HBw.out | exact Below.refl _ _ | apply below_alloc | apply pw_below_drewN | apply below_drew1)) hb); have hb0 := pw_cell_below hb hb0; have hb1 := pw_cell_below hb hb1; clear hb) | (go_at_call 85; (refine (impl_orderOf.calls _ _ l0_0 _ _ l0_1 _ (Kd.C_below HR0.out (by repeat (first | exact HBw.out | exact Below.refl _ _ | apply below_alloc | apply pw_below_drewN | apply below_drew1))) HC0.out (Kd.C_below HR1.out (by repeat (first | exact HBw.out | exact Below.refl _ _ | apply below_alloc | apply pw_below_drewN | apply below_drew1))) HC1.out HG.out.1 HG.out.2.1 HG.out.2.2).mono ?_); rintro e w2 ⟨p, rfl, N1, N2, v, HO⟩; obtain ⟨A, c, rfl, hc⟩ := HO.slice (nums_length l0_0); have hb := HO.below; have HBw : Aside0 (Below w.heap.size w w2) := Aside0.mk (below_chain (w := w) (by repeat (first | exact HBw.out | exact Below.refl _ _ | apply below_alloc | apply pw_below_drewN | apply below_drew1)) hb); have hb0 := pw_cell_below hb hb0; have HOA := Aside0.mk HO; clear hb HO hc))
    clear hb0 hb1
    obtain ⟨wo, HOB⟩ : ∃ wo, Aside0 (OrdIn wo w2 p N1 N2 l0_0.length (.slice A l0_0.length c) (nums l0_0) (abv l0_0 l0_1) (lat l0_0 l0_1)) := ⟨_, HOA⟩
    clear HOA
    generalize lat l0_0 l0_1 = M at HOB HR1_
    have HSO := Aside0.mk HOB.out.below.size
    have HSW := Aside0.mk HBw.out.size
    go_upto_region 5 with ((with_reducible refine gate_dst (N := 13) rfl ?_); refine Kd.R_lit k100 (w0 := w2) w2.heap.size 109 ?hg (N := 13) ?hd (xs := ([] : List S100)) (inner := []) (ok := fun _ => True) (okp := fun _ => True) ?hr ?hp (fun _ hk => hk) trivial (Below.refl _ _) (Nat.le_refl _) (by simp) ?_; (case hd => rfl); (case hg => rfl); (case hr => first | (go_simp; done) | (go_simp; rfl)); (case hp => exact (Reps.none _ _)); intro v0 w3 ho hb hg_ hnew_; clear hg_ hnew_; have HR := Aside0.mk ho; have HB := Aside0.mk (below_chain HBw.out hb); have HO := Aside0.mk (HOB.out.step hb); have HSZ := Aside0.mk hb.size; clear ho hb)
    have HR := Aside0.mk (show Kd.R k100 109 w3 w2.heap.size (fun _ => True) v0 (urAll l0_0 M 0) from HR.out)
    have g0 := HO.out.c0
    go_upto_region 6 with (fail)
    clear g0 HBw HOB
    go_loopg [5, 6, 7, 19] l0_0.length (fun gg s5 _ _ s19 wr => ∃ i : Nat, i ≤ l0_0.length ∧ l0_0.length - i ≤ gg ∧ s19 = .int .i64 i ∧ Aside0 (Below w.heap.size w wr) ∧ Aside0 (OrdIn wo wr p N1 N2 l0_0.length (.slice A l0_0.length c) (nums l0_0) (abv l0_0 l0_1) M) ∧ Aside0 (Kd.R k100 109 wr w2.heap.size (fun _ => True) s5 (urAll l0_0 M i)) ∧ Aside0 (w2.heap.size ≤ wr.heap.size))
    case atStart => exact ⟨0, Nat.zero_le _, by omega, rfl, HB, HO, HR, HSZ⟩
    case round =>
      clear HB HO HR HSZ
      obtain ⟨i, hi, hgg, rfl, HB, HO, HR, HSZ⟩ := hrel
      by_cases hil : i < l0_0.length
      · have hilz : (i : Int) < (l0_0.length : Int) := by omega
        have hwi : wrap64 ((i : Int) + 1) = ((i + 1 : Nat) : Int) := by have := HN.out; rw [wrap_succ i (by omega)]
        go_upto_region 9 with (fail)
        try rw [hwi]
        clear hwi
        obtain ⟨w4, rfl⟩ : ∃ x, x = wr := ⟨_, rfl⟩
        have HR := Aside0.mk (show Kd.R k100 109 w4 w2.heap.size (fun _ => True) u5 (urTo l0_0 M i (i + 1)) from by rw [urTo_start]; exact HR.out)
        go_loopg [5, 7] l0_0.length (fun gg s5 s7 wr => ∃ k : Nat, i < k ∧ k ≤ l0_0.length ∧ l0_0.length - k ≤ gg ∧ s7 = .int .i64 k ∧ Aside0 (Below w.heap.size w wr) ∧ Aside0 (OrdIn wo wr p N1 N2 l0_0.length (.slice A l0_0.length c) (nums l0_0) (abv l0_0 l0_1) M) ∧ Aside0 (Kd.R k100 109 wr w2.heap.size (fun _ => True) s5 (urTo l0_0 M i k)) ∧ Aside0 (w2.heap.size ≤ wr.heap.size))
        case atStart => exact ⟨i + 1, by omega, by omega, by omega, rfl, HB, HO, HR, HSZ⟩
        case round =>
          clear HB HO HR HSZ
          obtain ⟨k, hik, hk, hgg2, rfl, HB, HO, HR, HSZ⟩ := hrel
          have g0 := HO.out.c0
          by_cases hkl : k < l0_0.length
          · have hklz : (k : Int) < (l0_0.length : Int) := by omega
            have g1 := HO.out.c2
            have g2 := HO.out.m2.topc hil
            have g3 := HO.out.m2.cell hil hkl
            have g4 := HO.out.m2.topc hkl
            have g5 := HO.out.m2.cell hkl hil
            have hi0 : (0 : Int) ≤ (i : Int) := by omega
            have hk0 : (0 : Int) ≤ (k : Int) := by omega
            have HS := urTo_succ l0_0 M i k hik
            obtain ⟨ma, hma⟩ : ∃ x, M i k = x := ⟨_, rfl⟩
            obtain ⟨mb, hmb⟩ : ∃ x, M k i = x := ⟨_, rfl⟩
            rw [hma] at g3 HS
            rw [hmb] at g5 HS
            clear hma hmb
            have hway : (ma = true ∨ mb = true) ∨ (ma = false ∧ mb = false) := by cases ma <;> cases mb <;> simp
            rcases hway with hway | ⟨rfl, rfl⟩
            · have HSA := Aside0.mk (show urTo l0_0 M i (k + 1) = urTo l0_0 M i k from by
                rw [HS, if_neg]
                rcases hway with rfl | rfl <;> simp)
              clear HS
              cases ma <;> cases mb <;> first | (exfalso; simp at hway; done) | skip
              all_goals clear hway
              all_goals
                go_wp2
                go_roundg (l0_0.length - (k + 1))
                case measure => omega
                case rel => exact ⟨k + 1, by omega, by omega, by omega, by first | go_num | exact congrArg (Value.int .i64) (wrap_succ k (by have := HN.out; omega)), HB, HO, by rw [HSA.out]; exact HR, HSZ⟩
            · rw [if_pos (by rfl)] at HS
              have HCN := Aside0.mk (show Kd.C (Kd.int .i64) wr A l0_0.length (nums l0_0) from by have h := (Kd.R_reads' HO.out.ns).2.2; rw [nums_length] at h; exact h)
              obtain ⟨ad, ea, hx1⟩ := Kd.at_int HCN.out (i : Int) (by omega) hilz
              obtain ⟨ad', eb, hx2⟩ := Kd.at_int HCN.out (k : Int) (by omega) hklz
              subst ea
              obtain rfl := Option.some.inj eb
              rw [rd_numsU l0_0 i hil, Int.toNat_natCast] at hx1
              rw [rd_numsU l0_0 k hkl, Int.toNat_natCast] at hx2
              obtain ⟨y0, hy0⟩ : ∃ y, (l0_0.getD i z108).f0 = y := ⟨_, rfl⟩
              obtain ⟨y1, hy1⟩ : ∃ y, (l0_0.getD k z108).f0 = y := ⟨_, rfl⟩
              rw [hy0] at hx1 HS
              rw [hy1] at hx2 HS
              have HSA := Aside0.mk HS
              clear hy0 hy1 HCN eb HS
              go_upto_region 12 with (fail)
              have HS0 := Aside0.mk (show (fun w' : World => w'.cell? ⟨p, 0, none⟩ = some (.slice (some ad) l0_0.length c) ∧ w'.cell? (ad.add i) = some (.int .i64 y0) ∧ w'.cell? (ad.add k) = some (.int .i64 y1) ∧ Aside0 (Below w.heap.size w w') ∧ Aside0 (OrdIn wo w' p N1 N2 l0_0.length (.slice (some ad) l0_0.length c) (nums l0_0) (abv l0_0 l0_1) M) ∧ Aside0 (Kd.R k100 109 w' w2.heap.size (fun _ => True) u5 (urTo l0_0 M i k)) ∧ Aside0 (w2.heap.size ≤ w'.heap.size)) wr.drew from ⟨HO.out.drew.c0, hx1, hx2, ⟨below_drew1 HB.out⟩, ⟨HO.out.drew⟩, ⟨Kd.R_drew HR.out⟩, HSZ⟩)
              have HQL := Aside0.mk (show ((urTo l0_0 M i k).length + 1) * 16 ≤ 140737488355328 from by
                have h1 := urTo_le l0_0 M i k
                have h2 := HN.out
                have h3 : i * l0_0.length ≤ 1000 * 1000 := Nat.mul_le_mul (by omega) (by omega)
                omega)
              clear g0 g1 g2 g3 g4 g5 hx1 hx2 HB HO HR
              all_goals refine start_ (n := 19) (S := (fun w' : World => w'.cell? ⟨p, 0, none⟩ = some (.slice (some ad) l0_0.length c) ∧ w'.cell? (ad.add i) = some (.int .i64 y0) ∧ w'.cell? (ad.add k) = some (.int .i64 y1) ∧ Aside0 (Below w.heap.size w w') ∧ Aside0 (OrdIn wo w' p N1 N2 l0_0.length (.slice (some ad) l0_0.length c) (nums l0_0) (abv l0_0 l0_1) M) ∧ Aside0 (Kd.R k100 109 w' w2.heap.size (fun _ => True) u5 (urTo l0_0 M i k)) ∧ Aside0 (w2.heap.size ≤ w'.heap.size))) (ds := [16, 17]) (bl 0 19) (by kernel_rfl) rfl rfl HS0.out (fun hHeld => ?_); refine with_tabW impl_UnrelatedPairs.tab12 impl_UnrelatedPairs.bits12 (fun HT_ HW_ => ?_)
              all_goals generalize wr.drew = wv at hHeld ⊢
              all_goals first | refine pA_ 0 (some 57) (bl 1 19) HT_.out (h := ?_) | refine pO_ 0 (some 57) (bl 1 19) HT_.out (h := ?_)
              all_goals first | refine pA_ 1 (some 58) (bl 2 19) HT_.out (h := ?_) | refine pO_ 1 (some 58) (bl 2 19) HT_.out (h := ?_)
              all_goals first | refine pA_ 2 (some 59) (bl 3 19) HT_.out (h := ?_) | refine pO_ 2 (some 59) (bl 3 19) HT_.out (h := ?_)
              all_goals first | refine pA_ 3 (some 60) (bl 4 19) HT_.out (h := ?_) | refine pO_ 3 (some 60) (bl 4 19) HT_.out (h := ?_)
              all_goals first | refine pA_ 5 (some 62) (bx 4 [5] 19) HT_.out (h := ?_) | refine pO_ 5 (some 62) (bx 4 [5] 19) HT_.out (h := ?_)
              all_goals first | refine pA_ 8 (some 65) (bx 4 [5, 8] 19) HT_.out (h := ?_) | refine pO_ 8 (some 65) (bx 4 [5, 8] 19) HT_.out (h := ?_)
              all_goals first | refine pA_ 9 (some 66) (bx 4 [5, 8, 9] 19) HT_.out (h := ?_) | refine pO_ 9 (some 66) (bx 4 [5, 8, 9] 19) HT_.out (h := ?_)
              all_goals first | refine pA_ 10 (some 67) (bx 4 [5, 8, 9, 10] 19) HT_.out (h := ?_) | refine pO_ 10 (some 67) (bx 4 [5, 8, 9, 10] 19) HT_.out (h := ?_)
              all_goals first | refine pA_ 12 (some 69) (bx 4 [5, 8, 9, 10, 12] 19) HT_.out (h := ?_) | refine pO_ 12 (some 69) (bx 4 [5, 8, 9, 10, 12] 19) HT_.out (h := ?_)
              all_goals first | refine tA_ 4 (some 61) (bx 6 [8, 9, 10, 12] 19) HT_.out HW_.out hHeld (h := ?_) | refine pO_ 4 (some 61) (bx 6 [8, 9, 10, 12] 19) HT_.out (h := ?_)
              all_goals first | refine pA_ 6 (some 63) (bx 7 [8, 9, 10, 12] 19) HT_.out (h := ?_) | refine pO_ 6 (some 63) (bx 7 [8, 9, 10, 12] 19) HT_.out (h := ?_)
              all_goals first | refine tA_ 7 (some 64) (bx 11 [12] 19) HT_.out HW_.out hHeld (h := ?_) | refine pO_ 7 (some 64) (bx 11 [12] 19) HT_.out (h := ?_)
              all_goals first | refine tA_ 11 (some 68) (bl 13 19) HT_.out HW_.out hHeld (h := ?_) | refine pO_ 11 (some 68) (bl 13 19) HT_.out (h := ?_)
              all_goals first | refine pA_ 13 (some 70) (bl 14 19) HT_.out (h := ?_) | refine pO_ 13 (some 70) (bl 14 19) HT_.out (h := ?_)
              all_goals first | refine tA_ 14 (some 71) (bl 15 19) HT_.out HW_.out hHeld (h := ?_) | refine pO_ 14 (some 71) (bl 15 19) HT_.out (h := ?_)
              all_goals first | refine pA_ 15 (some 72) (bl 16 19) HT_.out (h := ?_) | refine pO_ 15 (some 72) (bl 16 19) HT_.out (h := ?_)
              all_goals (refine last_ (i := 16) (N := some 73) (bl 17 19) rfl rfl (one_of HT_.out (by kernel_rfl)) (by decide) (fun K hK => ?_); have HV := hHeld; refine value_ (by rfl) rfl (by go_simp; constructor; rfl; rfl) ?_; skip; refine hK.out _ _ ?_; clear hK K; refine norm_ (a' := ?_) ?_ ?_; rotate_left; focus (show Act.put _ (some 73) _ = _; simp only [Act.put, List.setIfInBounds_toArray, List.set_cons_zero, List.set_cons_succ, i64_w, i32_w]; rfl))
              all_goals (refine last_ (i := 17) (N := some 74) (bl 18 19) rfl rfl (one_of HT_.out (by kernel_rfl)) (by decide) (fun K hK => ?_); refine Kd.R_append_step k100 (w0 := wv) w2.heap.size (by rfl) (.tmp 57) (.tmp 73) 61 109 (.agg #[(.int .i64 0), (.int .i64 0)]) 16 rfl Try.underlying61 info109 rfl (by decide) (by decide) u5 (urTo l0_0 M i k) (⟨y0, y1⟩ : S100) [.int .i64 y0, .int .i64 y1] (fun _ => True) (fun _ => False) rfl rfl (k100_mkM _ _ _ (⟨y0, y1⟩ : S100)) (fun _ hk => hk.elim) (fun _ _ => trivial) ?aO (Below.refl _ _) ?aS ?aL ?_; (case aO => exact HV.2.2.2.2.2.1.out); (case aS => exact HV.2.2.2.2.2.2.out); (case aL => exact HQL.out); intro v1 w5 ho hb hg hat; have AB := Aside0.mk (below_of_grown HV.2.2.2.1.out hg (fun b hb => Nat.le_trans HSW.out (Kd.R_base HV.2.2.2.2.2.1.out b hb))); have AO := Aside0.mk (OrdIn.other HV.2.2.2.2.1.out HV.2.2.2.2.2.1.out HSO.out hg (by decide) (by decide) (by decide) (by decide)); have AL := Aside0.mk (show Kd.R k100 109 w5 w2.heap.size (fun _ => True) v1 (urTo l0_0 M i (k + 1)) from by rw [HSA.out]; exact ho); have AZ := Aside0.mk (Nat.le_trans HV.2.2.2.2.2.2.out hg.size); clear hat hg hb ho HV; refine hK.out _ _ ?_; clear hK K; refine norm_ (a' := ?_) ?_ ?_; rotate_left; focus (show Act.put _ (some 74) _ = _; simp only [Act.put, List.setIfInBounds_toArray, List.set_cons_zero, List.set_cons_succ, i64_w, i32_w]; rfl))
              all_goals first | refine pA_ 18 (some 5) (bl 19 19) HT_.out (h := ?_) | refine pO_ 18 (some 5) (bl 19 19) HT_.out (h := ?_)
              all_goals refine done_ (done_of HT_.out (by kernel_rfl)) ?_
              go_wp2
              go_roundg (l0_0.length - (k + 1))
              case measure => omega
              case rel => exact ⟨k + 1, by omega, by omega, by omega, by first | go_num | exact congrArg (Value.int .i64) (wrap_succ k (by have := HN.out; omega)), AB, AO, AL, AZ⟩
          · obtain rfl : k = l0_0.length := by omega
            have hkz : ¬ ((l0_0.length : Int) < (l0_0.length : Int)) := by omega
            have HRW := Aside0.mk (urTo_row l0_0 M i)
            go_wp2
            go_roundg (l0_0.length - (i + 1))
            case measure => omega
            case rel => exact ⟨i + 1, by omega, by omega, by first | go_num | exact congrArg (Value.int .i64) (wrap_succ i (by have := HN.out; omega)), HB, HO, by rw [← HRW.out]; exact HR, HSZ⟩
      · obtain rfl : i = l0_0.length := by omega
        have hkz : ¬ ((l0_0.length : Int) < (l0_0.length : Int)) := by omega
        go_wp2
        go_ret2
        exact ⟨_, rfl, by rw [← HR1_.out]; exact Kd.R_lower HR.out HSW.out, HB.out⟩

end Go.Proofs.Ytlbkoejpjpcgaaa.Q

-- Written by a program of this session (wip/xprint.py over the kit's printer).
import Derived.Test.YtlbkoejpjpcgaaaQ0
import Derived.Test.YtlbkoejpjpcgaaaQF38
import Derived.Test.YtlbkoejpjpcgaaaQF67
import Derived.Test.YtlbkoejpjpcgaaaQF83
import Derived.Test.YtlbkoejpjpcgaaaQF84
import Derived.Test.YtlbkoejpjpcgaaaQF85
import Derived.Test.YtlbkoejpjpcgaaaQF90
import Derived.Test.YtlbkoejpjpcgaaaQP
namespace Go.Proofs.Ytlbkoejpjpcgaaa.Q
open Go.RowKit Go.Proofs.YtlbkoejpjpcgaaaW.PrintWords Go.Proofs.YtlbkoejpjpcgaaaW.PrintLast
set_option linter.unusedVariables false
set_option linter.unusedSimpArgs false

/-! ### spec_UnrelatedPairs: function 37 -/
theorem grown_to_below {w w1 : World} (h : w.grownBy w1 none) : Below w.heap.size w w1 := ⟨h.os, h.tape, h.output, h.size, fun k hk => h.block k hk (by simp)⟩
def bitM (ms : List Int) (i k : Nat) : Bool := spec_l4Bit.f (ms.getD i 0) (k : Int) == some true
def bitsOk (ms : List Int) : Bool := (List.range ms.length).all fun i => (List.range ms.length).all fun k => (spec_l4Bit.f (ms.getD i 0) (k : Int)).isSome
theorem bitsOk_at {ms : List Int} (h : bitsOk ms = true) {i k : Nat} (hi : i < ms.length) (hk : k < ms.length) : spec_l4Bit.f (ms.getD i 0) (k : Int) = some (bitM ms i k) := by
  unfold bitsOk at h
  rw [List.all_eq_true] at h
  have h1 := h i (List.mem_range.2 hi)
  rw [List.all_eq_true] at h1
  have h2 := h1 k (List.mem_range.2 hk)
  obtain ⟨b, hb⟩ := Option.isSome_iff_exists.1 h2
  unfold bitM
  rw [hb]
  cases b <;> rfl
def spec_UnrelatedPairs.f (k : Nat) (l0_0 : List S108) (l0_1 : List S100) : Option (List S100 × Bool) := if goodB l0_0 l0_1 = true then (spec_l4Later.f k l0_0 l0_1).bind fun ms => if ms.length = l0_0.length ∧ l0_0.length ≤ 1000 ∧ bitsOk ms = true then some (urAll l0_0 (bitM ms) l0_0.length, true) else none else some ([], false)
def spec_UnrelatedPairs.T12 : Bool × List (List Nat × List Nat) := (true, [([], []), ([], []), ([1], [1]), ([], []), ([2, 3], [2, 3]), ([4], [4]), ([5], [5]), ([], []), ([7], [7]), ([], []), ([8, 9], [8, 9]), ([10], [10]), ([11], [11]), ([6, 12], [6, 12]), ([13], [13]), ([0, 14], [0, 14]), ([15, 15, 0, 1, 2, 3, 4, 5, 6, 7, 8, 9, 10, 11, 12, 13, 14, 15], [0, 15])])
def spec_UnrelatedPairs.B12 : List Nat := [0, 0, 2, 0, 14, 30, 62, 0, 128, 0, 896, 1920, 3968, 8190, 16382, 32767, 65535]
theorem spec_UnrelatedPairs.tab12 : rtab .any (opsOf Try.f37 12) = spec_UnrelatedPairs.T12 := by kernel_rfl
theorem spec_UnrelatedPairs.bits12 : waitsOk spec_UnrelatedPairs.T12.2 spec_UnrelatedPairs.B12 = true := by kernel_rfl
set_option maxHeartbeats 8000000 in
set_option maxRecDepth 100000 in
theorem spec_UnrelatedPairs.calls (k : Nat) (A0_0 : Option Addr) (c0_0 : Nat) (l0_0 : List S108) (A0_1 : Option Addr) (c0_1 : Nat) (l0_1 : List S100) (r1 : List S100) (r2 : Bool) (w : World) (hr0_0 : Kd.C k108 w A0_0 l0_0.length l0_0) (hc0_0 : l0_0.length ≤ c0_0) (hr0_1 : Kd.C k100 w A0_1 l0_1.length l0_1) (hc0_1 : l0_1.length ≤ c0_1) (h : spec_UnrelatedPairs.f k l0_0 l0_1 = some (r1, r2)) :
    Calls Try.prog 37 #[.agg #[.slice A0_0 l0_0.length c0_0, .slice A0_1 l0_1.length c0_1]] w fun e w' => ∃ v0_ : Value, e = .returned (.tuple #[v0_, .bool r2]) ∧ Kd.R k100 109 w' w.heap.size (fun _ => True) v0_ r1 ∧ Below w.heap.size w w' := by
  unfold spec_UnrelatedPairs.f at h
  have HR0 := Aside0.mk hr0_0
  have HR1 := Aside0.mk hr0_1
  have HC0 := Aside0.mk hc0_0
  have HC1 := Aside0.mk hc0_1
  clear hr0_0 hr0_1 hc0_0 hc0_1
  obtain ⟨wb, hwb⟩ : ∃ wb, (w).alloc (.cells #[.slice A0_0 l0_0.length c0_0, .slice A0_1 l0_1.length c0_1] 33 (0, 0)) = wb := ⟨_, rfl⟩
  have HBw := Aside0.mk (show Below w.heap.size w wb from by rw [← hwb]; repeat (first | exact Below.refl _ _ | apply below_alloc))
  have HWB := HBw
  have hhr : wb.heap[w.heap.size]? = some (.cells #[.slice A0_0 l0_0.length c0_0, .slice A0_1 l0_1.length c0_1] 33 (0, 0)) := by rw [← hwb]; have h := blk_new (w) (.cells #[.slice A0_0 l0_0.length c0_0, .slice A0_1 l0_1.length c0_1] 33 (0, 0)); rw [show (w).heap.size = w.heap.size from by rfl] at h; exact h
  have hb0 : wb.cell? ⟨w.heap.size, 0, none⟩ = some (.slice A0_0 l0_0.length c0_0) := (blk_cell hhr 0).trans rfl
  have hb1 : wb.cell? ⟨w.heap.size, 1, none⟩ = some (.slice A0_1 l0_1.length c0_1) := (blk_cell hhr 1).trans rfl
  have hbs : w.heap.size < wb.heap.size := blk_lt hhr
  have HW := Aside0.mk hwb
  clear hwb
  obtain ⟨kq, hkq⟩ : ∃ q, q = k := ⟨_, rfl⟩
  rw [← hkq] at h
  clear hkq k
  obtain ⟨b, hb⟩ : ∃ b, goodB l0_0 l0_1 = b := ⟨_, rfl⟩
  have AV := Aside0.mk (show spec_l2Good.f l0_0 l0_1 = some b from congrArg some hb)
  rw [hb] at h
  clear hb
  cases b with
  | false =>
    injection h with h
    injection h with H1 H2
    subst H1; subst H2
    clear hhr
    go_enter Try.func37, Try.ntmps37
    go_upto_region 1 with (fail)
    try rw [HW.out]
    clear HW
    go_upto_region 2 with ((with_reducible refine gate_dst (N := 8) rfl ?_); refine Kd.R_lit k100 (w0 := w) w.heap.size 109 ?hg (N := 8) ?hd (xs := ([] : List S100)) (inner := []) (ok := fun _ => True) (okp := fun _ => True) ?hr ?hp (fun _ hk => hk) trivial (by repeat (first | exact HBw.out | exact Below.refl _ _ | apply below_alloc | apply pw_below_drewN | apply below_drew1)) HBw.out.size (by simp) ?_; (case hd => rfl); (case hg => rfl); (case hr => first | (go_simp; done) | (go_simp; rfl)); (case hp => exact (Reps.none _ _)); intro v0 w1 ho hb_ hg_ hnew_; have hb := grown_to_below hg_; clear hb_ hg_ hnew_; have HR := Aside0.mk ho; have HBw : Aside0 (Below w.heap.size w w1) := Aside0.mk (below_chain (w := w) (by repeat (first | exact HBw.out | exact Below.refl _ _ | apply below_alloc | apply pw_below_drewN | apply below_drew1)) hb); have hb0 := pw_cell_below hb hb0; have hb1 := pw_cell_below hb hb1; clear ho hb)
    go_wp2_with (go_at_call 67; (with_reducible refine (spec_l2Good.calls _ _ l0_0 _ _ l0_1 _ _ (Kd.C_below HR0.out (by repeat (first | exact HBw.out | exact Below.refl _ _ | apply below_alloc | apply pw_below_drewN | apply below_drew1))) HC0.out (Kd.C_below HR1.out (by repeat (first | exact HBw.out | exact Below.refl _ _ | apply below_alloc | apply pw_below_drewN | apply below_drew1))) HC1.out AV.out).mono ?_); rintro e w2 ⟨rfl, hb⟩; have HR := Aside0.mk (Kd.R_below HR.out hb); have HBw : Aside0 (Below w.heap.size w w2) := Aside0.mk (below_chain (w := w) (by repeat (first | exact HBw.out | exact Below.refl _ _ | apply below_alloc | apply pw_below_drewN | apply below_drew1)) hb); have hb0 := pw_cell_below hb hb0; have hb1 := pw_cell_below hb hb1; clear hb)
    go_ret2
    exact ⟨_, rfl, HR.out, (by repeat (first | exact HBw.out | exact Below.refl _ _ | apply below_alloc | apply pw_below_drewN | apply below_drew1))⟩
  | true =>
    rw [if_pos rfl] at h
    obtain ⟨om, hom⟩ : ∃ o, spec_l4Later.f kq l0_0 l0_1 = o := ⟨_, rfl⟩
    rw [hom] at h
    cases om with
    | none => cases h
    | some ms =>
    rw [Option.bind_some] at h
    have HLT := Aside0.mk hom
    clear hom
    have hc : ms.length = l0_0.length ∧ l0_0.length ≤ 1000 ∧ bitsOk ms = true := by
      by_cases hx : ms.length = l0_0.length ∧ l0_0.length ≤ 1000 ∧ bitsOk ms = true
      · exact hx
      · rw [if_neg hx] at h; cases h
    rw [if_pos hc] at h
    have HC_ := Aside0.mk hc
    clear hc
    injection h with h
    injection h with H1 H2
    have HR1_ := Aside0.mk H1
    subst H2
    clear H1
    have BX := Aside0.mk hhr
    clear hhr
    go_enter Try.func37, Try.ntmps37
    go_upto_region 1 with (fail)
    try rw [HW.out]
    clear HW
    go_upto_region 2 with ((with_reducible refine gate_dst (N := 8) rfl ?_); refine Kd.R_lit k100 (w0 := w) w.heap.size 109 ?hg (N := 8) ?hd (xs := ([] : List S100)) (inner := []) (ok := fun _ => True) (okp := fun _ => True) ?hr ?hp (fun _ hk => hk) trivial (by repeat (first | exact HBw.out | exact Below.refl _ _ | apply below_alloc | apply pw_below_drewN | apply below_drew1)) HBw.out.size (by simp) ?_; (case hd => rfl); (case hg => rfl); (case hr => first | (go_simp; done) | (go_simp; rfl)); (case hp => exact (Reps.none _ _)); intro v0 w1 ho hb_ hg_ hnew_; have hb := grown_to_below hg_; clear hb_ hg_ hnew_; have HR := Aside0.mk ho; have BX := Aside0.mk (blk_below BX.out hb); have HBw : Aside0 (Below w.heap.size w w1) := Aside0.mk (below_chain (w := w) (by repeat (first | exact HBw.out | exact Below.refl _ _ | apply below_alloc | apply pw_below_drewN | apply below_drew1)) hb); have hb0 := pw_cell_below hb hb0; have hb1 := pw_cell_below hb hb1; clear ho hb)
    go_upto_region 5 with (first | (go_at_call 67; (with_reducible refine (spec_l2Good.calls _ _ l0_0 _ _ l0_1 _ _ (Kd.C_below HR0.out (by repeat (first | exact HBw.out | exact Below.refl _ _ | apply below_alloc | apply pw_below_drewN | apply below_drew1))) HC0.out (Kd.C_below HR1.out (by repeat (first | exact HBw.out | exact Below.refl _ _ | apply below_alloc | apply pw_below_drewN | apply below_drew1))) HC1.out AV.out).mono ?_); rintro e w2 ⟨rfl, hb⟩; have HR := Aside0.mk (Kd.R_below HR.out hb); have BX := Aside0.mk (blk_below BX.out hb); have HBw : Aside0 (Below w.heap.size w w2) := Aside0.mk (below_chain (w := w) (by repeat (first | exact HBw.out | exact Below.refl _ _ | apply below_alloc | apply pw_below_drewN | apply below_drew1)) hb); have hb0 := pw_cell_below hb hb0; have hb1 := pw_cell_below hb hb1; clear hb) | (go_at_call 83; (refine (spec_l4Later.calls kq _ _ l0_0 _ _ l0_1 ms _ (Kd.C_below HR0.out (by repeat (first | exact HBw.out | exact Below.refl _ _ | apply below_alloc | apply pw_below_drewN | apply below_drew1))) HC0.out (Kd.C_below HR1.out (by repeat (first | exact HBw.out | exact Below.refl _ _ | apply below_alloc | apply pw_below_drewN | apply below_drew1))) HC1.out HLT.out).mono ?_); rintro e w3 ⟨v3, rfl, hM, hb⟩; have HM := Aside0.mk hM; have HR := Aside0.mk (Kd.R_below HR.out hb); have BX := Aside0.mk (blk_below BX.out hb); have HBw : Aside0 (Below w.heap.size w w3) := Aside0.mk (below_chain (w := w) (by repeat (first | exact HBw.out | exact Below.refl _ _ | apply below_alloc | apply pw_below_drewN | apply below_drew1)) hb); have hb0 := pw_cell_below hb hb0; clear hM hb))
    obtain ⟨AM, dm, eM⟩ := Kd.R_slice HM.out
    subst eM
    rw [HC_.out.1]
    have HMC := Aside0.mk (show Kd.C (Kd.int .i64) w3 AM l0_0.length ms from by have h := (Kd.R_reads' HM.out).2.2; rw [HC_.out.1] at h; exact h)
    clear HMC
    have HM := Aside0.mk (show Kd.R (Kd.int .i64) 3 w3 w2.heap.size (fun _ => True) (.slice AM l0_0.length dm) ms from by rw [← HC_.out.1]; exact HM.out)
    have HR := Aside0.mk (show Kd.R k100 109 w3 w.heap.size (fun _ => True) v0 (urAll l0_0 (bitM ms) 0) from HR.out)
    have HB := HBw
    clear HBw hb0 hb1
    have HN := Aside0.mk HC_.out.2.1
    go_wp2
    go_loopg [4, 6, 7] l0_0.length (fun gg s4 s6 _ wr => ∃ i : Nat, i ≤ l0_0.length ∧ l0_0.length - i ≤ gg ∧ s6 = .int .i64 i ∧ Aside0 (Below w.heap.size w wr) ∧ Aside0 (wr.heap[w.heap.size]? = some (.cells #[.slice A0_0 l0_0.length c0_0, .slice A0_1 l0_1.length c0_1] 33 (0, 0))) ∧ Aside0 (Kd.R (Kd.int .i64) 3 wr w2.heap.size (fun _ => True) (.slice AM l0_0.length dm) ms) ∧ Aside0 (Kd.R k100 109 wr w.heap.size (fun _ => True) s4 (urAll l0_0 (bitM ms) i)))
    case atStart => exact ⟨0, Nat.zero_le _, by omega, rfl, HB, BX, HM, HR⟩
    case round =>
      clear HB BX HM HR
      obtain ⟨i, hi, hgg, rfl, HB, BX, HM, HR⟩ := hrel
      by_cases hil : i < l0_0.length
      · have hilz : (i : Int) < (l0_0.length : Int) := by omega
        have hwi : wrap64 ((i : Int) + 1) = ((i + 1 : Nat) : Int) := by have := HN.out; rw [wrap_succ i (by omega)]
        go_upto_region 9 with (fail)
        try rw [hwi]
        clear hwi
        obtain ⟨w4, rfl⟩ : ∃ x, x = wr := ⟨_, rfl⟩
        have HR := Aside0.mk (show Kd.R k100 109 w4 w.heap.size (fun _ => True) u4 (urTo l0_0 (bitM ms) i (i + 1)) from by rw [urTo_start]; exact HR.out)
        go_loopg [4, 7] l0_0.length (fun gg s4 s7 wr => ∃ k : Nat, i < k ∧ k ≤ l0_0.length ∧ l0_0.length - k ≤ gg ∧ s7 = .int .i64 k ∧ Aside0 (Below w.heap.size w wr) ∧ Aside0 (wr.heap[w.heap.size]? = some (.cells #[.slice A0_0 l0_0.length c0_0, .slice A0_1 l0_1.length c0_1] 33 (0, 0))) ∧ Aside0 (Kd.R (Kd.int .i64) 3 wr w2.heap.size (fun _ => True) (.slice AM l0_0.length dm) ms) ∧ Aside0 (Kd.R k100 109 wr w.heap.size (fun _ => True) s4 (urTo l0_0 (bitM ms) i k)))
        case atStart => exact ⟨i + 1, by omega, by omega, by omega, rfl, HB, BX, HM, HR⟩
        case round =>
          clear HB BX HM HR
          obtain ⟨k, hik, hk, hgg2, rfl, HB, BX, HM, HR⟩ := hrel
          by_cases hkl : k < l0_0.length
          · have hklz : (k : Int) < (l0_0.length : Int) := by omega
            have hi0 : (0 : Int) ≤ (i : Int) := by omega
            have hk0 : (0 : Int) ≤ (k : Int) := by omega
            have HMC := Aside0.mk (show Kd.C (Kd.int .i64) wr AM l0_0.length ms from by have h := (Kd.R_reads' HM.out).2.2; rw [HC_.out.1] at h; exact h)
            obtain ⟨am, ea, hx1⟩ := Kd.at_int HMC.out (i : Int) hi0 hilz
            obtain ⟨am', eb, hx2⟩ := Kd.at_int HMC.out (k : Int) hk0 hklz
            subst ea
            obtain rfl := Option.some.inj eb
            clear eb HMC
            have e1 : rd ms (i : Int) = ms.getD i 0 := by simp [rd]
            have e2 : rd ms (k : Int) = ms.getD k 0 := by simp [rd]
            rw [e1, Int.toNat_natCast] at hx1
            rw [e2, Int.toNat_natCast] at hx2
            have B1 := Aside0.mk (bitsOk_at HC_.out.2.2 (i := i) (k := k) (by have := HC_.out.1; omega) (by have := HC_.out.1; omega))
            have B2 := Aside0.mk (bitsOk_at HC_.out.2.2 (i := k) (k := i) (by have := HC_.out.1; omega) (by have := HC_.out.1; omega))
            have HS := urTo_succ l0_0 (bitM ms) i k hik
            obtain ⟨ma, hma⟩ : ∃ x, bitM ms i k = x := ⟨_, rfl⟩
            obtain ⟨mb, hmb⟩ : ∃ x, bitM ms k i = x := ⟨_, rfl⟩
            rw [hma] at B1 HS
            rw [hmb] at B2 HS
            obtain ⟨xi, hxi⟩ : ∃ x, ms.getD i 0 = x := ⟨_, rfl⟩
            obtain ⟨xk, hxk⟩ : ∃ x, ms.getD k 0 = x := ⟨_, rfl⟩
            rw [hxi] at hx1 B1
            rw [hxk] at hx2 B2
            clear hma hmb hxi hxk e1 e2
            have hway : (ma = true ∨ mb = true) ∨ (ma = false ∧ mb = false) := by cases ma <;> cases mb <;> simp
            rcases hway with hway | ⟨rfl, rfl⟩
            · have HSA := Aside0.mk (show urTo l0_0 (bitM ms) i (k + 1) = urTo l0_0 (bitM ms) i k from by
                rw [HS, if_neg]
                rcases hway with rfl | rfl <;> simp)
              clear HS
              cases ma <;> cases mb <;> first | (exfalso; simp at hway; done) | skip
              all_goals clear hway
              all_goals
                go_wp2_with (first | (go_at_call 84; (with_reducible refine (spec_l4Bit.calls _ _ _ _ B1.out).mono ?_); rintro e w5 ⟨rfl, hd⟩; have hb := below_chain (by repeat (first | exact Below.refl _ _ | apply below_alloc | apply pw_below_drewN | apply below_drew1)) hd.below; clear hd; have HB := Aside0.mk (below_chain HB.out hb); have BX := Aside0.mk (blk_below BX.out hb); have HM := Aside0.mk (Kd.R_below HM.out hb); have HR := Aside0.mk (Kd.R_below HR.out hb); (try (have hx2 := pw_cell_below hb hx2)); clear hb) | (go_at_call 84; (with_reducible refine (spec_l4Bit.calls _ _ _ _ B2.out).mono ?_); rintro e w5 ⟨rfl, hd⟩; have hb := below_chain (by repeat (first | exact Below.refl _ _ | apply below_alloc | apply pw_below_drewN | apply below_drew1)) hd.below; clear hd; have HB := Aside0.mk (below_chain HB.out hb); have BX := Aside0.mk (blk_below BX.out hb); have HM := Aside0.mk (Kd.R_below HM.out hb); have HR := Aside0.mk (Kd.R_below HR.out hb); (try (have hx2 := pw_cell_below hb hx2)); clear hb))
                go_roundg (l0_0.length - (k + 1))
                case measure => omega
                case rel => exact ⟨k + 1, by omega, by omega, by omega, by first | go_num | exact congrArg (Value.int .i64) (wrap_succ k (by have := HN.out; omega)), HB, BX, HM, by rw [HSA.out]; exact HR⟩
            · rw [if_pos (by rfl)] at HS
              obtain ⟨ad, ea, hy0, _⟩ := at_T108 HR0.out (i : Int) hi0 hilz
              obtain ⟨ad', eb, hy1, _⟩ := at_T108 HR0.out (k : Int) hk0 hklz
              subst ea
              obtain rfl := Option.some.inj eb
              have e3 : rd_T108 l0_0 (i : Int) = l0_0.getD i z108 := by simp [rd_T108]
              have e4 : rd_T108 l0_0 (k : Int) = l0_0.getD k z108 := by simp [rd_T108]
              rw [e3, Int.toNat_natCast] at hy0
              rw [e4, Int.toNat_natCast] at hy1
              obtain ⟨y0, hz0⟩ : ∃ y, (l0_0.getD i z108).f0 = y := ⟨_, rfl⟩
              obtain ⟨y1, hz1⟩ : ∃ y, (l0_0.getD k z108).f0 = y := ⟨_, rfl⟩
              rw [hz0] at hy0 HS
              rw [hz1] at hy1 HS
              have HSA := Aside0.mk HS
              have HY0 := Aside0.mk hy0
              have HY1 := Aside0.mk hy1
              clear hz0 hz1 eb HS e3 e4 hy0 hy1
              go_upto_region 12 with (first | (go_at_call 84; (with_reducible refine (spec_l4Bit.calls _ _ _ _ B1.out).mono ?_); rintro e w5 ⟨rfl, hd⟩; have hb := below_chain (by repeat (first | exact Below.refl _ _ | apply below_alloc | apply pw_below_drewN | apply below_drew1)) hd.below; clear hd; have HB := Aside0.mk (below_chain HB.out hb); have BX := Aside0.mk (blk_below BX.out hb); have HM := Aside0.mk (Kd.R_below HM.out hb); have HR := Aside0.mk (Kd.R_below HR.out hb); (try (have hx2 := pw_cell_below hb hx2)); clear hb) | (go_at_call 84; (with_reducible refine (spec_l4Bit.calls _ _ _ _ B2.out).mono ?_); rintro e w5 ⟨rfl, hd⟩; have hb := below_chain (by repeat (first | exact Below.refl _ _ | apply below_alloc | apply pw_below_drewN | apply below_drew1)) hd.below; clear hd; have HB := Aside0.mk (below_chain HB.out hb); have BX := Aside0.mk (blk_below BX.out hb); have HM := Aside0.mk (Kd.R_below HM.out hb); have HR := Aside0.mk (Kd.R_below HR.out hb); (try (have hx2 := pw_cell_below hb hx2)); clear hb))
              have hb0 := (blk_cell BX.out 0).trans rfl
              have hy0 := (HB.out.cell (World.block_lt_of_cell? w _ HY0.out)).trans HY0.out
              have hy1 := (HB.out.cell (World.block_lt_of_cell? w _ HY1.out)).trans HY1.out
              have HS0 := Aside0.mk (show (fun w' : World => w'.cell? ⟨w.heap.size, 0, none⟩ = some (.slice (some ad) l0_0.length c0_0) ∧ w'.cell? (ad.add (i * 2)) = some (.int .i64 y0) ∧ w'.cell? (ad.add (k * 2)) = some (.int .i64 y1) ∧ Aside0 (Below w.heap.size w w') ∧ Aside0 (w'.heap[w.heap.size]? = some (.cells #[.slice (some ad) l0_0.length c0_0, .slice A0_1 l0_1.length c0_1] 33 (0, 0))) ∧ Aside0 (Kd.R (Kd.int .i64) 3 w' w2.heap.size (fun _ => True) (.slice (some am) l0_0.length dm) ms) ∧ Aside0 (Kd.R k100 109 w' w.heap.size (fun _ => True) u4 (urTo l0_0 (bitM ms) i k))) w5.drew from ⟨hb0, hy0, hy1, ⟨below_drew1 HB.out⟩, ⟨blk_drew BX.out⟩, ⟨Kd.R_drew HM.out⟩, ⟨Kd.R_drew HR.out⟩⟩)
              have HQL := Aside0.mk (show ((urTo l0_0 (bitM ms) i k).length + 1) * 16 ≤ 140737488355328 from by
                have h1 := urTo_le l0_0 (bitM ms) i k
                have h2 := HN.out
                have h3 : i * l0_0.length ≤ 1000 * 1000 := Nat.mul_le_mul (by omega) (by omega)
                omega)
              have HSZ := Aside0.mk HB.out.size
              clear hb0 hy0 hy1 hx1 hx2 HB BX HM HR
              all_goals refine start_ (n := 17) (S := (fun w' : World => w'.cell? ⟨w.heap.size, 0, none⟩ = some (.slice (some ad) l0_0.length c0_0) ∧ w'.cell? (ad.add (i * 2)) = some (.int .i64 y0) ∧ w'.cell? (ad.add (k * 2)) = some (.int .i64 y1) ∧ Aside0 (Below w.heap.size w w') ∧ Aside0 (w'.heap[w.heap.size]? = some (.cells #[.slice (some ad) l0_0.length c0_0, .slice A0_1 l0_1.length c0_1] 33 (0, 0))) ∧ Aside0 (Kd.R (Kd.int .i64) 3 w' w2.heap.size (fun _ => True) (.slice (some am) l0_0.length dm) ms) ∧ Aside0 (Kd.R k100 109 w' w.heap.size (fun _ => True) u4 (urTo l0_0 (bitM ms) i k)))) (ds := [14, 15]) (bl 0 17) (by kernel_rfl) rfl rfl HS0.out (fun hHeld => ?_); refine with_tabW spec_UnrelatedPairs.tab12 spec_UnrelatedPairs.bits12 (fun HT_ HW_ => ?_)
              all_goals generalize w5.drew = wv at hHeld ⊢
              all_goals first | refine pA_ 0 (some 45) (bl 1 17) HT_.out (h := ?_) | refine pO_ 0 (some 45) (bl 1 17) HT_.out (h := ?_)
              all_goals first | refine pA_ 1 (some 46) (bl 2 17) HT_.out (h := ?_) | refine pO_ 1 (some 46) (bl 2 17) HT_.out (h := ?_)
              all_goals first | refine pA_ 3 (some 48) (bx 2 [3] 17) HT_.out (h := ?_) | refine pO_ 3 (some 48) (bx 2 [3] 17) HT_.out (h := ?_)
              all_goals first | refine pA_ 7 (some 52) (bx 2 [3, 7] 17) HT_.out (h := ?_) | refine pO_ 7 (some 52) (bx 2 [3, 7] 17) HT_.out (h := ?_)
              all_goals first | refine pA_ 9 (some 54) (bx 2 [3, 7, 9] 17) HT_.out (h := ?_) | refine pO_ 9 (some 54) (bx 2 [3, 7, 9] 17) HT_.out (h := ?_)
              all_goals first | refine tA_ 2 (some 47) (bx 4 [7, 9] 17) HT_.out HW_.out hHeld (h := ?_) | refine pO_ 2 (some 47) (bx 4 [7, 9] 17) HT_.out (h := ?_)
              all_goals first | refine pA_ 4 (some 49) (bx 5 [7, 9] 17) HT_.out (h := ?_) | refine pO_ 4 (some 49) (bx 5 [7, 9] 17) HT_.out (h := ?_)
              all_goals first | refine pA_ 5 (some 50) (bx 6 [7, 9] 17) HT_.out (h := ?_) | refine pO_ 5 (some 50) (bx 6 [7, 9] 17) HT_.out (h := ?_)
              all_goals first | refine tA_ 6 (some 51) (bx 8 [9] 17) HT_.out HW_.out hHeld (h := ?_) | refine pO_ 6 (some 51) (bx 8 [9] 17) HT_.out (h := ?_)
              all_goals first | refine tA_ 8 (some 53) (bl 10 17) HT_.out HW_.out hHeld (h := ?_) | refine pO_ 8 (some 53) (bl 10 17) HT_.out (h := ?_)
              all_goals first | refine pA_ 10 (some 55) (bl 11 17) HT_.out (h := ?_) | refine pO_ 10 (some 55) (bl 11 17) HT_.out (h := ?_)
              all_goals first | refine pA_ 11 (some 56) (bl 12 17) HT_.out (h := ?_) | refine pO_ 11 (some 56) (bl 12 17) HT_.out (h := ?_)
              all_goals first | refine tA_ 12 (some 57) (bl 13 17) HT_.out HW_.out hHeld (h := ?_) | refine pO_ 12 (some 57) (bl 13 17) HT_.out (h := ?_)
              all_goals first | refine pA_ 13 (some 58) (bl 14 17) HT_.out (h := ?_) | refine pO_ 13 (some 58) (bl 14 17) HT_.out (h := ?_)
              all_goals (refine last_ (i := 14) (N := some 59) (bl 15 17) rfl rfl (one_of HT_.out (by kernel_rfl)) (by decide) (fun K hK => ?_); have HV := hHeld; refine value_ (by rfl) rfl (by go_simp; constructor; rfl; rfl) ?_; skip; refine hK.out _ _ ?_; clear hK K; refine norm_ (a' := ?_) ?_ ?_; rotate_left; focus (show Act.put _ (some 59) _ = _; simp only [Act.put, List.setIfInBounds_toArray, List.set_cons_zero, List.set_cons_succ, i64_w, i32_w]; rfl))
              all_goals (refine last_ (i := 15) (N := some 60) (bl 16 17) rfl rfl (one_of HT_.out (by kernel_rfl)) (by decide) (fun K hK => ?_); refine Kd.R_append_step k100 (w0 := w) w.heap.size (by rfl) (.tmp 45) (.tmp 59) 61 109 (.agg #[(.int .i64 0), (.int .i64 0)]) 16 rfl Try.underlying61 info109 rfl (by decide) (by decide) u4 (urTo l0_0 (bitM ms) i k) (⟨y0, y1⟩ : S100) [.int .i64 y0, .int .i64 y1] (fun _ => True) (fun _ => False) rfl rfl (k100_mkM _ _ _ (⟨y0, y1⟩ : S100)) (fun _ hk => hk.elim) (fun _ _ => trivial) ?aO HV.2.2.2.1.out ?aS ?aL ?_; (case aO => exact HV.2.2.2.2.2.2.out); (case aS => exact HV.2.2.2.1.out.size); (case aL => exact HQL.out); intro v1 w6 ho hb hg hat; have AB := Aside0.mk hb; have AX := Aside0.mk (blk_grown HV.2.2.2.2.1.out hg (Kd.R_ne HV.2.2.2.2.2.2.out HV.2.2.2.2.1.out (by decide))); have AM_ := Aside0.mk (Kd.R_grown2 HV.2.2.2.2.2.1.out rfl hg (rows_ne HV.2.2.2.2.2.2.out HV.2.2.2.2.2.1.out (by decide))); have AL := Aside0.mk (show Kd.R k100 109 w6 w.heap.size (fun _ => True) v1 (urTo l0_0 (bitM ms) i (k + 1)) from by rw [HSA.out]; exact ho); clear hat hg hb ho HV; refine hK.out _ _ ?_; clear hK K; refine norm_ (a' := ?_) ?_ ?_; rotate_left; focus (show Act.put _ (some 60) _ = _; simp only [Act.put, List.setIfInBounds_toArray, List.set_cons_zero, List.set_cons_succ, i64_w, i32_w]; rfl))
              all_goals first | refine pA_ 16 (some 4) (bl 17 17) HT_.out (h := ?_) | refine pO_ 16 (some 4) (bl 17 17) HT_.out (h := ?_)
              all_goals refine done_ (done_of HT_.out (by kernel_rfl)) ?_
              go_wp2
              go_roundg (l0_0.length - (k + 1))
              case measure => omega
              case rel => exact ⟨k + 1, by omega, by omega, by omega, by first | go_num | exact congrArg (Value.int .i64) (wrap_succ k (by have := HN.out; omega)), AB, AX, AM_, AL⟩
          · obtain rfl : k = l0_0.length := by omega
            have hkz : ¬ ((l0_0.length : Int) < (l0_0.length : Int)) := by omega
            have HRW := Aside0.mk (urTo_row l0_0 (bitM ms) i)
            go_wp2
            go_roundg (l0_0.length - (i + 1))
            case measure => omega
            case rel => exact ⟨i + 1, by omega, by omega, by first | go_num | exact congrArg (Value.int .i64) (wrap_succ i (by have := HN.out; omega)), HB, BX, HM, by rw [← HRW.out]; exact HR⟩
      · obtain rfl : i = l0_0.length := by omega
        have hkz : ¬ ((l0_0.length : Int) < (l0_0.length : Int)) := by omega
        go_wp2
        go_ret2
        exact ⟨_, rfl, by rw [← HR1_.out]; exact HR.out, HB.out⟩

end Go.Proofs.Ytlbkoejpjpcgaaa.Q

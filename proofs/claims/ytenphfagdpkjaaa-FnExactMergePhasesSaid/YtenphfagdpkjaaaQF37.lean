-- Written by a program of this session (wip/xprint.py over the kit's printer).
import Derived.Test.YtenphfagdpkjaaaQ0
import Derived.Test.YtenphfagdpkjaaaQF43
import Derived.Test.YtenphfagdpkjaaaQF70
import Derived.Test.YtenphfagdpkjaaaQF71
import Derived.Test.YtenphfagdpkjaaaQF83
import Derived.Test.YtenphfagdpkjaaaQF99
import Derived.Test.YtenphfagdpkjaaaQP
import Derived.Test.YtenphfagdpkjaaaQV1
namespace Go.Proofs.Ytenphfagdpkjaaa.Q
open Go.RowKit Go.Proofs.YtenphfagdpkjaaaW.PrintWords Go.Proofs.YtenphfagdpkjaaaW.PrintLast
set_option linter.unusedVariables false
set_option linter.unusedSimpArgs false

/-! ### spec_MergePhases: function 37 -/
def putAll (ms ns : List Int) : List Int := ns.foldl putL ms
theorem putAll_length (ns : List Int) : ∀ ms : List Int, (putAll ms ns).length ≤ ms.length + ns.length := by
  induction ns with
  | nil => intro ms; simp [putAll]
  | cons n r ih =>
    intro ms
    have h1 := ih (putL ms n)
    have h2 := putL_length n ms
    show (putAll (putL ms n) r).length ≤ _
    simp only [List.length_cons]
    omega
theorem putAll_snoc (ms ns : List Int) (x : Nat) (h : x < ns.length) : putAll ms (ns.take (x + 1)) = putL (putAll ms (ns.take x)) (ns.getD x 0) := by
  unfold putAll
  rw [take_succD ns x h, List.foldl_append]
  rfl
def smEl (l : List S64) (i k m : Nat) : S64 := ⟨(l.getD m z64).f0, if m = i then putAll (l.getD m z64).f1 (l.getD k z64).f1 else (l.getD m z64).f1⟩
def smTo (l : List S64) (i k : Nat) : Nat → List S64
  | 0 => []
  | m + 1 => if m = k then smTo l i k m else smTo l i k m ++ [smEl l i k m]
theorem smTo_le (l : List S64) (i k : Nat) : ∀ m, (smTo l i k m).length ≤ m
  | 0 => by simp [smTo]
  | m + 1 => by
    have := smTo_le l i k m
    unfold smTo
    split
    · omega
    · rw [List.length_append, List.length_singleton]; omega
def smOk (l : List S64) : Bool := decide (l.length ≤ 1000) && l.all fun p => decide (p.f1.length ≤ 100000)
theorem smOk_at {l : List S64} (h : smOk l = true) (i : Nat) : (l.getD i z64).f1.length ≤ 100000 := by
  unfold smOk at h
  rw [Bool.and_eq_true, List.all_eq_true] at h
  rw [List.getD_eq_getElem?_getD]
  by_cases hi : i < l.length
  · rw [List.getElem?_eq_getElem hi]
    exact of_decide_eq_true (h.2 _ (List.getElem_mem hi))
  · rw [List.getElem?_eq_none (by omega)]
    exact Nat.zero_le _
theorem sm_in {a n : Int} (h : 0 ≤ a ∧ a < n) : spec_l1In.f a 0 (n - 1) = some true := by
  unfold spec_l1In.f
  rw [if_pos (show a ≥ 0 from h.1), decide_eq_true (show a ≤ n - 1 by omega)]
theorem sm_out {a n : Int} (h : ¬ (0 ≤ a ∧ a < n)) : spec_l1In.f a 0 (n - 1) = some false := by
  unfold spec_l1In.f
  by_cases h0 : 0 ≤ a
  · rw [if_pos (show a ≥ 0 from h0), decide_eq_false (show ¬ a ≤ n - 1 by omega)]
  · rw [if_neg (show ¬ a ≥ 0 from h0)]
theorem own_some {ms : List Int} (h : ms.length ≤ 1000000) : spec_l1Own.f ms = some ms := by
  unfold spec_l1Own.f
  simp only [Option.bind_some, List.length_nil, List.nil_append]
  rw [if_pos (by omega)]
theorem put_own {w w1 : World} {N dq : Nat} {AQ : Option Addr} {v9 : Value} {cur : List Int} {y : Int} (hR : Kd.R (Kd.int .i64) 3 w N (fun _ => True) (.slice AQ cur.length dq) cur) (hb : Below w.heap.size w w1) (hN : N ≤ w.heap.size) (hv : v9 = .slice AQ cur.length dq ∧ putL cur y = cur ∨ Kd.R (Kd.int .i64) 3 w1 w.heap.size (fun _ => True) v9 (putL cur y)) : Kd.R (Kd.int .i64) 3 w1 N (fun _ => True) v9 (putL cur y) := by
  rcases hv with ⟨e1, e2⟩ | h1
  · subst e1
    rw [e2]
    exact Kd.R_below hR hb
  · exact Kd.R_lower h1 hN
def smRes (l : List S64) (b : Bool) (a2 a3 : Int) : Option (List S64 × Bool) := if b = true ∧ (0 ≤ a2 ∧ a2 < l.length) ∧ (0 ≤ a3 ∧ a3 < l.length) ∧ a2 ≠ a3 then (if smOk l = true then some (smTo l a2.toNat a3.toNat l.length, true) else none) else some ([], false)
def spec_MergePhases.f (k : Nat) (l0_0 : List S77) (l0_1 : List S91) (l1 : List S64) (a2 a3 : Int) : Option (List S64 × Bool) := (spec_l7Good.f k l0_0 l0_1 l1).bind fun b => smRes l1 b a2 a3
def spec_MergePhases.T7 : Bool × List (List Nat × List Nat) := (true, [([], []), ([], []), ([0, 1], [0, 1]), ([2], [2]), ([3], [3]), ([], []), ([], []), ([5, 6], [5, 6]), ([7], [7]), ([8], [8]), ([9], [9]), ([4, 10], [4, 10]), ([], []), ([12, 11, 10, 0, 1, 2, 3, 4, 5, 6, 7, 8, 9, 10, 11, 12], [11, 12])])
def spec_MergePhases.B7 : List Nat := [0, 0, 3, 7, 15, 0, 0, 96, 224, 480, 992, 2047, 0, 8191]
theorem spec_MergePhases.tab7 : rtab .any (opsOf Try.f37 7) = spec_MergePhases.T7 := by kernel_rfl
theorem spec_MergePhases.bits7 : waitsOk spec_MergePhases.T7.2 spec_MergePhases.B7 = true := by kernel_rfl
def spec_MergePhases.T11 : Bool × List (List Nat × List Nat) := (true, [([], []), ([0], [0]), ([], []), ([], []), ([2, 3], [2, 3]), ([4], [4]), ([5], [5]), ([], []), ([6, 7], [6, 7]), ([8], [8]), ([1, 9], [1, 9]), ([0, 1, 2, 3, 4, 5, 6, 7, 8, 9, 10], []), ([11, 10, 10, 0, 1, 2, 3, 4, 5, 6, 7, 8, 9, 10], [10, 11])])
def spec_MergePhases.B11 : List Nat := [0, 1, 0, 0, 12, 28, 60, 0, 252, 508, 1023, 2047, 4095]
theorem spec_MergePhases.tab11 : rtab .any (opsOf Try.f37 11) = spec_MergePhases.T11 := by kernel_rfl
theorem spec_MergePhases.bits11 : waitsOk spec_MergePhases.T11.2 spec_MergePhases.B11 = true := by kernel_rfl
set_option maxHeartbeats 8000000 in
set_option maxRecDepth 100000 in
theorem spec_MergePhases.calls (k : Nat) (A0_0 : Option Addr) (c0_0 : Nat) (l0_0 : List S77) (A0_1 : Option Addr) (c0_1 : Nat) (l0_1 : List S91) (A1 : Option Addr) (c1 : Nat) (l1 : List S64) (a2 a3 : Int) (r1 : List S64) (r2 : Bool) (w : World) (hr0_0 : Kd.C k77 w A0_0 l0_0.length l0_0) (hc0_0 : l0_0.length ≤ c0_0) (hr0_1 : Kd.C k91 w A0_1 l0_1.length l0_1) (hc0_1 : l0_1.length ≤ c0_1) (hr1 : Kd.C k64 w A1 l1.length l1) (hc1 : l1.length ≤ c1) (h : spec_MergePhases.f k l0_0 l0_1 l1 a2 a3 = some (r1, r2)) :
    Calls Try.prog 37 #[.agg #[.slice A0_0 l0_0.length c0_0, .slice A0_1 l0_1.length c0_1], .slice A1 l1.length c1, .int .i64 a2, .int .i64 a3] w fun e w' => ∃ v1_ : Value, e = .returned (.tuple #[v1_, .bool r2]) ∧ Kd.R k64 64 w' w.heap.size (fun _ => True) v1_ r1 ∧ Below w.heap.size w w' := by
  unfold spec_MergePhases.f at h
  have hlm : l1.length ≤ 9223372036854775807 := hr1.2.1
  obtain ⟨ob, hob⟩ : ∃ o, spec_l7Good.f k l0_0 l0_1 l1 = o := ⟨_, rfl⟩
  rw [hob] at h
  cases ob with
  | none => cases h
  | some b =>
  rw [Option.bind_some] at h
  have HV := Aside0.mk hob
  have HP1 := Aside0.mk hr1
  have HPC := Aside0.mk hc1
  clear hr1 hc1 hob
  unfold smRes at h
  have HR0 := Aside0.mk hr0_0
  have HR1 := Aside0.mk hr0_1
  have HC0 := Aside0.mk hc0_0
  have HC1 := Aside0.mk hc0_1
  clear hr0_0 hr0_1 hc0_0 hc0_1
  obtain ⟨wb, hwb⟩ : ∃ wb, (w).alloc (.cells #[.slice A0_0 l0_0.length c0_0, .slice A0_1 l0_1.length c0_1] 33 (0, 0)) = wb := ⟨_, rfl⟩
  have HBw := Aside0.mk (show Below w.heap.size w wb from by rw [← hwb]; repeat (first | exact Below.refl _ _ | apply below_alloc))
  have HWB := HBw
  have hhr : wb.heap[w.heap.size]? = some (.cells #[.slice A0_0 l0_0.length c0_0, .slice A0_1 l0_1.length c0_1] 33 (0, 0)) := by rw [← hwb]; have h := blk_new (w) (.cells #[.slice A0_0 l0_0.length c0_0, .slice A0_1 l0_1.length c0_1] 33 (0, 0)); rw [show (w).heap.size = w.heap.size from by rfl] at h; exact h
  have hb0 : wb.cell? ⟨w.heap.size, 0, none⟩ = some (.slice A0_0 l0_0.length c0_0) := (blk_cell hhr 0).trans rfl
  have hb1 : wb.cell? ⟨w.heap.size, 1, none⟩ = some (.slice A0_1 l0_1.length c0_1) := (blk_cell hhr 1).trans rfl
  have hbs : w.heap.size < wb.heap.size := blk_lt hhr
  have HW := Aside0.mk hwb
  clear hwb hhr
  have hwl : wrap64 ((l1.length : Int) - 1) = (l1.length : Int) - 1 := by clear h; unfold wrap64; omega
  clear hlm
  go_enter Try.func37, Try.ntmps37
  go_upto_region 1 with (fail)
  try rw [HW.out]
  clear HW
  go_upto_region 2 with ((with_reducible refine gate_dst (N := 14) rfl ?_); refine Kd.R_lit k64 _ 64 ?hg (N := 14) ?hd (xs := ([] : List S64)) (inner := []) (ok := fun _ => True) (okp := fun _ => True) ?hr ?hp (fun _ hk => hk) trivial (Below.refl _ _) (Nat.le_refl _) (by simp) ?_; (case hd => rfl); (case hg => rfl); (case hr => first | (go_simp; done) | (go_simp; rfl)); (case hp => exact (Reps.none _ _)); intro v0 w1 ho hb hg_ hnew_; clear hg_ hnew_; have HR := Aside0.mk (Kd.R_lower ho HBw.out.size); have HBw : Aside0 (Below w.heap.size w w1) := Aside0.mk (below_chain (w := w) (by repeat (first | exact HBw.out | exact Below.refl _ _ | apply below_alloc | apply pw_below_drewN | apply below_drew1)) hb); have hb0 := pw_cell_below hb hb0; have hb1 := pw_cell_below hb hb1; clear ho hb)
  cases b with
  | false =>
    rw [if_neg (fun h => by cases h.1)] at h
    injection h with h
    injection h with H1 H2
    subst H1; subst H2
    go_wp2_with (go_at_call 43; (refine (spec_l7Good.calls k _ _ l0_0 _ _ l0_1 _ _ l1 _ _ (Kd.C_below HR0.out (by repeat (first | exact HBw.out | exact Below.refl _ _ | apply below_alloc | apply pw_below_drewN | apply below_drew1))) HC0.out (Kd.C_below HR1.out (by repeat (first | exact HBw.out | exact Below.refl _ _ | apply below_alloc | apply pw_below_drewN | apply below_drew1))) HC1.out (Kd.C_below HP1.out (by repeat (first | exact HBw.out | exact Below.refl _ _ | apply below_alloc | apply pw_below_drewN | apply below_drew1))) HPC.out HV.out).mono ?_); rintro e w2 ⟨rfl, hb⟩; have HR := Aside0.mk (Kd.R_below HR.out (below_chain (by repeat (first | exact Below.refl _ _ | apply below_alloc | apply pw_below_drewN | apply below_drew1)) hb)); have HBw : Aside0 (Below w.heap.size w w2) := Aside0.mk (below_chain (w := w) (by repeat (first | exact HBw.out | exact Below.refl _ _ | apply below_alloc | apply pw_below_drewN | apply below_drew1)) hb); have hb0 := pw_cell_below hb hb0; clear hb)
    go_ret2
    exact ⟨_, rfl, HR.out, (by repeat (first | exact HBw.out | exact Below.refl _ _ | apply below_alloc | apply pw_below_drewN | apply below_drew1))⟩
  | true =>
    by_cases h2 : 0 ≤ a2 ∧ a2 < (l1.length : Int)
    · by_cases h3 : 0 ≤ a3 ∧ a3 < (l1.length : Int)
      · have HW2 := Aside0.mk (sm_in h2)
        have HW3 := Aside0.mk (sm_in h3)
        by_cases hne : a2 = a3
        · rw [if_neg (fun h => h.2.2.2 hne)] at h
          injection h with h
          injection h with H1 H2
          subst H1; subst H2; subst hne
          clear h2 h3
          go_wp2_with (first | (go_at_call 43; (refine (spec_l7Good.calls k _ _ l0_0 _ _ l0_1 _ _ l1 _ _ (Kd.C_below HR0.out (by repeat (first | exact HBw.out | exact Below.refl _ _ | apply below_alloc | apply pw_below_drewN | apply below_drew1))) HC0.out (Kd.C_below HR1.out (by repeat (first | exact HBw.out | exact Below.refl _ _ | apply below_alloc | apply pw_below_drewN | apply below_drew1))) HC1.out (Kd.C_below HP1.out (by repeat (first | exact HBw.out | exact Below.refl _ _ | apply below_alloc | apply pw_below_drewN | apply below_drew1))) HPC.out HV.out).mono ?_); rintro e w2 ⟨rfl, hb⟩; have HR := Aside0.mk (Kd.R_below HR.out (below_chain (by repeat (first | exact Below.refl _ _ | apply below_alloc | apply pw_below_drewN | apply below_drew1)) hb)); have HBw : Aside0 (Below w.heap.size w w2) := Aside0.mk (below_chain (w := w) (by repeat (first | exact HBw.out | exact Below.refl _ _ | apply below_alloc | apply pw_below_drewN | apply below_drew1)) hb); have hb0 := pw_cell_below hb hb0; clear hb) | (go_at_call 55; (with_reducible refine (spec_l1In.calls _ 0 ((l1.length : Int) - 1) _ _ HW2.out).mono ?_); rintro e w3 ⟨rfl, hd⟩; have hb := hd.below; clear hd; have HR := Aside0.mk (Kd.R_below HR.out (below_chain (by repeat (first | exact Below.refl _ _ | apply below_alloc | apply pw_below_drewN | apply below_drew1)) hb)); have HBw : Aside0 (Below w.heap.size w w3) := Aside0.mk (below_chain (w := w) (by repeat (first | exact HBw.out | exact Below.refl _ _ | apply below_alloc | apply pw_below_drewN | apply below_drew1)) hb); have hb0 := pw_cell_below hb hb0; clear hb) | (go_at_call 55; (with_reducible refine (spec_l1In.calls _ 0 ((l1.length : Int) - 1) _ _ HW3.out).mono ?_); rintro e w3 ⟨rfl, hd⟩; have hb := hd.below; clear hd; have HR := Aside0.mk (Kd.R_below HR.out (below_chain (by repeat (first | exact Below.refl _ _ | apply below_alloc | apply pw_below_drewN | apply below_drew1)) hb)); have HBw : Aside0 (Below w.heap.size w w3) := Aside0.mk (below_chain (w := w) (by repeat (first | exact HBw.out | exact Below.refl _ _ | apply below_alloc | apply pw_below_drewN | apply below_drew1)) hb); have hb0 := pw_cell_below hb hb0; clear hb))
          go_ret2
          exact ⟨_, rfl, HR.out, (by repeat (first | exact HBw.out | exact Below.refl _ _ | apply below_alloc | apply pw_below_drewN | apply below_drew1))⟩
        · rw [if_pos ⟨rfl, h2, h3, hne⟩] at h
          have hok : smOk l1 = true := by
            by_cases hx : smOk l1 = true
            · exact hx
            · rw [if_neg hx] at h; cases h
          rw [if_pos hok] at h
          obtain ⟨i2, rfl⟩ : ∃ i : Nat, a2 = (i : Int) := ⟨a2.toNat, by omega⟩
          obtain ⟨i3, rfl⟩ : ∃ i : Nat, a3 = (i : Int) := ⟨a3.toNat, by omega⟩
          injection h with h
          injection h with H1 H2
          rw [Int.toNat_natCast, Int.toNat_natCast] at H1
          have HH1 := Aside0.mk H1
          subst H2
          have HOK := Aside0.mk hok
          have HLN := Aside0.mk (show l1.length ≤ 1000 from by unfold smOk at hok; rw [Bool.and_eq_true] at hok; exact of_decide_eq_true hok.1)
          have hnb : ((i2 : Int) == (i3 : Int)) = false := beq_eq_false_iff_ne.2 hne
          have H3 := Aside0.mk (show i3 < l1.length from by have := h3.2; omega)
          clear H1 hok h2 h3 hne
          go_upto_region 5 with (first | (go_at_call 43; (refine (spec_l7Good.calls k _ _ l0_0 _ _ l0_1 _ _ l1 _ _ (Kd.C_below HR0.out (by repeat (first | exact HBw.out | exact Below.refl _ _ | apply below_alloc | apply pw_below_drewN | apply below_drew1))) HC0.out (Kd.C_below HR1.out (by repeat (first | exact HBw.out | exact Below.refl _ _ | apply below_alloc | apply pw_below_drewN | apply below_drew1))) HC1.out (Kd.C_below HP1.out (by repeat (first | exact HBw.out | exact Below.refl _ _ | apply below_alloc | apply pw_below_drewN | apply below_drew1))) HPC.out HV.out).mono ?_); rintro e w2 ⟨rfl, hb⟩; have HR := Aside0.mk (Kd.R_below HR.out (below_chain (by repeat (first | exact Below.refl _ _ | apply below_alloc | apply pw_below_drewN | apply below_drew1)) hb)); have HBw : Aside0 (Below w.heap.size w w2) := Aside0.mk (below_chain (w := w) (by repeat (first | exact HBw.out | exact Below.refl _ _ | apply below_alloc | apply pw_below_drewN | apply below_drew1)) hb); have hb0 := pw_cell_below hb hb0; clear hb) | (go_at_call 55; (with_reducible refine (spec_l1In.calls _ 0 ((l1.length : Int) - 1) _ _ HW2.out).mono ?_); rintro e w3 ⟨rfl, hd⟩; have hb := hd.below; clear hd; have HR := Aside0.mk (Kd.R_below HR.out (below_chain (by repeat (first | exact Below.refl _ _ | apply below_alloc | apply pw_below_drewN | apply below_drew1)) hb)); have HBw : Aside0 (Below w.heap.size w w3) := Aside0.mk (below_chain (w := w) (by repeat (first | exact HBw.out | exact Below.refl _ _ | apply below_alloc | apply pw_below_drewN | apply below_drew1)) hb); have hb0 := pw_cell_below hb hb0; clear hb) | (go_at_call 55; (with_reducible refine (spec_l1In.calls _ 0 ((l1.length : Int) - 1) _ _ HW3.out).mono ?_); rintro e w3 ⟨rfl, hd⟩; have hb := hd.below; clear hd; have HR := Aside0.mk (Kd.R_below HR.out (below_chain (by repeat (first | exact Below.refl _ _ | apply below_alloc | apply pw_below_drewN | apply below_drew1)) hb)); have HBw : Aside0 (Below w.heap.size w w3) := Aside0.mk (below_chain (w := w) (by repeat (first | exact HBw.out | exact Below.refl _ _ | apply below_alloc | apply pw_below_drewN | apply below_drew1)) hb); have hb0 := pw_cell_below hb hb0; clear hb))
          clear hb0 hb1 hnb hwl HW2 HW3 HV
          have HB := HBw
          clear HBw
          go_loopg [10, 11, 12, 13] l1.length (fun gg s10 s11 _ _ wr => ∃ m : Nat, m ≤ l1.length ∧ l1.length - m ≤ gg ∧ s11 = .int .i64 m ∧ Aside0 (Below w.heap.size w wr) ∧ Aside0 (Kd.R k64 64 wr w.heap.size (fun _ => True) s10 (smTo l1 i2 i3 m)))
          case atStart => exact ⟨0, Nat.zero_le _, by omega, rfl, HB, HR⟩
          case round =>
            clear HB HR
            obtain ⟨m, hm, hgg, rfl, HB, HR⟩ := hrel
            obtain ⟨w7, rfl⟩ : ∃ x, x = wr := ⟨_, rfl⟩
            by_cases hlt : m < l1.length
            · have hltz : (m : Int) < (l1.length : Int) := by omega
              have hm0 : (0 : Int) ≤ (m : Int) := by omega
              obtain ⟨ad, D1, d1, e1, hx0, hx1, hd1, hC1⟩ := at_T64 HP1.out (m : Int) hm0 hltz
              have e2 : rd_T64 l1 (m : Int) = l1.getD m z64 := by simp [rd_T64]
              rw [e2] at hx0 hx1 hd1 hC1
              clear e2
              have HMN := Aside0.mk (smOk_at HOK.out m)
              have HKN := Aside0.mk (smOk_at HOK.out i3)
              obtain ⟨nm, hnm⟩ : ∃ s, (l1.getD m z64).f0 = s := ⟨_, rfl⟩
              obtain ⟨ms, hms⟩ : ∃ s, (l1.getD m z64).f1 = s := ⟨_, rfl⟩
              rw [hnm] at hx0
              rw [hms] at hx1 hd1 hC1 HMN
              simp only [Int.toNat_natCast] at hx0 hx1
              have HNM := Aside0.mk (And.intro hnm hms)
              obtain ⟨ak, Dk, dkc, ek1, hk0, hk1, hdk, hCk⟩ := at_T64 HP1.out (i3 : Int) (by omega) (by have := H3.out; omega)
              have e2 : rd_T64 l1 (i3 : Int) = l1.getD i3 z64 := by simp [rd_T64]
              rw [e2] at hk1 hdk hCk
              clear e2 hk0
              obtain ⟨ns, hns⟩ : ∃ s, (l1.getD i3 z64).f1 = s := ⟨_, rfl⟩
              rw [hns] at hk1 hdk hCk HKN
              simp only [Int.toNat_natCast] at hk1
              have HNS := Aside0.mk hns
              obtain rfl : ad = ak := Option.some.inj (e1.symm.trans ek1)
              subst e1
              clear ek1 hnm hms hns
              have HC1 := Aside0.mk hC1
              have HD1 := Aside0.mk hd1
              have HCK := Aside0.mk hCk
              have HK1 := Aside0.mk hk1
              clear hC1 hd1 hCk hdk hk1
              have HNW := Aside0.mk HB.out.size
              have HRO := Aside0.mk (Kd.R_bound HR.out)
              have HOWN := Aside0.mk (show spec_l1Own.f ms = some ms from own_some (by have := HMN.out; omega))
              have hx0' := (HB.out.cell (World.block_lt_of_cell? w _ hx0)).trans hx0
              have hx1' := (HB.out.cell (World.block_lt_of_cell? w _ hx1)).trans hx1
              clear hx0 hx1
              go_upto_region 7 with (fail)
              have HS0 := Aside0.mk (show (fun w' : World => w'.cell? (ad.add (m * 2)) = some (.string nm) ∧ w'.cell? ⟨(ad.add (m * 2)).block, (ad.add (m * 2)).off + 1, none⟩ = some (.slice D1 ms.length d1) ∧ Aside0 (Below w7.heap.size w7 w')) w7.drew from ⟨hx0', hx1', ⟨below_drew1 (Below.refl _ _)⟩⟩)
              clear hx0' hx1' HR
              go_cut [12] from 41 to 92 (fun v12 wc => ∃ (bp : Nat) (AQ : Option Addr) (dq : Nat), v12 = .pointer (some ⟨bp, 0, none⟩) ∧ Aside0 (w7.heap.size ≤ bp) ∧ Aside0 (Below w7.heap.size w7 wc) ∧ Aside0 (wc.heap[bp]? = some (.cells #[.string nm, .slice AQ ms.length dq] 64 (0, 0))) ∧ Aside0 (Kd.R (Kd.int .i64) 3 wc w7.heap.size (fun _ => True) (.slice AQ ms.length dq) ms))
              case first =>
                refine start_ (n := 14) (S := (fun w' : World => w'.cell? (ad.add (m * 2)) = some (.string nm) ∧ w'.cell? ⟨(ad.add (m * 2)).block, (ad.add (m * 2)).off + 1, none⟩ = some (.slice D1 ms.length d1) ∧ Aside0 (Below w7.heap.size w7 w'))) (ds := [13]) (bl 0 14) (by kernel_rfl) rfl rfl HS0.out (fun hHeld => ?_); refine with_tabW spec_MergePhases.tab7 spec_MergePhases.bits7 (fun HT_ HW_ => ?_)
                generalize w7.drew = wv at hHeld ⊢
                first | refine pA_ 0 (some 47) (bl 1 14) HT_.out (h := ?_) | refine pO_ 0 (some 47) (bl 1 14) HT_.out (h := ?_)
                first | refine pA_ 1 (some 48) (bl 2 14) HT_.out (h := ?_) | refine pO_ 1 (some 48) (bl 2 14) HT_.out (h := ?_)
                first | refine pA_ 2 (some 49) (bl 3 14) HT_.out (h := ?_) | refine pO_ 2 (some 49) (bl 3 14) HT_.out (h := ?_)
                first | refine pA_ 3 (some 50) (bl 4 14) HT_.out (h := ?_) | refine pO_ 3 (some 50) (bl 4 14) HT_.out (h := ?_)
                first | refine pA_ 5 (some 52) (bx 4 [5] 14) HT_.out (h := ?_) | refine pO_ 5 (some 52) (bx 4 [5] 14) HT_.out (h := ?_)
                first | refine pA_ 6 (some 53) (bx 4 [5, 6] 14) HT_.out (h := ?_) | refine pO_ 6 (some 53) (bx 4 [5, 6] 14) HT_.out (h := ?_)
                first | refine pA_ 7 (some 54) (bx 4 [5, 6, 7] 14) HT_.out (h := ?_) | refine pO_ 7 (some 54) (bx 4 [5, 6, 7] 14) HT_.out (h := ?_)
                first | refine pA_ 8 (some 55) (bx 4 [5, 6, 7, 8] 14) HT_.out (h := ?_) | refine pO_ 8 (some 55) (bx 4 [5, 6, 7, 8] 14) HT_.out (h := ?_)
                first | refine tA_ 4 (some 51) (bl 9 14) HT_.out HW_.out hHeld (h := ?_) | refine pO_ 4 (some 51) (bl 9 14) HT_.out (h := ?_)
                first | refine tA_ 9 (some 56) (bl 10 14) HT_.out HW_.out hHeld (h := ?_) | refine pO_ 9 (some 56) (bl 10 14) HT_.out (h := ?_)
                refine two_ (i := 10) (j := 12) (Ni := (some 57)) (Nj := (some 12)) (bl 11 14) (bx 10 [12] 14) rfl rfl rfl rfl (two_of HT_.out (by kernel_rfl)) (by decide) (by decide) (fun K hK => ?_) (fun K hK => ?_)
                · refine goes_ Try.func70 (by kernel_rfl) rfl #[.slice D1 ms.length d1] (by rfl) rfl rfl (by (try simp only [List.map_toArray, List.map_cons, List.map_nil]); first | done | rfl) ?_; with_reducible refine (spec_l1Own.calls D1 d1 ms ms _ (Kd.C_below HC1.out (below_chain HB.out hHeld.2.2.out)) HD1.out HOWN.out).mono ?_; rintro e w8 ⟨v8, rfl, hR, hb⟩; obtain ⟨AQ, dq, rfl⟩ := Kd.R_slice hR; have HQ := Aside0.mk (Kd.R_lower hR hHeld.2.2.out.size); clear hR; refine ⟨_, rfl, ?_⟩; refine hK.out _ _ ⟨pw_cell_below hb hHeld.1, pw_cell_below hb hHeld.2.1, ⟨below_chain hHeld.2.2.out hb⟩⟩ (fun hHeld => ?_); clear hK K; refine norm_ (a' := ?_) ?_ ?_; rotate_left; focus (show Act.put _ (some 57) _ = _; simp only [Act.put, List.setIfInBounds_toArray, List.set_cons_zero, List.set_cons_succ, i64_w, i32_w]; rfl)
                  first | refine pA_ 11 (some 58) (bl 12 14) HT_.out (h := ?_) | refine pO_ 11 (some 58) (bl 12 14) HT_.out (h := ?_)
                  refine one_ (i := 12) (N := (some 12)) (bl 13 14) rfl rfl (one_of HT_.out (by kernel_rfl)) (by decide) (fun K hK => ?_)
                  have HPRE := hHeld; have BN := Aside0.mk (blk_new w8 (.cells #[.string ⟨#[]⟩, .slice none 0 0] 64 (0, 0))); have HPB := Aside0.mk (below_alloc (Below.refl w8.heap.size w8) (.cells #[.string ⟨#[]⟩, .slice none 0 0] 64 (0, 0))); (try have HY0 := Aside0.mk (Kd.C_below HY0.out HPB.out)); (try have HY1 := Aside0.mk (Kd.C_below HY1.out HPB.out)); refine value_ (by rfl) rfl (by go_simp; constructor; rfl; rfl) ?_; refine hK.out _ _ ⟨pw_cell_below (below_alloc (Below.refl _ _) _) HPRE.1, pw_cell_below (below_alloc (Below.refl _ _) _) HPRE.2.1, ⟨below_chain HPRE.2.2.out (below_alloc (Below.refl _ _) _)⟩⟩ (fun hHeld => ?_); clear hK K; refine norm_ (a' := ?_) ?_ ?_; rotate_left; focus (show Act.put _ (some 12) _ = _; simp only [Act.put, List.setIfInBounds_toArray, List.set_cons_zero, List.set_cons_succ, i64_w, i32_w]; rfl)
                  refine last_ (i := 13) (N := none) (bl 14 14) rfl rfl (one_of HT_.out (by kernel_rfl)) (by decide) (fun K hK => ?_)
                  refine skip_ (by rfl) rfl (by go_simp; rfl) ?_; refine hK.out _ _ ?_; clear hK K
                  refine done_ (done_of HT_.out (by kernel_rfl)) ?_
                  go_wp2_with (fail)
                  go_meet
                  case rel => have hb := below_alloc (Below.refl w8.heap.size w8) (.cells #[.string nm, .slice AQ ms.length dq] 64 (0, 0)); exact ⟨_, _, _, rfl, ⟨HPRE.2.2.out.size⟩, ⟨below_chain HPRE.2.2.out hb⟩, ⟨blk_new w8 _⟩, ⟨Kd.R_alloc HQ.out _⟩⟩
                · have HPRE := hHeld; have BN := Aside0.mk (blk_new wv (.cells #[.string ⟨#[]⟩, .slice none 0 0] 64 (0, 0))); have HPB := Aside0.mk (below_alloc (Below.refl wv.heap.size wv) (.cells #[.string ⟨#[]⟩, .slice none 0 0] 64 (0, 0))); (try have HY0 := Aside0.mk (Kd.C_below HY0.out HPB.out)); (try have HY1 := Aside0.mk (Kd.C_below HY1.out HPB.out)); refine value_ (by rfl) rfl (by go_simp; constructor; rfl; rfl) ?_; refine hK.out _ _ ⟨pw_cell_below (below_alloc (Below.refl _ _) _) HPRE.1, pw_cell_below (below_alloc (Below.refl _ _) _) HPRE.2.1, ⟨below_chain HPRE.2.2.out (below_alloc (Below.refl _ _) _)⟩⟩ (fun hHeld => ?_); clear hK K; refine norm_ (a' := ?_) ?_ ?_; rotate_left; focus (show Act.put _ (some 12) _ = _; simp only [Act.put, List.setIfInBounds_toArray, List.set_cons_zero, List.set_cons_succ, i64_w, i32_w]; rfl)
                  refine one_ (i := 10) (N := (some 57)) (bx 11 [12] 14) rfl rfl (one_of HT_.out (by kernel_rfl)) (by decide) (fun K hK => ?_)
                  refine goes_ Try.func70 (by kernel_rfl) rfl #[.slice D1 ms.length d1] (by rfl) rfl rfl (by (try simp only [List.map_toArray, List.map_cons, List.map_nil]); first | done | rfl) ?_; with_reducible refine (spec_l1Own.calls D1 d1 ms ms _ (Kd.C_below HC1.out (below_chain HB.out hHeld.2.2.out)) HD1.out HOWN.out).mono ?_; rintro e w8 ⟨v8, rfl, hR, hb⟩; obtain ⟨AQ, dq, rfl⟩ := Kd.R_slice hR; have HQ := Aside0.mk (Kd.R_lower hR hHeld.2.2.out.size); clear hR; have BN := Aside0.mk (blk_below BN.out hb); have HPB := Aside0.mk (below_chain HPB.out hb); refine ⟨_, rfl, ?_⟩; refine hK.out _ _ ⟨pw_cell_below hb hHeld.1, pw_cell_below hb hHeld.2.1, ⟨below_chain hHeld.2.2.out hb⟩⟩ (fun hHeld => ?_); clear hK K; refine norm_ (a' := ?_) ?_ ?_; rotate_left; focus (show Act.put _ (some 57) _ = _; simp only [Act.put, List.setIfInBounds_toArray, List.set_cons_zero, List.set_cons_succ, i64_w, i32_w]; rfl)
                  first | refine pA_ 11 (some 58) (bl 13 14) HT_.out (h := ?_) | refine pO_ 11 (some 58) (bl 13 14) HT_.out (h := ?_)
                  refine last_ (i := 13) (N := none) (bl 14 14) rfl rfl (one_of HT_.out (by kernel_rfl)) (by decide) (fun K hK => ?_)
                  have g0_ := (blk_cell BN.out 0).trans rfl; have g1_ := (blk_cell BN.out 1).trans rfl; have f0_ := blk_frozen BN.out 0; have f1_ := blk_frozen BN.out 1; refine skip_ (by rfl) rfl (by go_simp; rfl) ?_; refine hK.out _ _ ?_; clear hK K
                  refine done_ (done_of HT_.out (by kernel_rfl)) ?_
                  go_wp2_with (fail)
                  go_meet
                  case rel => have hb := below_set (below_set HPB.out (Nat.le_refl _) (j := 0) (v := .string nm)) (Nat.le_refl _) (j := 1) (v := .slice AQ ms.length dq); exact ⟨_, _, _, rfl, ⟨HPRE.2.2.out.size⟩, ⟨below_chain HPRE.2.2.out hb⟩, ⟨blk_put (blk_put BN.out 0 _ rfl) 1 _ rfl⟩, ⟨Kd.R_set (Kd.R_set HQ.out BN.out (by decide) 0 _) (blk_put BN.out 0 _ rfl) (by decide) 1 _⟩⟩
              case rest =>
                obtain ⟨bp, AQ0, dq0, rfl, HBP, HBQ, BP, HQ⟩ := hcut
                clear HS0
                have HNW2 := Aside0.mk (Nat.le_trans HNW.out HBP.out)
                go_wp2
                go_loopg [13] ns.length (fun gg s13 wr => ∃ (x : Nat) (AQ : Option Addr) (dq : Nat), x ≤ ns.length ∧ ns.length - x ≤ gg ∧ s13 = .int .i64 x ∧ Aside0 (m ≠ i2 → x = 0) ∧ Aside0 (Below w7.heap.size w7 wr) ∧ Aside0 (wr.heap[bp]? = some (.cells #[.string nm, .slice AQ (putAll ms (ns.take x)).length dq] 64 (0, 0))) ∧ Aside0 (Kd.R (Kd.int .i64) 3 wr w7.heap.size (fun _ => True) (.slice AQ (putAll ms (ns.take x)).length dq) (putAll ms (ns.take x))))
                case atStart => exact ⟨0, AQ0, dq0, Nat.zero_le _, by omega, rfl, ⟨fun _ => rfl⟩, HBQ, BP, HQ⟩
                case round =>
                  clear HBQ BP HQ
                  obtain ⟨x, AQ, dq, hx, hgg2, rfl, HX0, HBQ, BP, HQ⟩ := hrel
                  have hk1 := ((below_chain HB.out HBQ.out).cell (World.block_lt_of_cell? w _ HK1.out)).trans HK1.out
                  have h30 : (0 : Int) ≤ (i3 : Int) := by omega
                  have h31 : (i3 : Int) < (l1.length : Int) := by have := H3.out; omega
                  have hx0z : (0 : Int) ≤ (x : Int) := by omega
                  by_cases hgo : x < ns.length ∧ m = i2
                  · obtain ⟨hxl, hmi⟩ := hgo
                    have hxz : (x : Int) < (ns.length : Int) := by omega
                    have hmb : ((m : Int) == (i2 : Int)) = true := by rw [hmi]; exact beq_self_eq_true _
                    have HMI := Aside0.mk hmi
                    clear hmi
                    obtain ⟨dk, e3, hc⟩ := Kd.at_int HCK.out (x : Int) hx0z hxz
                    subst e3
                    have e2 : rd ns (x : Int) = ns.getD x 0 := by simp [rd]
                    have HSN := Aside0.mk (putAll_snoc ms ns x hxl)
                    rw [e2, Int.toNat_natCast] at hc
                    obtain ⟨y, hy⟩ : ∃ y, ns.getD x 0 = y := ⟨_, rfl⟩
                    rw [hy] at hc HSN
                    have hc' := ((below_chain HB.out HBQ.out).cell (World.block_lt_of_cell? w _ hc)).trans hc
                    clear e2 hy hc
                    have HCL := Aside0.mk (show (putAll ms (ns.take x)).length ≤ 1000000 from by have h1 := putAll_length (ns.take x) ms; rw [List.length_take] at h1; have := HMN.out; have := HKN.out; omega)
                    obtain ⟨cur, hcur⟩ : ∃ c, putAll ms (ns.take x) = c := ⟨_, rfl⟩
                    rw [hcur] at BP HQ HSN HCL
                    clear hcur
                    go_upto_region 11 with (fail)
                    have hp1 := (blk_cell BP.out 1).trans rfl
                    have HS0 := Aside0.mk (show (fun w' : World => w'.cell? ⟨bp, 1, none⟩ = some (.slice AQ cur.length dq) ∧ w'.cell? ⟨(ad.add (i3 * 2)).block, (ad.add (i3 * 2)).off + 1, none⟩ = some (.slice (some dk) ns.length dkc) ∧ w'.cell? (dk.add x) = some (.int .i64 y) ∧ Aside0 (Below w7.heap.size w7 w') ∧ Aside0 (w'.heap[bp]? = some (.cells #[.string nm, .slice AQ cur.length dq] 64 (0, 0))) ∧ Aside0 (Kd.R (Kd.int .i64) 3 w' w7.heap.size (fun _ => True) (.slice AQ cur.length dq) cur)) wr.drew from ⟨hp1, hk1, hc', ⟨below_chain HBQ.out (below_drew1 (Below.refl _ _))⟩, ⟨blk_drew BP.out⟩, ⟨Kd.R_drew HQ.out⟩⟩)
                    clear hp1 hk1 hc' HBQ BP HQ
                    all_goals refine start_ (n := 13) (S := (fun w' : World => w'.cell? ⟨bp, 1, none⟩ = some (.slice AQ cur.length dq) ∧ w'.cell? ⟨(ad.add (i3 * 2)).block, (ad.add (i3 * 2)).off + 1, none⟩ = some (.slice (some dk) ns.length dkc) ∧ w'.cell? (dk.add x) = some (.int .i64 y) ∧ Aside0 (Below w7.heap.size w7 w') ∧ Aside0 (w'.heap[bp]? = some (.cells #[.string nm, .slice AQ cur.length dq] 64 (0, 0))) ∧ Aside0 (Kd.R (Kd.int .i64) 3 w' w7.heap.size (fun _ => True) (.slice AQ cur.length dq) cur))) (ds := [12]) (bl 0 13) (by kernel_rfl) rfl rfl HS0.out (fun hHeld => ?_); refine with_tabW spec_MergePhases.tab11 spec_MergePhases.bits11 (fun HT_ HW_ => ?_)
                    all_goals generalize wr.drew = wv at hHeld ⊢
                    all_goals first | refine pA_ 0 (some 74) (bl 1 13) HT_.out (h := ?_) | refine pO_ 0 (some 74) (bl 1 13) HT_.out (h := ?_)
                    all_goals first | refine pA_ 2 (some 76) (bx 1 [2] 13) HT_.out (h := ?_) | refine pO_ 2 (some 76) (bx 1 [2] 13) HT_.out (h := ?_)
                    all_goals first | refine pA_ 3 (some 77) (bx 1 [2, 3] 13) HT_.out (h := ?_) | refine pO_ 3 (some 77) (bx 1 [2, 3] 13) HT_.out (h := ?_)
                    all_goals first | refine pA_ 4 (some 78) (bx 1 [2, 3, 4] 13) HT_.out (h := ?_) | refine pO_ 4 (some 78) (bx 1 [2, 3, 4] 13) HT_.out (h := ?_)
                    all_goals first | refine pA_ 5 (some 79) (bx 1 [2, 3, 4, 5] 13) HT_.out (h := ?_) | refine pO_ 5 (some 79) (bx 1 [2, 3, 4, 5] 13) HT_.out (h := ?_)
                    all_goals first | refine pA_ 7 (some 81) (bx 1 [2, 3, 4, 5, 7] 13) HT_.out (h := ?_) | refine pO_ 7 (some 81) (bx 1 [2, 3, 4, 5, 7] 13) HT_.out (h := ?_)
                    all_goals first | refine tA_ 1 (some 75) (bx 6 [7] 13) HT_.out HW_.out hHeld (h := ?_) | refine pO_ 1 (some 75) (bx 6 [7] 13) HT_.out (h := ?_)
                    all_goals first | refine tA_ 6 (some 80) (bl 8 13) HT_.out HW_.out hHeld (h := ?_) | refine pO_ 6 (some 80) (bl 8 13) HT_.out (h := ?_)
                    all_goals first | refine pA_ 8 (some 82) (bl 9 13) HT_.out (h := ?_) | refine pO_ 8 (some 82) (bl 9 13) HT_.out (h := ?_)
                    all_goals first | refine tA_ 9 (some 83) (bl 10 13) HT_.out HW_.out hHeld (h := ?_) | refine pO_ 9 (some 83) (bl 10 13) HT_.out (h := ?_)
                    all_goals first | refine pO_ 10 (some 84) (bl 11 13) HT_.out (h := ?_) | (refine one_ (i := 10) (N := some 84) (bl 11 13) rfl rfl (one_of HT_.out (by kernel_rfl)) (by decide) (fun K hK => ?_); refine goes_ Try.func71 (by kernel_rfl) rfl #[.slice AQ cur.length dq, .int .i64 y] (by rfl) rfl rfl (by (try simp only [List.map_toArray, List.map_cons, List.map_nil]); first | done | rfl) ?_; with_reducible refine (spec_l1Put.calls AQ dq cur y _ (Kd.R_reads' hHeld.2.2.2.2.2.out).2.2 (Kd.R_reads' hHeld.2.2.2.2.2.out).2.1 HCL.out).mono ?_; rintro e w9 ⟨v9, rfl, hv, hb⟩; have HV9 := Aside0.mk (put_own hHeld.2.2.2.2.2.out hb hHeld.2.2.2.1.out.size hv); obtain ⟨A9, d9, e9⟩ := Kd.R_slice HV9.out; subst e9; clear hv; have fz := blk_frozen (blk_below hHeld.2.2.2.2.1.out hb) 1; refine ⟨_, rfl, ?_⟩; refine hK.out _ _ ⟨pw_cell_below hb hHeld.1, pw_cell_below hb hHeld.2.1, pw_cell_below hb hHeld.2.2.1, ⟨below_chain hHeld.2.2.2.1.out hb⟩, ⟨blk_below hHeld.2.2.2.2.1.out hb⟩, ⟨Kd.R_below hHeld.2.2.2.2.2.out hb⟩⟩ (fun hHeld => ?_); clear hK K; refine norm_ (a' := ?_) ?_ ?_; rotate_left; (show Act.put _ (some 84) _ = _; simp only [Act.put, List.setIfInBounds_toArray, List.set_cons_zero, List.set_cons_succ, i64_w, i32_w]; rfl))
                    all_goals first | refine pA_ 11 (some 85) (bl 12 13) HT_.out (h := ?_) | refine pO_ 11 (some 85) (bl 12 13) HT_.out (h := ?_)
                    all_goals (refine last_ (i := 12) (N := none) (bl 13 13) rfl rfl (one_of HT_.out (by kernel_rfl)) (by decide) (fun K hK => ?_); refine skip_ (by rfl) rfl (by go_simp; rfl) ?_; refine hK.out _ _ ?_; clear hK K)
                    all_goals refine done_ (done_of HT_.out (by kernel_rfl)) ?_
                    have HBn := Aside0.mk (below_set (g := bp) (j := 1) (v := .slice A9 (putL cur y).length d9) hHeld.2.2.2.1.out HBP.out)
                    have BPn := Aside0.mk (blk_put hHeld.2.2.2.2.1.out 1 (.slice A9 (putL cur y).length d9) rfl)
                    have HQn := Aside0.mk (Kd.R_set HV9.out hHeld.2.2.2.2.1.out (by decide) 1 (.slice A9 (putL cur y).length d9))
                    clear hHeld fz HV9
                    generalize w9.setCell ⟨bp, 1, none⟩ (.slice A9 (putL cur y).length d9) = w10 at HBn BPn HQn ⊢
                    go_wp2
                    go_roundg (ns.length - (x + 1))
                    case measure => omega
                    case rel => exact ⟨x + 1, A9, d9, by omega, by omega, by first | go_num | exact congrArg (Value.int .i64) (wrap_succ x (by have := HKN.out; omega)), ⟨fun h => absurd HMI.out h⟩, HBn, by rw [HSN.out]; exact BPn, by rw [HSN.out]; exact HQn⟩
                  · have HF := Aside0.mk (show (⟨nm, putAll ms (ns.take x)⟩ : S64) = smEl l1 i2 i3 m from by
                      unfold smEl
                      rw [HNM.out.1, HNM.out.2, HNS.out]
                      by_cases hmi : m = i2
                      · rw [if_pos hmi, show x = ns.length from by by_cases h : x = ns.length; (· exact h); (· exact absurd ⟨by omega, hmi⟩ hgo), List.take_length]
                      · rw [if_neg hmi, HX0.out hmi]; rfl)
                    have HFL := Aside0.mk (show (putAll ms (ns.take x)).length ≤ 1000000 from by have h1 := putAll_length (ns.take x) ms; rw [List.length_take] at h1; have := HMN.out; have := HKN.out; omega)
                    obtain ⟨cur, hcur⟩ : ∃ c, putAll ms (ns.take x) = c := ⟨_, rfl⟩
                    rw [hcur] at BP HQ HF HFL
                    clear hcur
                    have hway : (¬ x < ns.length) ∨ (x < ns.length ∧ m ≠ i2) := by
                      by_cases h : x < ns.length
                      · exact .inr ⟨h, fun e => hgo ⟨h, e⟩⟩
                      · exact .inl h
                    clear hgo
                    rcases hway with hway | ⟨hxl, hmi⟩
                    focus (have hxz : ¬ (x : Int) < (ns.length : Int) := (by omega); clear hway; go_upto_region 12 with (fail); clear hxz)
                    rotate_left
                    focus (have hxz : (x : Int) < (ns.length : Int) := (by omega); have hmb : ((m : Int) == (i2 : Int)) = false := beq_eq_false_iff_ne.2 (fun e => hmi (by omega)); clear hmi hxl; go_upto_region 12 with (fail); clear hxz hmb)
                    all_goals
                      clear hk1
                      by_cases hmk : m = i3
                      · have hkb : ((m : Int) != (i3 : Int)) = false := by rw [hmk]; exact bne_self_eq_false _
                        have HSM := Aside0.mk (show smTo l1 i2 i3 (m + 1) = smTo l1 i2 i3 m from by show (if m = i3 then _ else _) = _; rw [if_pos hmk])
                        clear hmk
                        have HRN := Aside0.mk (Kd.R_mono (ok' := fun _ => True) (Kd.R_step HRO.out (fun q _ hlt => HBQ.out.block q hlt)) (fun _ _ => trivial))
                        go_wp2
                        go_roundg (l1.length - (m + 1))
                        case measure => omega
                        case rel => exact ⟨m + 1, by omega, by omega, by first | go_num | exact congrArg (Value.int .i64) (wrap_succ m (by have := HLN.out; omega)), ⟨below_chain HB.out HBQ.out⟩, ⟨by rw [HSM.out]; exact HRN.out⟩⟩
                      · have hkb : ((m : Int) != (i3 : Int)) = true := bne_iff_ne.2 (fun e => hmk (by omega))
                        have HSM := Aside0.mk (show smTo l1 i2 i3 (m + 1) = smTo l1 i2 i3 m ++ [⟨nm, cur⟩] from by show (if m = i3 then _ else _) = _; rw [if_neg hmk, HF.out])
                        clear hmk
                        have hp0 := (blk_cell BP.out 0).trans rfl
                        have hp1 := (blk_cell BP.out 1).trans rfl
                        have HLM := Aside0.mk (smTo_le l1 i2 i3 m)
                        have HRN := Aside0.mk (Kd.R_step HRO.out (fun q _ hlt => HBQ.out.block q hlt))
                        have HOB := Aside0.mk (fun q hq => Kd.R_lt HRO.out q hq)
                        have HSZ := Aside0.mk (Nat.le_trans HNW.out HBQ.out.size)
                        have HR13 := Aside0.mk (Kd.R_mono (ok' := fun _ => True) HRN.out (fun _ _ => trivial))
                        have HM13 := Aside0.mk (Kd.R_lower (Kd.R_mono (ok' := fun q => w7.heap.size ≤ q) (Kd.R_bound HQ.out) (fun q hq => hq.2.1)) HNW.out)
                        have HB13 := Aside0.mk (below_chain HB.out HBQ.out)
                        go_wp2_with ((with_reducible refine gate_builtin (b := .append) (xs := #[.tmp 89, .tmp 91]) rfl ?_); at_builtin; refine Kd.R_append k64 (w0 := w) w.heap.size rfl (.tmp 89) (.tmp 91) 35 64 (.agg #[(.string ⟨#[]⟩), (.slice none 0 0)]) 40 rfl Try.underlying35 info64 rfl (by decide) (by decide) u10 (smTo l1 i2 i3 m) (⟨nm, cur⟩ : S64) [.string nm, .slice AQ cur.length dq] (fun _ => True) (fun q => w7.heap.size ≤ q) rfl rfl ?aP ?aK ?aF ?aO ?aB ?aS ?aL ?_; (case aP => exact k64_mkM _ _ _ _ (by (with_reducible repeat (first | apply Kd.R_alloc | apply Kd.R_drewN | apply Kd.R_drew)); exact HM13.out)); (case aK => exact fun q hq => ⟨trivial, fun e => by have h1 := HOB.out q e.symm; omega⟩); (case aF => exact fun _ _ => trivial); (case aO => exact (by (with_reducible repeat (first | apply Kd.R_alloc | apply Kd.R_drewN | apply Kd.R_drew)); exact HR13.out)); (case aB => exact HB13.out); (case aS => exact HSZ.out); (case aL => have h1 := HLM.out; have h2 := HLN.out; omega); intro v1 w11 ho hb hg hat; have HR11 := Aside0.mk (show Kd.R k64 64 w11 w.heap.size (fun _ => True) v1 (smTo l1 i2 i3 (m + 1)) from by rw [HSM.out]; exact ho); have HB11 := Aside0.mk hb; clear ho hb hg hat)
                        go_roundg (l1.length - (m + 1))
                        case measure => omega
                        case rel => exact ⟨m + 1, by omega, by omega, by first | go_num | exact congrArg (Value.int .i64) (wrap_succ m (by have := HLN.out; omega)), HB11, HR11⟩
            · obtain rfl : m = l1.length := by omega
              have hltz : ¬ ((l1.length : Int) < (l1.length : Int)) := by omega
              go_wp2
              go_ret2
              exact ⟨_, rfl, by rw [← HH1.out]; exact HR.out, HB.out⟩
      · rw [if_neg (fun h => h3 h.2.2.1)] at h
        have HW2 := Aside0.mk (sm_in h2)
        have HW3 := Aside0.mk (sm_out h3)
        injection h with h
        injection h with H1 H2
        subst H1; subst H2
        clear h2 h3
        go_wp2_with (first | (go_at_call 43; (refine (spec_l7Good.calls k _ _ l0_0 _ _ l0_1 _ _ l1 _ _ (Kd.C_below HR0.out (by repeat (first | exact HBw.out | exact Below.refl _ _ | apply below_alloc | apply pw_below_drewN | apply below_drew1))) HC0.out (Kd.C_below HR1.out (by repeat (first | exact HBw.out | exact Below.refl _ _ | apply below_alloc | apply pw_below_drewN | apply below_drew1))) HC1.out (Kd.C_below HP1.out (by repeat (first | exact HBw.out | exact Below.refl _ _ | apply below_alloc | apply pw_below_drewN | apply below_drew1))) HPC.out HV.out).mono ?_); rintro e w2 ⟨rfl, hb⟩; have HR := Aside0.mk (Kd.R_below HR.out (below_chain (by repeat (first | exact Below.refl _ _ | apply below_alloc | apply pw_below_drewN | apply below_drew1)) hb)); have HBw : Aside0 (Below w.heap.size w w2) := Aside0.mk (below_chain (w := w) (by repeat (first | exact HBw.out | exact Below.refl _ _ | apply below_alloc | apply pw_below_drewN | apply below_drew1)) hb); have hb0 := pw_cell_below hb hb0; clear hb) | (go_at_call 55; (with_reducible refine (spec_l1In.calls _ 0 ((l1.length : Int) - 1) _ _ HW2.out).mono ?_); rintro e w3 ⟨rfl, hd⟩; have hb := hd.below; clear hd; have HR := Aside0.mk (Kd.R_below HR.out (below_chain (by repeat (first | exact Below.refl _ _ | apply below_alloc | apply pw_below_drewN | apply below_drew1)) hb)); have HBw : Aside0 (Below w.heap.size w w3) := Aside0.mk (below_chain (w := w) (by repeat (first | exact HBw.out | exact Below.refl _ _ | apply below_alloc | apply pw_below_drewN | apply below_drew1)) hb); have hb0 := pw_cell_below hb hb0; clear hb) | (go_at_call 55; (with_reducible refine (spec_l1In.calls _ 0 ((l1.length : Int) - 1) _ _ HW3.out).mono ?_); rintro e w3 ⟨rfl, hd⟩; have hb := hd.below; clear hd; have HR := Aside0.mk (Kd.R_below HR.out (below_chain (by repeat (first | exact Below.refl _ _ | apply below_alloc | apply pw_below_drewN | apply below_drew1)) hb)); have HBw : Aside0 (Below w.heap.size w w3) := Aside0.mk (below_chain (w := w) (by repeat (first | exact HBw.out | exact Below.refl _ _ | apply below_alloc | apply pw_below_drewN | apply below_drew1)) hb); have hb0 := pw_cell_below hb hb0; clear hb))
        go_ret2
        exact ⟨_, rfl, HR.out, (by repeat (first | exact HBw.out | exact Below.refl _ _ | apply below_alloc | apply pw_below_drewN | apply below_drew1))⟩
    · rw [if_neg (fun h => h2 h.2.1)] at h
      have HW2 := Aside0.mk (sm_out h2)
      injection h with h
      injection h with H1 H2
      subst H1; subst H2
      clear h2
      go_wp2_with (first | (go_at_call 43; (refine (spec_l7Good.calls k _ _ l0_0 _ _ l0_1 _ _ l1 _ _ (Kd.C_below HR0.out (by repeat (first | exact HBw.out | exact Below.refl _ _ | apply below_alloc | apply pw_below_drewN | apply below_drew1))) HC0.out (Kd.C_below HR1.out (by repeat (first | exact HBw.out | exact Below.refl _ _ | apply below_alloc | apply pw_below_drewN | apply below_drew1))) HC1.out (Kd.C_below HP1.out (by repeat (first | exact HBw.out | exact Below.refl _ _ | apply below_alloc | apply pw_below_drewN | apply below_drew1))) HPC.out HV.out).mono ?_); rintro e w2 ⟨rfl, hb⟩; have HR := Aside0.mk (Kd.R_below HR.out (below_chain (by repeat (first | exact Below.refl _ _ | apply below_alloc | apply pw_below_drewN | apply below_drew1)) hb)); have HBw : Aside0 (Below w.heap.size w w2) := Aside0.mk (below_chain (w := w) (by repeat (first | exact HBw.out | exact Below.refl _ _ | apply below_alloc | apply pw_below_drewN | apply below_drew1)) hb); have hb0 := pw_cell_below hb hb0; clear hb) | (go_at_call 55; (with_reducible refine (spec_l1In.calls _ 0 ((l1.length : Int) - 1) _ _ HW2.out).mono ?_); rintro e w3 ⟨rfl, hd⟩; have hb := hd.below; clear hd; have HR := Aside0.mk (Kd.R_below HR.out (below_chain (by repeat (first | exact Below.refl _ _ | apply below_alloc | apply pw_below_drewN | apply below_drew1)) hb)); have HBw : Aside0 (Below w.heap.size w w3) := Aside0.mk (below_chain (w := w) (by repeat (first | exact HBw.out | exact Below.refl _ _ | apply below_alloc | apply pw_below_drewN | apply below_drew1)) hb); have hb0 := pw_cell_below hb hb0; clear hb))
      go_ret2
      exact ⟨_, rfl, HR.out, (by repeat (first | exact HBw.out | exact Below.refl _ _ | apply below_alloc | apply pw_below_drewN | apply below_drew1))⟩

end Go.Proofs.Ytenphfagdpkjaaa.Q

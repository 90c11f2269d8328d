-- Written by a program of this session (wip/xprint.py over the kit's printer).
import Derived.Test.YtlmdmnenljmdgaaQ0
import Derived.Test.YtlmdmnenljmdgaaQF19
import Derived.Test.YtlmdmnenljmdgaaQF23
import Derived.Test.YtlmdmnenljmdgaaQF49
import Derived.Test.YtlmdmnenljmdgaaQF51
import Derived.Test.YtlmdmnenljmdgaaQF54
import Derived.Test.YtlmdmnenljmdgaaQF56
import Derived.Test.YtlmdmnenljmdgaaQF57
import Derived.Test.YtlmdmnenljmdgaaQF58
import Derived.Test.YtlmdmnenljmdgaaQP
namespace Go.Proofs.Ytlmdmnenljmdgaa.Q
open Go.RowKit Go.Proofs.YtlmdmnenljmdgaaW.PrintWords Go.Proofs.YtlmdmnenljmdgaaW.PrintLast
set_option linter.unusedVariables false
set_option linter.unusedSimpArgs false

/-! ### impl_EquateContexts: function 25 -/
theorem erase_nodup {cs : List S44} (h : (cs.map (·.f0)).Nodup) (i : Nat) : ((cs.eraseIdx i).map (·.f0)).Nodup := by
  rw [List.Nodup, List.pairwise_map] at h ⊢
  exact h.sublist (List.eraseIdx_sublist cs i)
def eqOk (cs : List S44) (rs : List S36) (keep drop : Int) : Bool := (goodB cs rs && decide (0 ≤ find cs keep)) && ((goodB cs rs && decide (0 ≤ find cs drop)) && (!(keep == drop) && ((cs.getD (find cs keep).toNat z44).f1 == (cs.getD (find cs drop).toNat z44).f1)))
def impl_EquateContexts.f (l0_0 : List S44) (l0_1 : List S36) (a1 a2 : Int) : Option (List S44 × List S36 × Bool) := some (if eqOk l0_0 l0_1 a1 a2 then (tidyC (l0_0.eraseIdx (find l0_0 a2).toNat), tidyR (l0_1.map (ren a2 a1)), true) else ([], [], false))
def impl_EquateContexts.T4 : Bool × List (List Nat × List Nat) := (true, [([], []), ([0], [0]), ([], []), ([], []), ([2, 3], [2, 3]), ([1, 4], [1, 4]), ([5], [5]), ([6], [6]), ([], []), ([8], [8]), ([], []), ([9, 10], [9, 10]), ([11], [11]), ([12], [12]), ([7, 13], [7, 13])])
def impl_EquateContexts.B4 : List Nat := [0, 1, 0, 0, 12, 31, 63, 127, 0, 256, 0, 1792, 3840, 7936, 16383]
theorem impl_EquateContexts.tab4 : rtab .any (opsOf Try.f25 4) = impl_EquateContexts.T4 := by kernel_rfl
theorem impl_EquateContexts.bits4 : waitsOk impl_EquateContexts.T4.2 impl_EquateContexts.B4 = true := by kernel_rfl
set_option maxHeartbeats 16000000 in
set_option maxRecDepth 100000 in
theorem impl_EquateContexts.calls (A0_0 : Option Addr) (c0_0 : Nat) (l0_0 : List S44) (A0_1 : Option Addr) (c0_1 : Nat) (l0_1 : List S36) (a1 a2 : Int) (r1 : List S44) (r2 : List S36) (r3 : Bool) (w : World) (hr0_0 : Kd.C k44 w A0_0 l0_0.length l0_0) (hc0_0 : l0_0.length ≤ c0_0) (hr0_1 : Kd.C k36 w A0_1 l0_1.length l0_1) (hc0_1 : l0_1.length ≤ c0_1) (h : impl_EquateContexts.f l0_0 l0_1 a1 a2 = some (r1, r2, r3)) :
    Calls Try.prog 25 #[.agg #[.slice A0_0 l0_0.length c0_0, .slice A0_1 l0_1.length c0_1], .int .i64 a1, .int .i64 a2] w fun e w' => ∃ v0_ v1_ : Value, e = .returned (.tuple #[.agg #[v0_, v1_], .bool r3]) ∧ Kd.R k44 44 w' w.heap.size (fun _ => True) v0_ r1 ∧ Kd.R k36 36 w' w.heap.size (fun _ => True) v1_ r2 ∧ Below w.heap.size w w' := by
  have H := Option.some.inj h
  clear h
  have HR0 := Aside0.mk hr0_0
  have HR1 := Aside0.mk hr0_1
  have HC0 := Aside0.mk hc0_0
  have HC1 := Aside0.mk hc0_1
  clear hr0_0 hr0_1 hc0_0 hc0_1
  obtain ⟨wb, hwb⟩ : ∃ wb, ((w).alloc (.cells #[.slice A0_0 l0_0.length c0_0, .slice A0_1 l0_1.length c0_1] 32 (0, 0))).alloc (.cells #[.slice none 0 0, .slice none 0 0] 32 (0, 0)) = wb := ⟨_, rfl⟩
  have HBw := Aside0.mk (show Below w.heap.size w wb from by rw [← hwb]; repeat (first | exact Below.refl _ _ | apply below_alloc))
  have HWB := HBw
  have hhr : wb.heap[w.heap.size]? = some (.cells #[.slice A0_0 l0_0.length c0_0, .slice A0_1 l0_1.length c0_1] 32 (0, 0)) := by rw [← hwb]; have h := blk_new (w) (.cells #[.slice A0_0 l0_0.length c0_0, .slice A0_1 l0_1.length c0_1] 32 (0, 0)); rw [show (w).heap.size = w.heap.size from by rfl] at h; exact blk_alloc (h) _
  have hb0 : wb.cell? ⟨w.heap.size, 0, none⟩ = some (.slice A0_0 l0_0.length c0_0) := (blk_cell hhr 0).trans rfl
  have hb1 : wb.cell? ⟨w.heap.size, 1, none⟩ = some (.slice A0_1 l0_1.length c0_1) := (blk_cell hhr 1).trans rfl
  have hh0 : wb.heap[w.heap.size + 1]? = some (.cells #[.slice none 0 0, .slice none 0 0] 32 (0, 0)) := by rw [← hwb]; have h := blk_new ((w).alloc (.cells #[.slice A0_0 l0_0.length c0_0, .slice A0_1 l0_1.length c0_1] 32 (0, 0))) (.cells #[.slice none 0 0, .slice none 0 0] 32 (0, 0)); rw [show ((w).alloc (.cells #[.slice A0_0 l0_0.length c0_0, .slice A0_1 l0_1.length c0_1] 32 (0, 0))).heap.size = w.heap.size + 1 from by simp] at h; exact h
  have hx0 : wb.cell? ⟨w.heap.size + 1, 0, none⟩ = some (.slice none 0 0) := (blk_cell hh0 0).trans rfl
  have hx0_1 : wb.cell? ⟨w.heap.size + 1, 1, none⟩ = some (.slice none 0 0) := (blk_cell hh0 1).trans rfl
  have hbs : w.heap.size + 1 < wb.heap.size := blk_lt hh0
  have HW := Aside0.mk hwb
  clear hwb
  clear hhr
  obtain ⟨b1, hb1_⟩ : ∃ b, (goodB l0_0 l0_1 && decide (0 ≤ find l0_0 a1)) = b := ⟨_, rfl⟩
  have A1 := Aside0.mk ((hasContext_eq l0_0 l0_1 a1).trans (congrArg some hb1_))
  obtain ⟨b2, hb2_⟩ : ∃ b, (goodB l0_0 l0_1 && decide (0 ≤ find l0_0 a2)) = b := ⟨_, rfl⟩
  have A2 := Aside0.mk ((hasContext_eq l0_0 l0_1 a2).trans (congrArg some hb2_))
  have HOK := Aside0.mk (show eqOk l0_0 l0_1 a1 a2 = (b1 && (b2 && (!(a1 == a2) && ((l0_0.getD (find l0_0 a1).toNat z44).f1 == (l0_0.getD (find l0_0 a2).toNat z44).f1)))) from by unfold eqOk; rw [hb1_, hb2_])
  have HG := Aside0.mk hb1_
  have HG2 := Aside0.mk hb2_
  clear hb1_ hb2_
  rw [HOK.out] at H
  cases b1 with
  | false =>
    injection H with H1 H2
    injection H2 with H2 H3
    subst H1; subst H2; subst H3
    have hf1 := blk_frozen hh0 0
    have hf2 := blk_frozen hh0 1
    go_enter Try.func25, Try.ntmps25
    go_upto_region 1 with (fail)
    try rw [HW.out]
    clear HW
    go_upto_region 2 with ((go_at_call 54; (with_reducible refine (impl_hasContext.calls _ _ l0_0 _ _ l0_1 a1 _ _ (Kd.C_below HR0.out (by repeat (first | exact HBw.out | exact Below.refl _ _ | apply below_alloc | apply pw_below_drewN | apply below_drew1))) HC0.out (Kd.C_below HR1.out (by repeat (first | exact HBw.out | exact Below.refl _ _ | apply below_alloc | apply pw_below_drewN | apply below_drew1))) HC1.out A1.out).mono ?_); rintro e w1 ⟨rfl, hb⟩; have HBw : Aside0 (Below w.heap.size w w1) := Aside0.mk (below_chain (w := w) (by repeat (first | exact HBw.out | exact Below.refl _ _ | apply below_alloc | apply pw_below_drewN | apply below_drew1)) hb); have hb0 := pw_cell_below hb hb0; have hb1 := pw_cell_below hb hb1; have hx0 := pw_cell_below hb hx0; have hx0_1 := pw_cell_below hb hx0_1; have hh0 := blk_below hh0 hb; clear hf1 hf2; have hf1 := blk_frozen hh0 0; have hf2 := blk_frozen hh0 1; clear hb))
    go_wp2
    refine bodyPost_ret (results_ct rfl _ _ (w.heap.size + 1) 32 #[.slice none 0 0, .slice none 0 0] (0, 0) _ rfl (blk_put (blk_put hh0 0 _ rfl) 1 _ rfl) Try.underlying32 rfl (by kernel_rfl)) rfl ?_
    exact ⟨_, _, rfl, Kd.R_nil _ _ _ _ _, Kd.R_nil _ _ _ _ _, by repeat (first | exact HBw.out | refine below_set ?_ (by show w.heap.size ≤ w.heap.size + 1; omega))⟩
  | true =>
  cases b2 with
  | false =>
    injection H with H1 H2
    injection H2 with H2 H3
    subst H1; subst H2; subst H3
    have hf1 := blk_frozen hh0 0
    have hf2 := blk_frozen hh0 1
    go_enter Try.func25, Try.ntmps25
    go_upto_region 1 with (fail)
    try rw [HW.out]
    clear HW
    go_upto_region 2 with (first | (go_at_call 54; (with_reducible refine (impl_hasContext.calls _ _ l0_0 _ _ l0_1 a1 _ _ (Kd.C_below HR0.out (by repeat (first | exact HBw.out | exact Below.refl _ _ | apply below_alloc | apply pw_below_drewN | apply below_drew1))) HC0.out (Kd.C_below HR1.out (by repeat (first | exact HBw.out | exact Below.refl _ _ | apply below_alloc | apply pw_below_drewN | apply below_drew1))) HC1.out A1.out).mono ?_); rintro e w1 ⟨rfl, hb⟩; have HBw : Aside0 (Below w.heap.size w w1) := Aside0.mk (below_chain (w := w) (by repeat (first | exact HBw.out | exact Below.refl _ _ | apply below_alloc | apply pw_below_drewN | apply below_drew1)) hb); have hb0 := pw_cell_below hb hb0; have hb1 := pw_cell_below hb hb1; have hx0 := pw_cell_below hb hx0; have hx0_1 := pw_cell_below hb hx0_1; have hh0 := blk_below hh0 hb; clear hf1 hf2; have hf1 := blk_frozen hh0 0; have hf2 := blk_frozen hh0 1; clear hb) | (go_at_call 54; (with_reducible refine (impl_hasContext.calls _ _ l0_0 _ _ l0_1 a2 _ _ (Kd.C_below HR0.out (by repeat (first | exact HBw.out | exact Below.refl _ _ | apply below_alloc | apply pw_below_drewN | apply below_drew1))) HC0.out (Kd.C_below HR1.out (by repeat (first | exact HBw.out | exact Below.refl _ _ | apply below_alloc | apply pw_below_drewN | apply below_drew1))) HC1.out A2.out).mono ?_); rintro e w1 ⟨rfl, hb⟩; have HBw : Aside0 (Below w.heap.size w w1) := Aside0.mk (below_chain (w := w) (by repeat (first | exact HBw.out | exact Below.refl _ _ | apply below_alloc | apply pw_below_drewN | apply below_drew1)) hb); have hb0 := pw_cell_below hb hb0; have hb1 := pw_cell_below hb hb1; have hx0 := pw_cell_below hb hx0; have hx0_1 := pw_cell_below hb hx0_1; have hh0 := blk_below hh0 hb; clear hf1 hf2; have hf1 := blk_frozen hh0 0; have hf2 := blk_frozen hh0 1; clear hb))
    go_wp2
    refine bodyPost_ret (results_ct rfl _ _ (w.heap.size + 1) 32 #[.slice none 0 0, .slice none 0 0] (0, 0) _ rfl (blk_put (blk_put hh0 0 _ rfl) 1 _ rfl) Try.underlying32 rfl (by kernel_rfl)) rfl ?_
    exact ⟨_, _, rfl, Kd.R_nil _ _ _ _ _, Kd.R_nil _ _ _ _ _, by repeat (first | exact HBw.out | refine below_set ?_ (by show w.heap.size ≤ w.heap.size + 1; omega))⟩
  | true =>
  by_cases hbad : a1 = a2
  · have hez : (a1 == a2) = true := beq_iff_eq.2 hbad
    rw [if_neg (by simp [hez])] at H
    injection H with H1 H2
    injection H2 with H2 H3
    subst H1; subst H2; subst H3
    clear hbad
    have hf1 := blk_frozen hh0 0
    have hf2 := blk_frozen hh0 1
    go_enter Try.func25, Try.ntmps25
    go_upto_region 1 with (fail)
    try rw [HW.out]
    clear HW
    go_upto_region 2 with (first | (go_at_call 54; (with_reducible refine (impl_hasContext.calls _ _ l0_0 _ _ l0_1 a1 _ _ (Kd.C_below HR0.out (by repeat (first | exact HBw.out | exact Below.refl _ _ | apply below_alloc | apply pw_below_drewN | apply below_drew1))) HC0.out (Kd.C_below HR1.out (by repeat (first | exact HBw.out | exact Below.refl _ _ | apply below_alloc | apply pw_below_drewN | apply below_drew1))) HC1.out A1.out).mono ?_); rintro e w1 ⟨rfl, hb⟩; have HBw : Aside0 (Below w.heap.size w w1) := Aside0.mk (below_chain (w := w) (by repeat (first | exact HBw.out | exact Below.refl _ _ | apply below_alloc | apply pw_below_drewN | apply below_drew1)) hb); have hb0 := pw_cell_below hb hb0; have hb1 := pw_cell_below hb hb1; have hx0 := pw_cell_below hb hx0; have hx0_1 := pw_cell_below hb hx0_1; have hh0 := blk_below hh0 hb; clear hf1 hf2; have hf1 := blk_frozen hh0 0; have hf2 := blk_frozen hh0 1; clear hb) | (go_at_call 54; (with_reducible refine (impl_hasContext.calls _ _ l0_0 _ _ l0_1 a2 _ _ (Kd.C_below HR0.out (by repeat (first | exact HBw.out | exact Below.refl _ _ | apply below_alloc | apply pw_below_drewN | apply below_drew1))) HC0.out (Kd.C_below HR1.out (by repeat (first | exact HBw.out | exact Below.refl _ _ | apply below_alloc | apply pw_below_drewN | apply below_drew1))) HC1.out A2.out).mono ?_); rintro e w1 ⟨rfl, hb⟩; have HBw : Aside0 (Below w.heap.size w w1) := Aside0.mk (below_chain (w := w) (by repeat (first | exact HBw.out | exact Below.refl _ _ | apply below_alloc | apply pw_below_drewN | apply below_drew1)) hb); have hb0 := pw_cell_below hb hb0; have hb1 := pw_cell_below hb hb1; have hx0 := pw_cell_below hb hx0; have hx0_1 := pw_cell_below hb hx0_1; have hh0 := blk_below hh0 hb; clear hf1 hf2; have hf1 := blk_frozen hh0 0; have hf2 := blk_frozen hh0 1; clear hb))
    go_wp2
    refine bodyPost_ret (results_ct rfl _ _ (w.heap.size + 1) 32 #[.slice none 0 0, .slice none 0 0] (0, 0) _ rfl (blk_put (blk_put hh0 0 _ rfl) 1 _ rfl) Try.underlying32 rfl (by kernel_rfl)) rfl ?_
    exact ⟨_, _, rfl, Kd.R_nil _ _ _ _ _, Kd.R_nil _ _ _ _ _, by repeat (first | exact HBw.out | refine below_set ?_ (by show w.heap.size ≤ w.heap.size + 1; omega))⟩
  · have hez : (a1 == a2) = false := beq_eq_false_iff_ne.2 hbad
    have hg : goodB l0_0 l0_1 = true := by have h := HG.out; simp only [Bool.and_eq_true] at h; exact h.1
    obtain ⟨j, hj⟩ : ∃ j : Nat, find l0_0 a1 = (j : Int) := ⟨(find l0_0 a1).toNat, by have h := HG.out; simp only [Bool.and_eq_true, decide_eq_true_eq] at h; omega⟩
    obtain ⟨i, hi⟩ : ∃ i : Nat, find l0_0 a2 = (i : Int) := ⟨(find l0_0 a2).toNat, by have h := HG2.out; simp only [Bool.and_eq_true, decide_eq_true_eq] at h; omega⟩
    have hjn := (find_get l0_0 a1 j hj).1
    have hin := (find_get l0_0 a2 i hi).1
    have A3 := Aside0.mk (show impl_indexOf.f l0_0 l0_1 a1 = some (j : Int) from congrArg some hj)
    have A4 := Aside0.mk (show impl_indexOf.f l0_0 l0_1 a2 = some (i : Int) from congrArg some hi)
    rw [hj, hi, Int.toNat_natCast, Int.toNat_natCast, hez] at H
    have HL9 := Aside0.mk (show l0_0.length ≤ 1000 ∧ l0_1.length ≤ 1000 from by simp only [goodB, Bool.and_eq_true, decide_eq_true_eq] at hg; have h2 := hg.1.1; omega)
    have HND := Aside0.mk (show ((l0_0.eraseIdx i).map (·.f0)).Nodup from erase_nodup (nodup_of_lt (goodB_ctx hg)) i)
    obtain ⟨ad, e1, _, hx⟩ := at_T44 HR0.out (j : Int) (by omega) (by omega)
    subst e1
    obtain ⟨ad2, e2, _, hy⟩ := at_T44 HR0.out (i : Int) (by omega) (by omega)
    cases e2
    rw [show rd_T44 l0_0 (j : Int) = l0_0.getD j z44 from by simp [rd_T44]] at hx
    rw [show rd_T44 l0_0 (i : Int) = l0_0.getD i z44 from by simp [rd_T44]] at hy
    simp only [Int.toNat_natCast] at hx hy
    obtain ⟨kx, hkx⟩ : ∃ k, (l0_0.getD j z44).f1 = k := ⟨_, rfl⟩
    obtain ⟨ky, hky⟩ : ∃ k, (l0_0.getD i z44).f1 = k := ⟨_, rfl⟩
    rw [hkx] at hx
    rw [hky] at hy
    rw [hkx, hky] at H
    have hx := pw_cell_below HWB.out hx
    have hy := pw_cell_below HWB.out hy
    have B1 := Aside0.mk hh0
    have HIN := Aside0.mk (And.intro hjn hin)
    have H9 := Aside0.mk H
    have hltj : (j : Int) < (l0_0.length : Int) := by omega
    have hlti : (i : Int) < (l0_0.length : Int) := by omega
    clear hkx hky hj hi hjn hin hbad hg hh0 H
    go_enter Try.func25, Try.ntmps25
    go_upto_region 1 with (fail)
    try rw [HW.out]
    clear HW
    go_upto_region 4 with (first | (go_at_call 54; (with_reducible refine (impl_hasContext.calls _ _ l0_0 _ _ l0_1 a1 _ _ (Kd.C_below HR0.out (by repeat (first | exact HBw.out | exact Below.refl _ _ | apply below_alloc | apply pw_below_drewN | apply below_drew1))) HC0.out (Kd.C_below HR1.out (by repeat (first | exact HBw.out | exact Below.refl _ _ | apply below_alloc | apply pw_below_drewN | apply below_drew1))) HC1.out A1.out).mono ?_); rintro e w1 ⟨rfl, hb⟩; have HBw : Aside0 (Below w.heap.size w w1) := Aside0.mk (below_chain (w := w) (by repeat (first | exact HBw.out | exact Below.refl _ _ | apply below_alloc | apply pw_below_drewN | apply below_drew1)) hb); have hb0 := pw_cell_below hb hb0; have hb1 := pw_cell_below hb hb1; have hx0 := pw_cell_below hb hx0; have hx0_1 := pw_cell_below hb hx0_1; have hx := pw_cell_below hb hx; have hy := pw_cell_below hb hy; have B1 := Aside0.mk (blk_below B1.out hb); clear hb) | (go_at_call 54; (with_reducible refine (impl_hasContext.calls _ _ l0_0 _ _ l0_1 a2 _ _ (Kd.C_below HR0.out (by repeat (first | exact HBw.out | exact Below.refl _ _ | apply below_alloc | apply pw_below_drewN | apply below_drew1))) HC0.out (Kd.C_below HR1.out (by repeat (first | exact HBw.out | exact Below.refl _ _ | apply below_alloc | apply pw_below_drewN | apply below_drew1))) HC1.out A2.out).mono ?_); rintro e w1 ⟨rfl, hb⟩; have HBw : Aside0 (Below w.heap.size w w1) := Aside0.mk (below_chain (w := w) (by repeat (first | exact HBw.out | exact Below.refl _ _ | apply below_alloc | apply pw_below_drewN | apply below_drew1)) hb); have hb0 := pw_cell_below hb hb0; have hb1 := pw_cell_below hb hb1; have hx0 := pw_cell_below hb hx0; have hx0_1 := pw_cell_below hb hx0_1; have hx := pw_cell_below hb hx; have hy := pw_cell_below hb hy; have B1 := Aside0.mk (blk_below B1.out hb); clear hb) | (go_at_call 56; (with_reducible refine (impl_indexOf.calls _ _ l0_0 _ _ l0_1 a2 _ _ (Kd.C_below HR0.out (by repeat (first | exact HBw.out | exact Below.refl _ _ | apply below_alloc | apply pw_below_drewN | apply below_drew1))) HC0.out (Kd.C_below HR1.out (by repeat (first | exact HBw.out | exact Below.refl _ _ | apply below_alloc | apply pw_below_drewN | apply below_drew1))) HC1.out A4.out).mono ?_); rintro e w1 ⟨rfl, hb⟩; have HBw : Aside0 (Below w.heap.size w w1) := Aside0.mk (below_chain (w := w) (by repeat (first | exact HBw.out | exact Below.refl _ _ | apply below_alloc | apply pw_below_drewN | apply below_drew1)) hb); have hb0 := pw_cell_below hb hb0; have hb1 := pw_cell_below hb hb1; have hx0 := pw_cell_below hb hx0; have hx0_1 := pw_cell_below hb hx0_1; have hx := pw_cell_below hb hx; have hy := pw_cell_below hb hy; have B1 := Aside0.mk (blk_below B1.out hb); clear hb))
    have HS0 := Aside0.mk (show (fun w' : World => w'.cell? ⟨w.heap.size, 0, none⟩ = some (.slice (some ad) l0_0.length c0_0) ∧ w'.cell? ⟨w.heap.size, 1, none⟩ = some (.slice A0_1 l0_1.length c0_1) ∧ w'.cell? ⟨(ad.add (j * 2)).block, (ad.add (j * 2)).off + 1, none⟩ = some (.int .i64 kx) ∧ w'.cell? ⟨(ad.add (i * 2)).block, (ad.add (i * 2)).off + 1, none⟩ = some (.int .i64 ky) ∧ Aside0 (Below w.heap.size w w') ∧ Aside0 (w'.heap[w.heap.size + 1]? = some (.cells #[.slice none 0 0, .slice none 0 0] 32 (0, 0)))) w1.drew from ⟨hb0, hb1, hx, hy, ⟨below_drew1 (by repeat (first | exact HBw.out | exact Below.refl _ _ | apply below_alloc | apply pw_below_drewN | apply below_drew1))⟩, ⟨blk_drew B1.out⟩⟩)
    clear hb0 hb1 hx0 hx0_1 hx hy HBw B1
    obtain ⟨bk, hbk⟩ : ∃ b, (kx != ky) = b := ⟨_, rfl⟩
    all_goals refine start_ (n := 15) (S := (fun w' : World => w'.cell? ⟨w.heap.size, 0, none⟩ = some (.slice (some ad) l0_0.length c0_0) ∧ w'.cell? ⟨w.heap.size, 1, none⟩ = some (.slice A0_1 l0_1.length c0_1) ∧ w'.cell? ⟨(ad.add (j * 2)).block, (ad.add (j * 2)).off + 1, none⟩ = some (.int .i64 kx) ∧ w'.cell? ⟨(ad.add (i * 2)).block, (ad.add (i * 2)).off + 1, none⟩ = some (.int .i64 ky) ∧ Aside0 (Below w.heap.size w w') ∧ Aside0 (w'.heap[w.heap.size + 1]? = some (.cells #[.slice none 0 0, .slice none 0 0] 32 (0, 0))))) (ds := []) (bl 0 15) (by kernel_rfl) rfl rfl HS0.out (fun hHeld => ?_); refine with_tabW impl_EquateContexts.tab4 impl_EquateContexts.bits4 (fun HT_ HW_ => ?_)
    all_goals generalize w1.drew = wv at hHeld ⊢
    all_goals first | refine pA_ 0 (some 29) (bl 1 15) HT_.out (h := ?_) | refine pO_ 0 (some 29) (bl 1 15) HT_.out (h := ?_)
    all_goals first | refine pA_ 3 (some 32) (bx 1 [3] 15) HT_.out (h := ?_) | refine pO_ 3 (some 32) (bx 1 [3] 15) HT_.out (h := ?_)
    all_goals first | refine pA_ 8 (some 37) (bx 1 [3, 8] 15) HT_.out (h := ?_) | refine pO_ 8 (some 37) (bx 1 [3, 8] 15) HT_.out (h := ?_)
    all_goals first | refine pA_ 10 (some 39) (bx 1 [3, 8, 10] 15) HT_.out (h := ?_) | refine pO_ 10 (some 39) (bx 1 [3, 8, 10] 15) HT_.out (h := ?_)
    all_goals first | refine tA_ 1 (some 30) (bx 2 [3, 8, 10] 15) HT_.out HW_.out hHeld (h := ?_) | refine pO_ 1 (some 30) (bx 2 [3, 8, 10] 15) HT_.out (h := ?_)
    all_goals first | refine tA_ 2 (some 31) (bx 4 [8, 10] 15) HT_.out HW_.out hHeld (h := ?_) | refine pO_ 2 (some 31) (bx 4 [8, 10] 15) HT_.out (h := ?_)
    all_goals first | refine tA_ 9 (some 38) (bx 4 [8, 9, 10] 15) HT_.out HW_.out hHeld (h := ?_) | refine pO_ 9 (some 38) (bx 4 [8, 9, 10] 15) HT_.out (h := ?_)
    all_goals first | refine pA_ 11 (some 40) (bx 4 [8, 9, 10, 11] 15) HT_.out (h := ?_) | refine pO_ 11 (some 40) (bx 4 [8, 9, 10, 11] 15) HT_.out (h := ?_)
    all_goals first | refine pA_ 12 (some 41) (bx 4 [8, 9, 10, 11, 12] 15) HT_.out (h := ?_) | refine pO_ 12 (some 41) (bx 4 [8, 9, 10, 11, 12] 15) HT_.out (h := ?_)
    all_goals first | refine tA_ 13 (some 42) (bx 4 [8, 9, 10, 11, 12, 13] 15) HT_.out HW_.out hHeld (h := ?_) | refine pO_ 13 (some 42) (bx 4 [8, 9, 10, 11, 12, 13] 15) HT_.out (h := ?_)
    all_goals first | refine pO_ 4 (some 33) (bx 5 [8, 9, 10, 11, 12, 13] 15) HT_.out (h := ?_) | (refine one_ (i := 4) (N := some 33) (bx 5 [8, 9, 10, 11, 12, 13] 15) rfl rfl (one_of HT_.out (by kernel_rfl)) (by decide) (fun K hK => ?_); refine goes_ Try.func56 (by kernel_rfl) rfl #[.agg #[.slice (some ad) l0_0.length c0_0, .slice A0_1 l0_1.length c0_1], .int .i64 a1] (by rfl) rfl rfl (by (try simp only [List.map_toArray, List.map_cons, List.map_nil]); first | done | rfl) ?_; with_reducible refine (impl_indexOf.calls _ _ l0_0 _ _ l0_1 a1 _ _ (Kd.C_below HR0.out hHeld.2.2.2.2.1.out) HC0.out (Kd.C_below HR1.out hHeld.2.2.2.2.1.out) HC1.out A3.out).mono ?_; rintro e w' ⟨rfl, hb⟩; refine ⟨_, rfl, ?_⟩; refine hK.out _ _ ⟨pw_cell_below hb hHeld.1, pw_cell_below hb hHeld.2.1, pw_cell_below hb hHeld.2.2.1, pw_cell_below hb hHeld.2.2.2.1, ⟨below_chain hHeld.2.2.2.2.1.out hb⟩, ⟨blk_below hHeld.2.2.2.2.2.out hb⟩⟩ (fun hHeld => ?_); clear hK K; refine norm_ (a' := ?_) ?_ ?_; rotate_left; (show Act.put _ (some 33) _ = _; simp only [Act.put, List.setIfInBounds_toArray, List.set_cons_zero, List.set_cons_succ, i64_w, i32_w]; rfl))
    all_goals first | refine pA_ 5 (some 34) (bx 6 [8, 9, 10, 11, 12, 13] 15) HT_.out (h := ?_) | refine pO_ 5 (some 34) (bx 6 [8, 9, 10, 11, 12, 13] 15) HT_.out (h := ?_)
    all_goals first | refine pA_ 6 (some 35) (bx 7 [8, 9, 10, 11, 12, 13] 15) HT_.out (h := ?_) | refine pO_ 6 (some 35) (bx 7 [8, 9, 10, 11, 12, 13] 15) HT_.out (h := ?_)
    all_goals first | refine tA_ 7 (some 36) (bl 14 15) HT_.out HW_.out hHeld (h := ?_) | refine pO_ 7 (some 36) (bl 14 15) HT_.out (h := ?_)
    all_goals first | refine pA_ 14 (some 43) (bl 15 15) HT_.out (h := ?_) | refine pO_ 14 (some 43) (bl 15 15) HT_.out (h := ?_)
    all_goals refine done_ (done_of HT_.out (by kernel_rfl)) ?_
    obtain ⟨hb0, hb1, hx, hy, HBw, B1⟩ := hHeld
    clear hx hy HS0
    cases bk with
    | true =>
      have H := H9.out
      rw [if_neg (by have h := hbk; rw [bne_iff_ne] at h; simp [h])] at H
      injection H with H1 H2
      injection H2 with H2 H3
      subst H1; subst H2; subst H3
      have hf1 := blk_frozen B1.out 0
      have hf2 := blk_frozen B1.out 1
      have hx0 : w'.cell? ⟨w.heap.size + 1, 0, none⟩ = some (.slice none 0 0) := (blk_cell B1.out 0).trans rfl
      have hx0_1 : w'.cell? ⟨w.heap.size + 1, 1, none⟩ = some (.slice none 0 0) := (blk_cell B1.out 1).trans rfl
      go_wp2
      refine bodyPost_ret (results_ct rfl _ _ (w.heap.size + 1) 32 #[.slice none 0 0, .slice none 0 0] (0, 0) _ rfl (blk_put (blk_put B1.out 0 _ rfl) 1 _ rfl) Try.underlying32 rfl (by kernel_rfl)) rfl ?_
      exact ⟨_, _, rfl, Kd.R_nil _ _ _ _ _, Kd.R_nil _ _ _ _ _, by repeat (first | exact HBw.out | refine below_set ?_ (by show w.heap.size ≤ w.heap.size + 1; omega))⟩
    | false =>
      have H := H9.out
      rw [if_pos (by have h : kx = ky := by simpa using hbk
                     simp [h])] at H
      injection H with H1 H2
      injection H2 with H2 H3
      subst H1; subst H2; subst H3
      have hx0 : w'.cell? ⟨w.heap.size + 1, 0, none⟩ = some (.slice none 0 0) := (blk_cell B1.out 0).trans rfl
      have hx0_1 : w'.cell? ⟨w.heap.size + 1, 1, none⟩ = some (.slice none 0 0) := (blk_cell B1.out 1).trans rfl
      clear hltj hlti
      go_upto_region 7 with (go_at_call 57; (with_reducible refine (impl_renamed.calls _ _ l0_0 _ _ l0_1 a2 a1 _ (Kd.C_below HR0.out (by repeat (first | exact HBw.out | exact Below.refl _ _ | apply below_alloc | apply pw_below_drewN | apply below_drew1))) HC0.out (Kd.C_below HR1.out (by repeat (first | exact HBw.out | exact Below.refl _ _ | apply below_alloc | apply pw_below_drewN | apply below_drew1))) HC1.out HL9.out.1 HL9.out.2).mono ?_); rintro e w2 ⟨v0, v1, rfl, hR0, hR1, hb⟩; obtain ⟨D0, d0, rfl, hd0, hC0⟩ := Kd.R_reads hR0; obtain ⟨D1, d1, he1, hd1, hC1⟩ := Kd.R_reads hR1; obtain ⟨n1, hn1⟩ : ∃ n, n = (l0_1.map (ren a2 a1)).length := ⟨_, rfl⟩; obtain rfl : v1 = .slice D1 n1 d1 := he1.trans (by rw [hn1]); have HN1 := Aside0.mk hn1; have HR0q := Aside0.mk (Kd.R_lower hR0 HBw.out.size); have HR1q := Aside0.mk (Kd.R_lower hR1 HBw.out.size); have HBw : Aside0 (Below w.heap.size w w2) := Aside0.mk (below_chain (w := w) (by repeat (first | exact HBw.out | exact Below.refl _ _ | apply below_alloc | apply pw_below_drewN | apply below_drew1)) hb); have hb0 := pw_cell_below hb hb0; have hb1 := pw_cell_below hb hb1; have hx0 := pw_cell_below hb hx0; have hx0_1 := pw_cell_below hb hx0_1; have B1 := Aside0.mk (blk_below B1.out hb); clear hb hR0 hR1 hC0 hC1 hd0 hd1 he1 hn1)
      obtain ⟨gb, hgb⟩ : ∃ g, w2.heap.size = g := ⟨_, rfl⟩
      have B0 := Aside0.mk (blk_new w2 (.cells #[.slice D0 l0_0.length d0, .slice D1 n1 d1] 32 (0, 0)))
      have hlt : w.heap.size + 1 < w2.heap.size := blk_lt B1.out
      have B1 := Aside0.mk (blk_alloc B1.out (.cells #[.slice D0 l0_0.length d0, .slice D1 n1 d1] 32 (0, 0)))
      have HBw := Aside0.mk (below_alloc HBw.out (.cells #[.slice D0 l0_0.length d0, .slice D1 n1 d1] 32 (0, 0)))
      have HR0q := Aside0.mk (Kd.R_alloc HR0q.out (.cells #[.slice D0 l0_0.length d0, .slice D1 n1 d1] 32 (0, 0)))
      have HR1q := Aside0.mk (Kd.R_alloc HR1q.out (.cells #[.slice D0 l0_0.length d0, .slice D1 n1 d1] 32 (0, 0)))
      generalize w2.alloc (.cells #[.slice D0 l0_0.length d0, .slice D1 n1 d1] 32 (0, 0)) = wq at B0 B1 HBw HR0q HR1q ⊢
      rw [hgb] at B0
      try rw [hgb]
      have HGL := Aside0.mk (show w.heap.size + 1 < gb from by omega)
      clear hgb hlt hx0 hx0_1 hb0 hb1
      have c0 : wq.cell? ⟨gb, 0, none⟩ = some (.slice D0 l0_0.length d0) := (blk_cell B0.out 0).trans rfl
      go_upto_region 8 with (go_at_call 58; (refine (impl_Context_58.calls _ _ _ _ i _ _ HIN.out.2 ?hj HR0q.out).mono ?_); (case hj => have h1 := HIN.out.2; have h2 := HL9.out.1; first | omega | go_num | (unfold wrap64; omega)); rintro e w3 ⟨v3, rfl, hR3, hg3⟩; obtain ⟨D2, d2, he2, _, _⟩ := Kd.R_reads hR3; obtain ⟨n2, hn2⟩ : ∃ n, n = (l0_0.eraseIdx i).length := ⟨_, rfl⟩; obtain rfl : v3 = .slice D2 n2 d2 := he2.trans (by rw [hn2]); have B0 := Aside0.mk (blk_grown B0.out hg3 (Kd.R_ne HR0q.out B0.out (by decide))); have B1 := Aside0.mk (blk_grown B1.out hg3 (Kd.R_ne HR0q.out B1.out (by decide))); have HR1q := Aside0.mk (Kd.R_grown2 HR1q.out rfl hg3 (rows_ne HR0q.out HR1q.out (by decide))); have HBw := Aside0.mk (below_of_grown HBw.out hg3 (fun b hb => Kd.R_base HR0q.out b hb)); have HR0q := Aside0.mk hR3; clear c0; have c0 : w3.cell? ⟨gb, 0, none⟩ = some (.slice D0 l0_0.length d0) := (blk_cell B0.out 0).trans rfl; have f0 : w3.frozen? ⟨gb, 0, none⟩ = false := blk_frozen B0.out 0; clear hR3 hg3 he2 hn2)
      have HR1q := Aside0.mk (Kd.R_set HR1q.out B0.out (by decide) 0 (.slice D2 n2 d2))
      have HR0q := Aside0.mk (Kd.R_set HR0q.out B0.out (by decide) 0 (.slice D2 n2 d2))
      have B1 := Aside0.mk (blk_far B1.out (p := ⟨gb, 0, none⟩) (by have := HGL.out; show w.heap.size + 1 ≠ gb; omega) (.slice D2 n2 d2))
      have B0 := Aside0.mk (blk_put B0.out 0 (.slice D2 n2 d2) rfl)
      have HBw := Aside0.mk (below_set HBw.out (g := gb) (j := 0) (v := .slice D2 n2 d2) (by have := HGL.out; omega))
      clear c0 f0
      generalize w3.setCell ⟨gb, 0, none⟩ (.slice D2 n2 d2) = wq3 at HR0q HR1q B0 B1 HBw ⊢
      have c0 : wq3.cell? ⟨gb, 0, none⟩ = some (.slice D2 n2 d2) := (blk_cell B0.out 0).trans rfl
      have c1 : wq3.cell? ⟨gb, 1, none⟩ = some (.slice D1 n1 d1) := (blk_cell B0.out 1).trans rfl
      have HT9 := Aside0.mk (show (l0_0.eraseIdx i).length ≤ 1000 ∧ (l0_1.map (ren a2 a1)).length ≤ 1000 from by have h := HL9.out; have h2 := List.length_eraseIdx_le l0_0 i; rw [List.length_map]; omega)
      obtain ⟨T, hT⟩ : ∃ T, tidyR (l0_1.map (ren a2 a1)) = T := ⟨_, rfl⟩
      have HT := Aside0.mk hT
      clear hT B0
      go_wp2_with (go_at_call 49; (refine (impl_tidyRecord.calls w (.slice D2 n2 d2) (.slice D1 n1 d1) (l0_0.eraseIdx i) (l0_1.map (ren a2 a1)) _ HBw.out HR0q.out HR1q.out HT9.out.1 HT9.out.2).mono ?_); rintro e w5 ⟨v5, cs', ys, rfl, hC, hR, hp, hs, hp2, hs2, hb, hk⟩; rw [tidyR_eq hp2 (hs2.imp fun h => by rw [ltR] at h; exact h), HT.out] at hR; obtain ⟨D5, d5, he5, hd5, _⟩ := Kd.R_reads hR; obtain ⟨n5, hn5⟩ : ∃ n, n = T.length := ⟨_, rfl⟩; obtain rfl : v5 = .slice D5 n5 d5 := he5.trans (by rw [hn5]); have GE := Aside0.mk (show cs' = _ from tidyC_uniq HND.out hp hs); have B1 := Aside0.mk ((hk.2 _ (blk_lt B1.out) (fun h => by rcases h with h | h; exact Kd.R_ne HR0q.out B1.out (by decide) h; exact Kd.R_ne HR1q.out B1.out (by decide) h)).trans B1.out); have HRa := Aside0.mk hC; have HRb := Aside0.mk (Kd.R_mono (ok' := fun _ => True) hR (fun _ _ => trivial)); have HBw := Aside0.mk hb; clear hC hR hp hs hp2 hs2 hb hk he5 hd5 hn5 c0 c1; have q0 : w5.cell? ⟨w.heap.size + 1, 0, none⟩ = some (.slice none 0 0) := (blk_cell B1.out 0).trans rfl; have q1 : w5.cell? ⟨w.heap.size + 1, 1, none⟩ = some (.slice none 0 0) := (blk_cell B1.out 1).trans rfl; have f0 := blk_frozen B1.out 0; have f1 := blk_frozen B1.out 1)
      refine bodyPost_ret (results_ct rfl _ _ (w.heap.size + 1) 32 #[.slice D2 n2 d2, .slice D5 n5 d5] (0, 0) _ rfl (blk_put (blk_put B1.out 0 _ rfl) 1 _ rfl) Try.underlying32 rfl (by kernel_rfl)) rfl ?_
      exact ⟨_, _, rfl, by rw [← GE.out]; exact Kd.R_set (Kd.R_set HRa.out B1.out (by decide) 0 _) (blk_put B1.out 0 _ rfl) (by decide) 1 _, by rw [HT.out]; exact Kd.R_set (Kd.R_set HRb.out B1.out (by decide) 0 _) (blk_put B1.out 0 _ rfl) (by decide) 1 _, below_set (below_set HBw.out (by omega)) (by omega)⟩

end Go.Proofs.Ytlmdmnenljmdgaa.Q

-- Written by a program of this session (wip/xprint.py over the kit's printer).
import Derived.Test.YtojdchmkhhpmiaaQ0
import Derived.Test.YtojdchmkhhpmiaaQF59
import Derived.Test.YtojdchmkhhpmiaaQF62
import Derived.Test.YtojdchmkhhpmiaaQF63
import Derived.Test.YtojdchmkhhpmiaaQF86
import Derived.Test.YtojdchmkhhpmiaaQP
namespace Go.Proofs.Ytojdchmkhhpmiaa.Q
open Go.RowKit Go.Proofs.YtojdchmkhhpmiaaW.PrintWords Go.Proofs.YtojdchmkhhpmiaaW.PrintLast Go.Proofs.YtojdchmkhhpmiaaW.PrintMore
attribute [local go_sem] max2_int min2_int max_two min_two max_three min_three max_four min_four   -- for this text's walks alone
set_option linter.unusedVariables false
set_option linter.unusedSimpArgs false

/-! ### impl_WouldContradict: function 51 -/
def impl_WouldContradict.f (l0_0 : List S59) (l0_1 : List S53) (a1 a2 : Int) : Option (Bool × Bool) := some (if (goodB l0_0 l0_1 && decide (0 ≤ find l0_0 a1)) && (goodB l0_0 l0_1 && decide (0 ≤ find l0_0 a2)) && !(a1 == a2) then (lat l0_0 l0_1 (find l0_0 a2).toNat (find l0_0 a1).toNat, true) else (false, false))
def impl_WouldContradict.T3 : Bool × List (List Nat × List Nat) := (true, [([], []), ([0], [0]), ([1], [1]), ([2], [2]), ([3], [3]), ([], []), ([], []), ([6], [6]), ([5, 7, 1], [5, 7]), ([4, 8], [4, 8]), ([9], [9]), ([], []), ([], []), ([12], [12]), ([11, 13, 8], [11, 13]), ([10, 14], [10, 14]), ([15], [15]), ([16, 14, 0, 1, 2, 3, 4, 5, 6, 7, 8, 9, 10, 11, 12, 13, 14, 15, 16], [16]), ([17, 0, 1, 2, 3, 4, 5, 6, 7, 8, 9, 10, 11, 12, 13, 14, 15, 16, 17], [])])
def impl_WouldContradict.B3 : List Nat := [0, 1, 3, 7, 15, 0, 0, 64, 227, 511, 1023, 0, 0, 4096, 14819, 32767, 65535, 131071, 262143]
theorem impl_WouldContradict.tab3 : rtab .any (opsOf Try.f51 3) = impl_WouldContradict.T3 := by kernel_rfl
theorem impl_WouldContradict.bits3 : waitsOk impl_WouldContradict.T3.2 impl_WouldContradict.B3 = true := by kernel_rfl
set_option maxHeartbeats 8000000 in
set_option maxRecDepth 100000 in
theorem impl_WouldContradict.calls (A0_0 : Option Addr) (c0_0 : Nat) (l0_0 : List S59) (A0_1 : Option Addr) (c0_1 : Nat) (l0_1 : List S53) (a1 a2 : Int) (r1 r2 : Bool) (w : World) (hr0_0 : Kd.C k59 w A0_0 l0_0.length l0_0) (hc0_0 : l0_0.length ≤ c0_0) (hr0_1 : Kd.C k53 w A0_1 l0_1.length l0_1) (hc0_1 : l0_1.length ≤ c0_1) (h : impl_WouldContradict.f l0_0 l0_1 a1 a2 = some (r1, r2)) :
    Calls Try.prog 51 #[.agg #[.slice A0_0 l0_0.length c0_0, .slice A0_1 l0_1.length c0_1], .agg #[.int .i64 a1, .int .i64 a2]] w fun e w' => e = .returned (.tuple #[.bool r1, .bool r2]) ∧ Below w.heap.size w w' := by
  have H := Option.some.inj h
  clear h
  have HR0 := Aside0.mk hr0_0
  have HR1 := Aside0.mk hr0_1
  have HC0 := Aside0.mk hc0_0
  have HC1 := Aside0.mk hc0_1
  clear hr0_0 hr0_1 hc0_0 hc0_1
  obtain ⟨wb, hwb⟩ : ∃ wb, ((w).alloc (.cells #[.slice A0_0 l0_0.length c0_0, .slice A0_1 l0_1.length c0_1] 31 (0, 0))).alloc (.cells #[.int .i64 a1, .int .i64 a2] 53 (0, 0)) = wb := ⟨_, rfl⟩
  have HBw := Aside0.mk (show Below w.heap.size w wb from by rw [← hwb]; repeat (first | exact Below.refl _ _ | apply below_alloc))
  have HWB := HBw
  have hhr : wb.heap[w.heap.size]? = some (.cells #[.slice A0_0 l0_0.length c0_0, .slice A0_1 l0_1.length c0_1] 31 (0, 0)) := by rw [← hwb]; have h := blk_new (w) (.cells #[.slice A0_0 l0_0.length c0_0, .slice A0_1 l0_1.length c0_1] 31 (0, 0)); rw [show (w).heap.size = w.heap.size from by rfl] at h; exact blk_alloc (h) _
  have hb0 : wb.cell? ⟨w.heap.size, 0, none⟩ = some (.slice A0_0 l0_0.length c0_0) := (blk_cell hhr 0).trans rfl
  have hb1 : wb.cell? ⟨w.heap.size, 1, none⟩ = some (.slice A0_1 l0_1.length c0_1) := (blk_cell hhr 1).trans rfl
  have hh0 : wb.heap[w.heap.size + 1]? = some (.cells #[.int .i64 a1, .int .i64 a2] 53 (0, 0)) := by rw [← hwb]; have h := blk_new ((w).alloc (.cells #[.slice A0_0 l0_0.length c0_0, .slice A0_1 l0_1.length c0_1] 31 (0, 0))) (.cells #[.int .i64 a1, .int .i64 a2] 53 (0, 0)); rw [show ((w).alloc (.cells #[.slice A0_0 l0_0.length c0_0, .slice A0_1 l0_1.length c0_1] 31 (0, 0))).heap.size = w.heap.size + 1 from by simp] at h; exact h
  have hx0 : wb.cell? ⟨w.heap.size + 1, 0, none⟩ = some (.int .i64 a1) := (blk_cell hh0 0).trans rfl
  have hx0_1 : wb.cell? ⟨w.heap.size + 1, 1, none⟩ = some (.int .i64 a2) := (blk_cell hh0 1).trans rfl
  have hbs : w.heap.size + 1 < wb.heap.size := blk_lt hh0
  have HW := Aside0.mk hwb
  clear hwb hhr hh0
  obtain ⟨x1, hx1⟩ : ∃ b, (goodB l0_0 l0_1 && decide (0 ≤ find l0_0 a1)) = b := ⟨_, rfl⟩
  obtain ⟨x2, hx2⟩ : ∃ b, (goodB l0_0 l0_1 && decide (0 ≤ find l0_0 a2)) = b := ⟨_, rfl⟩
  have A1 := Aside0.mk ((hasContext_eq l0_0 l0_1 a1).trans (congrArg some hx1))
  have A2 := Aside0.mk ((hasContext_eq l0_0 l0_1 a2).trans (congrArg some hx2))
  rw [hx1, hx2] at H
  cases x1 with
  | false =>
    clear hx1 hx2
    injection H with H1 H2
    subst H1; subst H2
    go_enter Try.func51, Try.ntmps51
    go_upto_region 1 with (fail)
    try rw [HW.out]
    clear HW
    go_wp2_with (go_at_call 63; (with_reducible refine (impl_hasContext.calls _ _ l0_0 _ _ l0_1 _ _ _ (Kd.C_below HR0.out (by repeat (first | exact HBw.out | exact Below.refl _ _ | apply below_alloc | apply pw_below_drewN | apply below_drew1))) HC0.out (Kd.C_below HR1.out (by repeat (first | exact HBw.out | exact Below.refl _ _ | apply below_alloc | apply pw_below_drewN | apply below_drew1))) HC1.out A1.out).mono ?_); rintro e w1 ⟨rfl, hb⟩; have HBw : Aside0 (Below w.heap.size w w1) := Aside0.mk (below_chain (w := w) (by repeat (first | exact HBw.out | exact Below.refl _ _ | apply below_alloc | apply pw_below_drewN | apply below_drew1)) hb); have hb0 := pw_cell_below hb hb0; have hb1 := pw_cell_below hb hb1; have hx0 := pw_cell_below hb hx0; have hx0_1 := pw_cell_below hb hx0_1; clear hb)
    go_ret2
    exact ⟨rfl, (by repeat (first | exact HBw.out | exact Below.refl _ _ | apply below_alloc | apply pw_below_drewN | apply below_drew1))⟩
  | true =>
  cases x2 with
  | false =>
    clear hx1 hx2
    injection H with H1 H2
    subst H1; subst H2
    go_enter Try.func51, Try.ntmps51
    go_upto_region 1 with (fail)
    try rw [HW.out]
    clear HW
    go_wp2_with (first | (go_at_call 63; (with_reducible refine (impl_hasContext.calls _ _ l0_0 _ _ l0_1 a1 _ _ (Kd.C_below HR0.out (by repeat (first | exact HBw.out | exact Below.refl _ _ | apply below_alloc | apply pw_below_drewN | apply below_drew1))) HC0.out (Kd.C_below HR1.out (by repeat (first | exact HBw.out | exact Below.refl _ _ | apply below_alloc | apply pw_below_drewN | apply below_drew1))) HC1.out A1.out).mono ?_); rintro e w1 ⟨rfl, hb⟩; have HBw : Aside0 (Below w.heap.size w w1) := Aside0.mk (below_chain (w := w) (by repeat (first | exact HBw.out | exact Below.refl _ _ | apply below_alloc | apply pw_below_drewN | apply below_drew1)) hb); have hb0 := pw_cell_below hb hb0; have hb1 := pw_cell_below hb hb1; have hx0 := pw_cell_below hb hx0; have hx0_1 := pw_cell_below hb hx0_1; clear hb A1) | (go_at_call 63; (with_reducible refine (impl_hasContext.calls _ _ l0_0 _ _ l0_1 a2 _ _ (Kd.C_below HR0.out (by repeat (first | exact HBw.out | exact Below.refl _ _ | apply below_alloc | apply pw_below_drewN | apply below_drew1))) HC0.out (Kd.C_below HR1.out (by repeat (first | exact HBw.out | exact Below.refl _ _ | apply below_alloc | apply pw_below_drewN | apply below_drew1))) HC1.out A2.out).mono ?_); rintro e w2 ⟨rfl, hb⟩; have HBw : Aside0 (Below w.heap.size w w2) := Aside0.mk (below_chain (w := w) (by repeat (first | exact HBw.out | exact Below.refl _ _ | apply below_alloc | apply pw_below_drewN | apply below_drew1)) hb); have hb0 := pw_cell_below hb hb0; have hb1 := pw_cell_below hb hb1; have hx0 := pw_cell_below hb hx0; have hx0_1 := pw_cell_below hb hx0_1; clear hb))
    go_ret2
    exact ⟨rfl, (by repeat (first | exact HBw.out | exact Below.refl _ _ | apply below_alloc | apply pw_below_drewN | apply below_drew1))⟩
  | true =>
    obtain ⟨x3, hx3⟩ : ∃ b, (a1 == a2) = b := ⟨_, rfl⟩
    rw [hx3] at H
    cases x3 with
    | true =>
      clear hx1 hx2
      injection H with H1 H2
      subst H1; subst H2
      have hx4 : decide (a1 = a2) = true := by simpa using hx3
      go_enter Try.func51, Try.ntmps51
      go_upto_region 1 with (fail)
      try rw [HW.out]
      clear HW
      go_wp2_with (first | (go_at_call 63; (with_reducible refine (impl_hasContext.calls _ _ l0_0 _ _ l0_1 a1 _ _ (Kd.C_below HR0.out (by repeat (first | exact HBw.out | exact Below.refl _ _ | apply below_alloc | apply pw_below_drewN | apply below_drew1))) HC0.out (Kd.C_below HR1.out (by repeat (first | exact HBw.out | exact Below.refl _ _ | apply below_alloc | apply pw_below_drewN | apply below_drew1))) HC1.out A1.out).mono ?_); rintro e w1 ⟨rfl, hb⟩; have HBw : Aside0 (Below w.heap.size w w1) := Aside0.mk (below_chain (w := w) (by repeat (first | exact HBw.out | exact Below.refl _ _ | apply below_alloc | apply pw_below_drewN | apply below_drew1)) hb); have hb0 := pw_cell_below hb hb0; have hb1 := pw_cell_below hb hb1; have hx0 := pw_cell_below hb hx0; have hx0_1 := pw_cell_below hb hx0_1; clear hb A1) | (go_at_call 63; (with_reducible refine (impl_hasContext.calls _ _ l0_0 _ _ l0_1 a2 _ _ (Kd.C_below HR0.out (by repeat (first | exact HBw.out | exact Below.refl _ _ | apply below_alloc | apply pw_below_drewN | apply below_drew1))) HC0.out (Kd.C_below HR1.out (by repeat (first | exact HBw.out | exact Below.refl _ _ | apply below_alloc | apply pw_below_drewN | apply below_drew1))) HC1.out A2.out).mono ?_); rintro e w2 ⟨rfl, hb⟩; have HBw : Aside0 (Below w.heap.size w w2) := Aside0.mk (below_chain (w := w) (by repeat (first | exact HBw.out | exact Below.refl _ _ | apply below_alloc | apply pw_below_drewN | apply below_drew1)) hb); have hb0 := pw_cell_below hb hb0; have hb1 := pw_cell_below hb hb1; have hx0 := pw_cell_below hb hx0; have hx0_1 := pw_cell_below hb hx0_1; clear hb))
      go_ret2
      exact ⟨rfl, (by repeat (first | exact HBw.out | exact Below.refl _ _ | apply below_alloc | apply pw_below_drewN | apply below_drew1))⟩
    | false =>
    simp only [Bool.and_eq_true, decide_eq_true_eq] at hx1 hx2
    obtain ⟨i, hi, hil⟩ := find_nat l0_0 a1 hx1.2
    obtain ⟨k, hk, hkl⟩ := find_nat l0_0 a2 hx2.2
    obtain ⟨hn10, hm24, hin⟩ := goodB_parts hx1.1
    have HO3 := Aside0.mk (And.intro hn10 (And.intro hm24 hin))
    rw [hi, hk, Int.toNat_natCast, Int.toNat_natCast] at H
    injection H with H1 H2
    subst H1; subst H2
    have A3 := Aside0.mk (show impl_indexOf.f l0_0 l0_1 a1 = some (i : Int) from congrArg some hi)
    have A4 := Aside0.mk (show impl_indexOf.f l0_0 l0_1 a2 = some (k : Int) from congrArg some hk)
    have hilz : (i : Int) < (l0_0.length : Int) := by omega
    have hklz : (k : Int) < (l0_0.length : Int) := by omega
    have hx4 : decide (a1 = a2) = false := by simpa using hx3
    clear hx1 hx2 hi hk hin hm24
    go_enter Try.func51, Try.ntmps51
    go_upto_region 1 with (fail)
    try rw [HW.out]
    clear HW
    go_upto_region 3 with (first | (go_at_call 63; (with_reducible refine (impl_hasContext.calls _ _ l0_0 _ _ l0_1 a1 _ _ (Kd.C_below HR0.out (by repeat (first | exact HBw.out | exact Below.refl _ _ | apply below_alloc | apply pw_below_drewN | apply below_drew1))) HC0.out (Kd.C_below HR1.out (by repeat (first | exact HBw.out | exact Below.refl _ _ | apply below_alloc | apply pw_below_drewN | apply below_drew1))) HC1.out A1.out).mono ?_); rintro e w1 ⟨rfl, hb⟩; have HBw : Aside0 (Below w.heap.size w w1) := Aside0.mk (below_chain (w := w) (by repeat (first | exact HBw.out | exact Below.refl _ _ | apply below_alloc | apply pw_below_drewN | apply below_drew1)) hb); have hb0 := pw_cell_below hb hb0; have hb1 := pw_cell_below hb hb1; have hx0 := pw_cell_below hb hx0; have hx0_1 := pw_cell_below hb hx0_1; clear hb A1) | (go_at_call 63; (with_reducible refine (impl_hasContext.calls _ _ l0_0 _ _ l0_1 a2 _ _ (Kd.C_below HR0.out (by repeat (first | exact HBw.out | exact Below.refl _ _ | apply below_alloc | apply pw_below_drewN | apply below_drew1))) HC0.out (Kd.C_below HR1.out (by repeat (first | exact HBw.out | exact Below.refl _ _ | apply below_alloc | apply pw_below_drewN | apply below_drew1))) HC1.out A2.out).mono ?_); rintro e w2 ⟨rfl, hb⟩; have HBw : Aside0 (Below w.heap.size w w2) := Aside0.mk (below_chain (w := w) (by repeat (first | exact HBw.out | exact Below.refl _ _ | apply below_alloc | apply pw_below_drewN | apply below_drew1)) hb); have hb0 := pw_cell_below hb hb0; have hb1 := pw_cell_below hb hb1; have hx0 := pw_cell_below hb hx0; have hx0_1 := pw_cell_below hb hx0_1; clear hb))
    have HS0 := Aside0.mk (show (fun w' : World => w'.cell? ⟨w.heap.size, 0, none⟩ = some (.slice A0_0 l0_0.length c0_0) ∧ w'.cell? ⟨w.heap.size, 1, none⟩ = some (.slice A0_1 l0_1.length c0_1) ∧ Below w.heap.size w w' ∧ w'.cell? ⟨w.heap.size + 1, 0, none⟩ = some (.int .i64 a1) ∧ w'.cell? ⟨w.heap.size + 1, 1, none⟩ = some (.int .i64 a2)) w2.drew from ⟨hb0, hb1, below_drew1 HBw.out, hx0, hx0_1⟩)
    all_goals refine start_ (n := 19) (S := (fun w' => w'.cell? ⟨w.heap.size, 0, none⟩ = some (.slice A0_0 l0_0.length c0_0) ∧ w'.cell? ⟨w.heap.size, 1, none⟩ = some (.slice A0_1 l0_1.length c0_1) ∧ Below w.heap.size w w' ∧ w'.cell? ⟨w.heap.size + 1, 0, none⟩ = some (.int .i64 a1) ∧ w'.cell? ⟨w.heap.size + 1, 1, none⟩ = some (.int .i64 a2))) (ds := []) (bl 0 19) (by kernel_rfl) rfl rfl HS0.out (fun hHeld => ?_); refine with_tabW impl_WouldContradict.tab3 impl_WouldContradict.bits3 (fun HT_ HW_ => ?_)
    all_goals generalize w2.drew = wv at hHeld ⊢
    all_goals first | refine pA_ 6 (some 31) (bx 0 [6] 19) HT_.out (h := ?_) | refine pO_ 6 (some 31) (bx 0 [6] 19) HT_.out (h := ?_)
    all_goals first | refine pA_ 12 (some 37) (bx 0 [6, 12] 19) HT_.out (h := ?_) | refine pO_ 12 (some 37) (bx 0 [6, 12] 19) HT_.out (h := ?_)
    all_goals first | refine tA_ 0 (some 25) (bx 1 [6, 12] 19) HT_.out HW_.out hHeld (h := ?_) | refine pO_ 0 (some 25) (bx 1 [6, 12] 19) HT_.out (h := ?_)
    all_goals first | refine tA_ 5 (some 30) (bx 1 [5, 6, 12] 19) HT_.out HW_.out hHeld (h := ?_) | refine pO_ 5 (some 30) (bx 1 [5, 6, 12] 19) HT_.out (h := ?_)
    all_goals first | refine tA_ 7 (some 32) (bx 1 [5, 6, 7, 12] 19) HT_.out HW_.out hHeld (h := ?_) | refine pO_ 7 (some 32) (bx 1 [5, 6, 7, 12] 19) HT_.out (h := ?_)
    all_goals first | refine tA_ 11 (some 36) (bx 1 [5, 6, 7, 11, 12] 19) HT_.out HW_.out hHeld (h := ?_) | refine pO_ 11 (some 36) (bx 1 [5, 6, 7, 11, 12] 19) HT_.out (h := ?_)
    all_goals first | refine tA_ 13 (some 38) (bx 1 [5, 6, 7, 11, 12, 13] 19) HT_.out HW_.out hHeld (h := ?_) | refine pO_ 13 (some 38) (bx 1 [5, 6, 7, 11, 12, 13] 19) HT_.out (h := ?_)
    all_goals first | refine pO_ 1 (some 26) (bx 2 [5, 6, 7, 11, 12, 13] 19) HT_.out (h := ?_) | (refine one_ (i := 1) (N := some 26) (bx 2 [5, 6, 7, 11, 12, 13] 19) rfl rfl (one_of HT_.out (by kernel_rfl)) (by decide) (fun K hK => ?_); refine goes_ Try.func86 (by kernel_rfl) rfl #[.agg #[.slice A0_0 l0_0.length c0_0, .slice A0_1 l0_1.length c0_1]] (by rfl) rfl rfl (by (try simp only [List.map_toArray, List.map_cons, List.map_nil]); first | done | rfl) ?_; with_reducible refine (impl_orderOf.calls _ _ l0_0 _ _ l0_1 _ (Kd.C_below HR0.out hHeld.2.2.1) HC0.out (Kd.C_below HR1.out hHeld.2.2.1) HC1.out HO3.out.1 HO3.out.2.1 HO3.out.2.2).mono ?_; rintro e w3 ⟨p, rfl, N1, N2, v, HO⟩; have hb := HO.below; have HOA := Aside0.mk HO; clear HO; refine ⟨_, rfl, ?_⟩; refine hK.out _ _ ⟨pw_cell_below hb hHeld.1, pw_cell_below hb hHeld.2.1, below_chain hHeld.2.2.1 hb, pw_cell_below hb hHeld.2.2.2.1, pw_cell_below hb hHeld.2.2.2.2⟩ (fun hHeld => ?_); clear hK K; refine norm_ (a' := ?_) ?_ ?_; rotate_left; (show Act.put _ (some 26) _ = _; simp only [Act.put, List.setIfInBounds_toArray, List.set_cons_zero, List.set_cons_succ, i64_w, i32_w]; rfl))
    all_goals (have hHeld2 := (show (fun w' => w'.cell? ⟨w.heap.size, 0, none⟩ = some (.slice A0_0 l0_0.length c0_0) ∧ w'.cell? ⟨w.heap.size, 1, none⟩ = some (.slice A0_1 l0_1.length c0_1) ∧ Below w.heap.size w w' ∧ w'.cell? ⟨w.heap.size + 1, 0, none⟩ = some (.int .i64 a1) ∧ w'.cell? ⟨w.heap.size + 1, 1, none⟩ = some (.int .i64 a2) ∧ w'.cell? ⟨p, 2, none⟩ = some (.slice (some ⟨N2, 0, none⟩) l0_0.length l0_0.length) ∧ w'.cell? ⟨N2, k, none⟩ = some (.slice (some ⟨N2 + 1 + k, 0, none⟩) l0_0.length l0_0.length) ∧ w'.cell? ⟨N2 + 1 + k, i, none⟩ = some (.bool (lat l0_0 l0_1 k i))) w3 from ⟨hHeld.1, hHeld.2.1, hHeld.2.2.1, hHeld.2.2.2.1, hHeld.2.2.2.2, HOA.out.c2, HOA.out.m2.topc hkl, HOA.out.m2.cell hkl hil⟩); refine change_ (S2 := fun w' => w'.cell? ⟨w.heap.size, 0, none⟩ = some (.slice A0_0 l0_0.length c0_0) ∧ w'.cell? ⟨w.heap.size, 1, none⟩ = some (.slice A0_1 l0_1.length c0_1) ∧ Below w.heap.size w w' ∧ w'.cell? ⟨w.heap.size + 1, 0, none⟩ = some (.int .i64 a1) ∧ w'.cell? ⟨w.heap.size + 1, 1, none⟩ = some (.int .i64 a2) ∧ w'.cell? ⟨p, 2, none⟩ = some (.slice (some ⟨N2, 0, none⟩) l0_0.length l0_0.length) ∧ w'.cell? ⟨N2, k, none⟩ = some (.slice (some ⟨N2 + 1 + k, 0, none⟩) l0_0.length l0_0.length) ∧ w'.cell? ⟨N2 + 1 + k, i, none⟩ = some (.bool (lat l0_0 l0_1 k i))) (fun _ h => ⟨h.1, h.2.1, h.2.2.1, h.2.2.2.1, h.2.2.2.2.1⟩) hHeld2 ?_; clear hHeld; have hHeld := hHeld2; clear hHeld2)
    all_goals first | refine pA_ 2 (some 27) (bx 3 [5, 6, 7, 11, 12, 13] 19) HT_.out (h := ?_) | refine pO_ 2 (some 27) (bx 3 [5, 6, 7, 11, 12, 13] 19) HT_.out (h := ?_)
    all_goals first | refine pA_ 3 (some 28) (bx 4 [5, 6, 7, 11, 12, 13] 19) HT_.out (h := ?_) | refine pO_ 3 (some 28) (bx 4 [5, 6, 7, 11, 12, 13] 19) HT_.out (h := ?_)
    all_goals first | refine tA_ 4 (some 29) (bx 8 [11, 12, 13] 19) HT_.out HW_.out hHeld (h := ?_) | refine pO_ 4 (some 29) (bx 8 [11, 12, 13] 19) HT_.out (h := ?_)
    all_goals first | refine pO_ 8 (some 33) (bx 9 [11, 12, 13] 19) HT_.out (h := ?_) | (refine one_ (i := 8) (N := some 33) (bx 9 [11, 12, 13] 19) rfl rfl (one_of HT_.out (by kernel_rfl)) (by decide) (fun K hK => ?_); refine goes_ Try.func59 (by kernel_rfl) rfl #[.agg #[.slice A0_0 l0_0.length c0_0, .slice A0_1 l0_1.length c0_1], .int .i64 a2] (by rfl) rfl rfl (by (try simp only [List.map_toArray, List.map_cons, List.map_nil]); first | done | rfl) ?_; with_reducible refine (impl_indexOf.calls _ _ l0_0 _ _ l0_1 a2 _ _ (Kd.C_below HR0.out hHeld.2.2.1) HC0.out (Kd.C_below HR1.out hHeld.2.2.1) HC1.out A4.out).mono ?_; rintro e w4 ⟨rfl, hb⟩; refine ⟨_, rfl, ?_⟩; refine hK.out _ _ ⟨pw_cell_below hb hHeld.1, pw_cell_below hb hHeld.2.1, below_chain hHeld.2.2.1 hb, pw_cell_below hb hHeld.2.2.2.1, pw_cell_below hb hHeld.2.2.2.2.1, pw_cell_below hb hHeld.2.2.2.2.2.1, pw_cell_below hb hHeld.2.2.2.2.2.2.1, pw_cell_below hb hHeld.2.2.2.2.2.2.2⟩ (fun hHeld => ?_); clear hK K; refine norm_ (a' := ?_) ?_ ?_; rotate_left; (show Act.put _ (some 33) _ = _; simp only [Act.put, List.setIfInBounds_toArray, List.set_cons_zero, List.set_cons_succ, i64_w, i32_w]; rfl))
    all_goals first | refine pA_ 9 (some 34) (bx 10 [11, 12, 13] 19) HT_.out (h := ?_) | refine pO_ 9 (some 34) (bx 10 [11, 12, 13] 19) HT_.out (h := ?_)
    all_goals first | refine tA_ 10 (some 35) (bl 14 19) HT_.out HW_.out hHeld (h := ?_) | refine pO_ 10 (some 35) (bl 14 19) HT_.out (h := ?_)
    all_goals first | refine pO_ 14 (some 39) (bl 15 19) HT_.out (h := ?_) | (refine one_ (i := 14) (N := some 39) (bl 15 19) rfl rfl (one_of HT_.out (by kernel_rfl)) (by decide) (fun K hK => ?_); refine goes_ Try.func59 (by kernel_rfl) rfl #[.agg #[.slice A0_0 l0_0.length c0_0, .slice A0_1 l0_1.length c0_1], .int .i64 a1] (by rfl) rfl rfl (by (try simp only [List.map_toArray, List.map_cons, List.map_nil]); first | done | rfl) ?_; with_reducible refine (impl_indexOf.calls _ _ l0_0 _ _ l0_1 a1 _ _ (Kd.C_below HR0.out hHeld.2.2.1) HC0.out (Kd.C_below HR1.out hHeld.2.2.1) HC1.out A3.out).mono ?_; rintro e w5 ⟨rfl, hb⟩; refine ⟨_, rfl, ?_⟩; refine hK.out _ _ ⟨pw_cell_below hb hHeld.1, pw_cell_below hb hHeld.2.1, below_chain hHeld.2.2.1 hb, pw_cell_below hb hHeld.2.2.2.1, pw_cell_below hb hHeld.2.2.2.2.1, pw_cell_below hb hHeld.2.2.2.2.2.1, pw_cell_below hb hHeld.2.2.2.2.2.2.1, pw_cell_below hb hHeld.2.2.2.2.2.2.2⟩ (fun hHeld => ?_); clear hK K; refine norm_ (a' := ?_) ?_ ?_; rotate_left; (show Act.put _ (some 39) _ = _; simp only [Act.put, List.setIfInBounds_toArray, List.set_cons_zero, List.set_cons_succ, i64_w, i32_w]; rfl))
    all_goals first | refine pA_ 15 (some 40) (bl 16 19) HT_.out (h := ?_) | refine pO_ 15 (some 40) (bl 16 19) HT_.out (h := ?_)
    all_goals first | refine tA_ 16 (some 41) (bl 17 19) HT_.out HW_.out hHeld (h := ?_) | refine pO_ 16 (some 41) (bl 17 19) HT_.out (h := ?_)
    all_goals first | refine pA_ 17 (some 4) (bl 18 19) HT_.out (h := ?_) | refine pO_ 17 (some 4) (bl 18 19) HT_.out (h := ?_)
    all_goals first | refine pA_ 18 (some 5) (bl 19 19) HT_.out (h := ?_) | refine pO_ 18 (some 5) (bl 19 19) HT_.out (h := ?_)
    all_goals refine done_ (done_of HT_.out (by kernel_rfl)) ?_
    go_wp2
    go_ret2
    exact ⟨rfl, hHeld.2.2.1⟩

end Go.Proofs.Ytojdchmkhhpmiaa.Q

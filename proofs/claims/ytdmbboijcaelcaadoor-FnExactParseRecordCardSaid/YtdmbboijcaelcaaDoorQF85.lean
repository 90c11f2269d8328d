-- Written by a program of this session (wip/xprint.py over the kit's printer).
import Derived.Test.YtdmbboijcaelcaaDoorQ0
import Derived.Test.YtdmbboijcaelcaaDoorQF52
import Derived.Test.YtdmbboijcaelcaaDoorQP
namespace Go.Proofs.YtdmbboijcaelcaaDoor.Q
open Go.RowKit Go.Proofs.YtdmbboijcaelcaaDoorW.PrintWords Go.Proofs.YtdmbboijcaelcaaDoorW.PrintLast
set_option linter.unusedVariables false
set_option linter.unusedSimpArgs false

/-! ### spec_l3Relation: function 85 -/
def spec_l3Relation.f (k : Nat) (a0 a1 : Int) : Option ByteArray := (spec_l1Num.f k a0).bind fun t => (spec_l1Num.f k a1).bind fun u => if t.size ≤ 1048576 ∧ u.size ≤ 1048576 then some ((t ++ (⟨#[32, 97, 98, 111, 118, 101, 32]⟩ : ByteArray)) ++ u) else none
theorem spec_l3Relation.mono : ∀ a0 a1 k, LeO (spec_l3Relation.f k a0 a1) (spec_l3Relation.f (k + 1) a0 a1) := fun a0 a1 k => by
  unfold spec_l3Relation.f
  exact LeO.bind (spec_l1Num.mono a0 k) (fun _ => LeO.bind (spec_l1Num.mono a1 k) (fun _ => LeO.refl _))
def spec_l3Relation.T1 : Bool × List (List Nat × List Nat) := (true, [([], []), ([0], [0]), ([1], [1]), ([2], [2]), ([], []), ([4], [4]), ([5, 2], [5]), ([3, 6], [3, 6]), ([7, 6, 0, 1, 2, 3, 4, 5, 6, 7], [7])])
def spec_l3Relation.B1 : List Nat := [0, 1, 3, 7, 0, 16, 55, 127, 255]
theorem spec_l3Relation.tab1 : rtab .any (opsOf Tryd.f85 1) = spec_l3Relation.T1 := by kernel_rfl
theorem spec_l3Relation.bits1 : waitsOk spec_l3Relation.T1.2 spec_l3Relation.B1 = true := by kernel_rfl
set_option maxHeartbeats 2000000 in
set_option maxRecDepth 100000 in
theorem spec_l3Relation.calls (k : Nat) (m0 : Int) (m1 : Int) (r : ByteArray) (w : World) (h : spec_l3Relation.f k m0 m1 = some r) :
    Calls Tryd.prog 85 #[.agg #[.int .i64 m0, .int .i64 m1]] w fun e w' => e = .returned (.string r) ∧ Below w.heap.size w w' := by
  unfold spec_l3Relation.f at h
  obtain ⟨t, ht, h⟩ := Option.bind_eq_some_iff.mp h
  obtain ⟨u, hu, h⟩ := Option.bind_eq_some_iff.mp h
  by_cases hc : t.size ≤ 1048576 ∧ u.size ≤ 1048576
  · rw [if_pos hc] at h
    obtain rfl := Option.some.inj h
    clear h
    obtain ⟨hs0, hs1⟩ := hc
    have HI := Aside0.mk (fun (W : World) => spec_l1Num.calls k m0 t W ht)
    have HJ := Aside0.mk (fun (W : World) => spec_l1Num.calls k m1 u W hu)
    clear ht hu
    have z1 : (t ++ (⟨#[32, 97, 98, 111, 118, 101, 32]⟩ : ByteArray)).size = t.size + 7 := by rw [ByteArray.size_append]; rfl
    have f1 : (9223372036854775807 < t.size + 7) = False := eq_false (by omega)
    have f2 : (9223372036854775807 < t.size + 7 + u.size) = False := eq_false (by omega)
    clear hs0 hs1 z1
    have BX := heap_alloc_new w (.cells #[.int .i64 m0, .int .i64 m1] 96 (0, 0))
    have HS1 := Aside0.mk (show (fun w' : World => w'.cell? ⟨w.heap.size, 0, none⟩ = some (.int .i64 m0) ∧ w'.cell? ⟨w.heap.size, 1, none⟩ = some (.int .i64 m1) ∧ Aside0 (Below w.heap.size w w')) (w.alloc (.cells #[.int .i64 m0, .int .i64 m1] 96 (0, 0))).drew from ⟨(blk_cell BX 0).trans rfl, (blk_cell BX 1).trans rfl, ⟨below_drew1 (below_alloc (Below.refl w.heap.size w) _)⟩⟩)
    clear BX
    go_enter Tryd.func85, Tryd.ntmps85
    go_upto_region 1 with (fail)
    generalize w.alloc (.cells #[.int .i64 m0, .int .i64 m1] 96 (0, 0)) = wq2 at HS1 ⊢
    all_goals refine start_ (n := 9) (S := (fun w' => w'.cell? ⟨w.heap.size, 0, none⟩ = some (.int .i64 m0) ∧ w'.cell? ⟨w.heap.size, 1, none⟩ = some (.int .i64 m1) ∧ Aside0 (Below w.heap.size w w'))) (ds := []) (bl 0 9) (by kernel_rfl) rfl rfl HS1.out (fun hHeld => ?_); refine with_tabW spec_l3Relation.tab1 spec_l3Relation.bits1 (fun HT_ HW_ => ?_)
    all_goals generalize wq2.drew = wv at hHeld ⊢
    all_goals first | refine pA_ 0 (some 3) (bl 1 9) HT_.out (h := ?_) | refine pO_ 0 (some 3) (bl 1 9) HT_.out (h := ?_)
    all_goals first | refine pA_ 4 (some 7) (bx 1 [4] 9) HT_.out (h := ?_) | refine pO_ 4 (some 7) (bx 1 [4] 9) HT_.out (h := ?_)
    all_goals first | refine tA_ 1 (some 4) (bx 2 [4] 9) HT_.out HW_.out hHeld (h := ?_) | refine pO_ 1 (some 4) (bx 2 [4] 9) HT_.out (h := ?_)
    all_goals first | refine tA_ 5 (some 8) (bx 2 [4, 5] 9) HT_.out HW_.out hHeld (h := ?_) | refine pO_ 5 (some 8) (bx 2 [4, 5] 9) HT_.out (h := ?_)
    all_goals first | refine pO_ 2 (some 5) (bx 3 [4, 5] 9) HT_.out (h := ?_) | (refine one_ (i := 2) (N := some 5) (bx 3 [4, 5] 9) rfl rfl (one_of HT_.out (by kernel_rfl)) (by decide) (fun K hK => ?_); refine goes_ Tryd.func52 (by kernel_rfl) rfl #[.int .i64 m0] (by rfl) rfl rfl (by (try simp only [List.map_toArray, List.map_cons, List.map_nil]); first | done | rfl) ?_; with_reducible refine (HI.out _).mono ?_; rintro e w3 ⟨rfl, hb⟩; refine ⟨_, rfl, ?_⟩; refine hK.out _ _ ⟨pw_cell_below hb hHeld.1, pw_cell_below hb hHeld.2.1, ⟨below_chain hHeld.2.2.out hb⟩⟩ (fun hHeld => ?_); clear hK K; refine norm_ (a' := ?_) ?_ ?_; rotate_left; (show Act.put _ (some 5) _ = _; simp only [Act.put, List.setIfInBounds_toArray, List.set_cons_zero, List.set_cons_succ, i64_w, i32_w]; rfl))
    all_goals first | refine pA_ 3 (some 6) (bl 6 9) HT_.out (h := ?_) | refine pO_ 3 (some 6) (bl 6 9) HT_.out (h := ?_)
    all_goals first | refine pO_ 6 (some 9) (bl 7 9) HT_.out (h := ?_) | (refine one_ (i := 6) (N := some 9) (bl 7 9) rfl rfl (one_of HT_.out (by kernel_rfl)) (by decide) (fun K hK => ?_); refine goes_ Tryd.func52 (by kernel_rfl) rfl #[.int .i64 m1] (by rfl) rfl rfl (by (try simp only [List.map_toArray, List.map_cons, List.map_nil]); first | done | rfl) ?_; with_reducible refine (HJ.out _).mono ?_; rintro e w4 ⟨rfl, hb⟩; refine ⟨_, rfl, ?_⟩; refine hK.out _ _ ⟨pw_cell_below hb hHeld.1, pw_cell_below hb hHeld.2.1, ⟨below_chain hHeld.2.2.out hb⟩⟩ (fun hHeld => ?_); clear hK K; refine norm_ (a' := ?_) ?_ ?_; rotate_left; (show Act.put _ (some 9) _ = _; simp only [Act.put, List.setIfInBounds_toArray, List.set_cons_zero, List.set_cons_succ, i64_w, i32_w]; rfl))
    all_goals first | refine pA_ 7 (some 10) (bl 8 9) HT_.out (h := ?_) | refine pO_ 7 (some 10) (bl 8 9) HT_.out (h := ?_)
    all_goals first | refine pA_ 8 (some 2) (bl 9 9) HT_.out (h := ?_) | refine pO_ 8 (some 2) (bl 9 9) HT_.out (h := ?_)
    all_goals refine done_ (done_of HT_.out (by kernel_rfl)) ?_
    go_wp2
    go_ret
    exact ⟨rfl, hHeld.2.2.out⟩
  · rw [if_neg hc] at h
    cases h

end Go.Proofs.YtdmbboijcaelcaaDoor.Q

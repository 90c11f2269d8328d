-- Written by a program of this session (wip/xprint.py over the kit's printer).
import Derived.Test.YtdmbboijcaelcaaDoorQ0
import Derived.Test.YtdmbboijcaelcaaDoorQF120
import Derived.Test.YtdmbboijcaelcaaDoorQF52
import Derived.Test.YtdmbboijcaelcaaDoorQP
namespace Go.Proofs.YtdmbboijcaelcaaDoor.Q
open Go.RowKit Go.Proofs.YtdmbboijcaelcaaDoorW.PrintWords Go.Proofs.YtdmbboijcaelcaaDoorW.PrintLast
set_option linter.unusedVariables false
set_option linter.unusedSimpArgs false

/-! ### spec_l3Context: function 84 -/
def kwS : List ByteArray := [⟨#[]⟩, ⟨#[100, 101, 112, 111, 115, 105, 116]⟩, ⟨#[99, 117, 116]⟩, ⟨#[115, 116, 114, 117, 99, 116, 117, 114, 101]⟩, ⟨#[110, 97, 116, 117, 114, 97, 108]⟩]
def spec_l3Context.f (k : Nat) (a0 a1 : Int) : Option ByteArray := (spec_l1Num.f k a0).bind fun t => if 0 ≤ a1 ∧ a1 < 5 ∧ t.size ≤ 1048576 ∧ (rdOf ByteArray.empty kwS a1).size ≤ 1048576 then some ((((⟨#[99, 111, 110, 116, 101, 120, 116, 32]⟩ : ByteArray) ++ t) ++ (⟨#[32]⟩ : ByteArray)) ++ rdOf ByteArray.empty kwS a1) else none
theorem spec_l3Context.mono : ∀ a0 a1 k, LeO (spec_l3Context.f k a0 a1) (spec_l3Context.f (k + 1) a0 a1) := fun a0 a1 k => by
  unfold spec_l3Context.f
  exact LeO.bind (spec_l1Num.mono a0 k) (fun _ => LeO.refl _)
def spec_l3Context.T1 : Bool × List (List Nat × List Nat) := (true, [([], []), ([0], [0]), ([1], [1]), ([2], [2]), ([3], [3]), ([2], []), ([], []), ([6], [6]), ([5, 7], [5, 7]), ([8], [8]), ([4, 9], [4, 9]), ([10, 5, 0, 1, 2, 3, 4, 5, 6, 7, 8, 9, 10], [10])])
def spec_l3Context.B1 : List Nat := [0, 1, 3, 7, 15, 7, 0, 64, 231, 487, 1023, 2047]
theorem spec_l3Context.tab1 : rtab .any (opsOf Tryd.f84 1) = spec_l3Context.T1 := by kernel_rfl
theorem spec_l3Context.bits1 : waitsOk spec_l3Context.T1.2 spec_l3Context.B1 = true := by kernel_rfl
set_option maxHeartbeats 2000000 in
set_option maxRecDepth 100000 in
theorem spec_l3Context.calls (k : Nat) (m0 : Int) (m1 : Int) (r : ByteArray) (w : World) (h : spec_l3Context.f k m0 m1 = some r) :
    Calls Tryd.prog 84 #[.agg #[.int .i64 m0, .int .i64 m1]] w fun e w' => e = .returned (.string r) ∧ Below w.heap.size w w' := by
  unfold spec_l3Context.f at h
  obtain ⟨t, ht, h⟩ := Option.bind_eq_some_iff.mp h
  by_cases hc : 0 ≤ m1 ∧ m1 < 5 ∧ t.size ≤ 1048576 ∧ (rdOf ByteArray.empty kwS m1).size ≤ 1048576
  · rw [if_pos hc] at h
    obtain rfl := Option.some.inj h
    clear h
    obtain ⟨hk0, hk1, hsz, hwz⟩ := hc
    have HI := Aside0.mk (fun (W : World) => spec_l1Num.calls k m0 t W ht)
    have HK := Aside0.mk (show spec_l3Words.f = some kwS from rfl)
    have hkz : (m1 < (kwS.length : Int)) := by show m1 < 5; exact hk1
    have HAT := Aside0.mk (fun (W : World) (A : Option Addr) (hC : Kd.C Kd.string W A kwS.length kwS) => Kd.at_string hC m1 hk0 hkz)
    generalize rdOf ByteArray.empty kwS m1 = u at HAT hwz ⊢
    clear ht
    have z1 : (⟨#[99, 111, 110, 116, 101, 120, 116, 32]⟩ : ByteArray).size = 8 := rfl
    have z2 : ((⟨#[99, 111, 110, 116, 101, 120, 116, 32]⟩ : ByteArray) ++ t).size = 8 + t.size := by rw [ByteArray.size_append, z1]
    have f1 : (9223372036854775807 < 8 + t.size) = False := eq_false (by omega)
    have f2 : (9223372036854775807 < 8 + t.size + 1) = False := eq_false (by omega)
    have f3 : (9223372036854775807 < 8 + t.size + 1 + u.size) = False := eq_false (by omega)
    have p0 := eq_true hk0
    have p1 : (m1 < (kwS.length : Int)) = True := eq_true hkz
    have p2 : (m1.toNat < kwS.length) = True := eq_true (by omega)
    have p3 : decide (0 ≤ m1) = true := decide_eq_true hk0
    have p4 : decide (m1 < (kwS.length : Int)) = true := decide_eq_true hkz
    clear hk1 hsz hwz z1 z2 hkz hk0
    have BX := heap_alloc_new w (.cells #[.int .i64 m0, .int .i64 m1] 94 (0, 0))
    have HS1 := Aside0.mk (show (fun w' : World => w'.cell? ⟨w.heap.size, 0, none⟩ = some (.int .i64 m0) ∧ w'.cell? ⟨w.heap.size, 1, none⟩ = some (.int .i64 m1) ∧ Aside0 (Below w.heap.size w w')) (w.alloc (.cells #[.int .i64 m0, .int .i64 m1] 94 (0, 0))).drew from ⟨(blk_cell BX 0).trans rfl, (blk_cell BX 1).trans rfl, ⟨below_drew1 (below_alloc (Below.refl w.heap.size w) _)⟩⟩)
    clear BX
    go_enter Tryd.func84, Tryd.ntmps84
    go_upto_region 1 with (fail)
    generalize w.alloc (.cells #[.int .i64 m0, .int .i64 m1] 94 (0, 0)) = wq2 at HS1 ⊢
    all_goals refine start_ (n := 12) (S := (fun w' => w'.cell? ⟨w.heap.size, 0, none⟩ = some (.int .i64 m0) ∧ w'.cell? ⟨w.heap.size, 1, none⟩ = some (.int .i64 m1) ∧ Aside0 (Below w.heap.size w w'))) (ds := []) (bl 0 12) (by kernel_rfl) rfl rfl HS1.out (fun hHeld => ?_); refine with_tabW spec_l3Context.tab1 spec_l3Context.bits1 (fun HT_ HW_ => ?_)
    all_goals generalize wq2.drew = wv at hHeld ⊢
    all_goals first | refine pA_ 0 (some 3) (bl 1 12) HT_.out (h := ?_) | refine pO_ 0 (some 3) (bl 1 12) HT_.out (h := ?_)
    all_goals first | refine pA_ 6 (some 9) (bx 1 [6] 12) HT_.out (h := ?_) | refine pO_ 6 (some 9) (bx 1 [6] 12) HT_.out (h := ?_)
    all_goals first | refine tA_ 1 (some 4) (bx 2 [6] 12) HT_.out HW_.out hHeld (h := ?_) | refine pO_ 1 (some 4) (bx 2 [6] 12) HT_.out (h := ?_)
    all_goals first | refine tA_ 7 (some 10) (bx 2 [6, 7] 12) HT_.out HW_.out hHeld (h := ?_) | refine pO_ 7 (some 10) (bx 2 [6, 7] 12) HT_.out (h := ?_)
    all_goals first | refine pO_ 2 (some 5) (bx 3 [6, 7] 12) HT_.out (h := ?_) | (refine one_ (i := 2) (N := some 5) (bx 3 [6, 7] 12) rfl rfl (one_of HT_.out (by kernel_rfl)) (by decide) (fun K hK => ?_); refine goes_ Tryd.func52 (by kernel_rfl) rfl #[.int .i64 m0] (by rfl) rfl rfl (by (try simp only [List.map_toArray, List.map_cons, List.map_nil]); first | done | rfl) ?_; with_reducible refine (HI.out _).mono ?_; rintro e w3 ⟨rfl, hb⟩; refine ⟨_, rfl, ?_⟩; refine hK.out _ _ ⟨pw_cell_below hb hHeld.1, pw_cell_below hb hHeld.2.1, ⟨below_chain hHeld.2.2.out hb⟩⟩ (fun hHeld => ?_); clear hK K; refine norm_ (a' := ?_) ?_ ?_; rotate_left; (show Act.put _ (some 5) _ = _; simp only [Act.put, List.setIfInBounds_toArray, List.set_cons_zero, List.set_cons_succ, i64_w, i32_w]; rfl))
    all_goals first | refine pA_ 3 (some 6) (bx 4 [6, 7] 12) HT_.out (h := ?_) | refine pO_ 3 (some 6) (bx 4 [6, 7] 12) HT_.out (h := ?_)
    all_goals first | refine pA_ 4 (some 7) (bx 5 [6, 7] 12) HT_.out (h := ?_) | refine pO_ 4 (some 7) (bx 5 [6, 7] 12) HT_.out (h := ?_)
    all_goals first | refine pO_ 5 (some 8) (bl 8 12) HT_.out (h := ?_) | (refine one_ (i := 5) (N := some 8) (bl 8 12) rfl rfl (one_of HT_.out (by kernel_rfl)) (by decide) (fun K hK => ?_); refine goes_ Tryd.func120 (by kernel_rfl) rfl #[] (by rfl) rfl rfl (by (try simp only [List.map_toArray, List.map_cons, List.map_nil]); first | done | rfl) ?_; with_reducible refine (spec_l3Words.calls kwS _ HK.out).mono ?_; rintro e w4 ⟨v4, rfl, hR, hb⟩; obtain ⟨D, d, rfl, hd, hC⟩ := Kd.R_reads hR; obtain ⟨ad, ea, hxd⟩ := HAT.out _ _ hC; subst ea; clear hR hC hd; refine ⟨_, rfl, ?_⟩; refine hK.out _ _ ⟨pw_cell_below hb hHeld.1, pw_cell_below hb hHeld.2.1, ⟨below_chain hHeld.2.2.out hb⟩⟩ (fun hHeld => ?_); clear hK K; refine norm_ (a' := ?_) ?_ ?_; rotate_left; (show Act.put _ (some 8) _ = _; simp only [Act.put, List.setIfInBounds_toArray, List.set_cons_zero, List.set_cons_succ, i64_w, i32_w]; rfl))
    all_goals (have hHeld2 := (show (fun w' => w'.cell? ⟨w.heap.size, 0, none⟩ = some (.int .i64 m0) ∧ w'.cell? ⟨w.heap.size, 1, none⟩ = some (.int .i64 m1) ∧ Aside0 (Below w.heap.size w w') ∧ w'.cell? (ad.add m1.toNat) = some (.string u)) w4 from ⟨hHeld.1, hHeld.2.1, hHeld.2.2, hxd⟩); refine change_ (S2 := fun w' => w'.cell? ⟨w.heap.size, 0, none⟩ = some (.int .i64 m0) ∧ w'.cell? ⟨w.heap.size, 1, none⟩ = some (.int .i64 m1) ∧ Aside0 (Below w.heap.size w w') ∧ w'.cell? (ad.add m1.toNat) = some (.string u)) (fun _ h => ⟨h.1, h.2.1, h.2.2.1⟩) hHeld2 ?_; clear hHeld; have hHeld := hHeld2; clear hHeld2)
    all_goals first | refine pA_ 8 (some 11) (bl 9 12) HT_.out (h := ?_) | refine pO_ 8 (some 11) (bl 9 12) HT_.out (h := ?_)
    all_goals first | refine tA_ 9 (some 12) (bl 10 12) HT_.out HW_.out hHeld (h := ?_) | refine pO_ 9 (some 12) (bl 10 12) HT_.out (h := ?_)
    all_goals first | refine pA_ 10 (some 13) (bl 11 12) HT_.out (h := ?_) | refine pO_ 10 (some 13) (bl 11 12) HT_.out (h := ?_)
    all_goals first | refine pA_ 11 (some 2) (bl 12 12) HT_.out (h := ?_) | refine pO_ 11 (some 2) (bl 12 12) HT_.out (h := ?_)
    all_goals refine done_ (done_of HT_.out (by kernel_rfl)) ?_
    go_wp2
    go_ret
    exact ⟨rfl, hHeld.2.2.1.out⟩
  · rw [if_neg hc] at h
    cases h

end Go.Proofs.YtdmbboijcaelcaaDoor.Q

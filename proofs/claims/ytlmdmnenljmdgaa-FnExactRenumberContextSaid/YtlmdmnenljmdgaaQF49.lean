-- Written by a program of this session (wip/xprint.py over the kit's printer).
import Derived.Test.YtlmdmnenljmdgaaQ0
import Derived.Test.YtlmdmnenljmdgaaQF39
import Derived.Test.YtlmdmnenljmdgaaQF51
import Derived.Test.YtlmdmnenljmdgaaQF69
import Derived.Test.YtlmdmnenljmdgaaQF73
import Derived.Test.YtlmdmnenljmdgaaQF77
import Derived.Test.YtlmdmnenljmdgaaQF78
import Derived.Test.YtlmdmnenljmdgaaQP
import Derived.Test.YtlmdmnenljmdgaaQV0
import Derived.Shelf.SlSortCmp.NoneTotal
namespace Go.Proofs.Ytlmdmnenljmdgaa.Q
open Go.RowKit Go.Proofs.YtlmdmnenljmdgaaW.PrintWords Go.Proofs.YtlmdmnenljmdgaaW.PrintLast
set_option linter.unusedVariables false
set_option linter.unusedSimpArgs false

/-! ### impl_tidyRecord: function 49 -/
/-- Worlds that have only grown. -/
def GrowsTo (w w' : World) : Prop := ∃ q os, w' = Go.Sort.grow (w.drewN q) os
theorem gt_refl (w : World) : GrowsTo w w := ⟨0, #[], by simp [World.drewN, Go.Sort.grow]⟩
theorem gt_alloc {w w' : World} (h : GrowsTo w w') (o : Obj) : GrowsTo w (w'.alloc o) := by
  obtain ⟨q, os, rfl⟩ := h
  exact ⟨q, os ++ #[o], by rw [Go.Sort.alloc_eq_grow, Go.Sort.grow_grow]⟩
theorem gt_drewN {w w' : World} (h : GrowsTo w w') (n : Nat) : GrowsTo w (w'.drewN n) := by
  obtain ⟨q, os, rfl⟩ := h
  exact ⟨q + n, os, by simp [World.drewN, Go.Sort.grow, Nat.add_assoc]⟩
theorem gt_drew {w w' : World} (h : GrowsTo w w') : GrowsTo w w'.drew := gt_drewN h 1
theorem drewN2 (w : World) (n m : Nat) : (w.drewN n).drewN m = w.drewN (n + m) := by simp [World.drewN, Nat.add_assoc]
def cmpI (x y : Int) : Int := if x < y then -1 else if x > y then 1 else 0
def cfC (x y : S44) : Int := cmpI x.f0 y.f0
def cfR (x y : S36) : Int := if cmpI x.f0 y.f0 = 0 then cmpI x.f1 y.f1 else cmpI x.f0 y.f0
theorem cmpI_lt (x y : Int) : cmpI x y < 0 ↔ x < y := by unfold cmpI; split <;> (try split) <;> omega
theorem cmpI_eq (x y : Int) : cmpI x y = 0 ↔ x = y := by unfold cmpI; split <;> (try split) <;> omega
theorem ltC (x y : S44) : Go.Proofs.ltOf cfC x y = decide (x.f0 < y.f0) := by
  unfold Go.Proofs.ltOf cfC
  exact decide_eq_decide.2 (cmpI_lt _ _)
theorem ltR (x y : S36) : Go.Proofs.ltOf cfR x y = before x y := by
  unfold Go.Proofs.ltOf cfR before
  have h1 := cmpI_lt x.f0 y.f0
  have h2 := cmpI_eq x.f0 y.f0
  have h3 := cmpI_lt x.f1 y.f1
  by_cases e : cmpI x.f0 y.f0 = 0
  · have e2 := h2.1 e
    rw [if_pos e]
    simp [e2, h3]
  · rw [if_neg e]
    have e2 : ¬ x.f0 = y.f0 := fun h => e (h2.2 h)
    simp [h1, e2]
theorem swoC : Go.Sort.SWO (Go.Proofs.ltOf cfC) where
  irrefl x := by rw [ltC]; simp
  trans x y z h1 h2 := by rw [ltC] at *; simp at *; omega
  ntrans x y z h1 h2 := by rw [ltC] at *; simp at *; omega
theorem swoR : Go.Sort.SWO (Go.Proofs.ltOf cfR) where
  irrefl x := by rw [ltR]; simp [before]
  trans x y z h1 h2 := by rw [ltR] at *; simp [before] at *; omega
  ntrans x y z h1 h2 := by rw [ltR] at *; simp [before] at *; omega
theorem cmp_f (x y : Int) : cmp_Compare_int.f x y = some (cmpI x y) := by
  unfold cmp_Compare_int.f cmp_isNaN_int.f cmpI
  simp
  split
  · rfl
  · split <;> rfl
theorem or_f (x y : Int) : cmp_Or_int.f 3 [x, y] = some (if x = 0 then y else x) := by
  unfold cmp_Or_int.f
  by_cases h : x = 0
  · by_cases h2 : y = 0
    · subst h; subst h2; simp [cmp_Or_int.l0, rd, wrap64]
    · subst h
      simp [cmp_Or_int.l0, rd, h2, wrap64]
  · simp [cmp_Or_int.l0, rd, h, wrap64]
set_option maxHeartbeats 8000000 in
set_option maxRecDepth 100000 in
theorem impl_tidyRecord.cmpC (x y : S44) (W : World) : Calls Try.prog 74 #[.agg #[.int .i64 x.f0, .int .i64 x.f1], .agg #[.int .i64 y.f0, .int .i64 y.f1]] W fun e w' => e = .returned (.int .i64 (cfC x y)) ∧ GrowsTo W w' := by
  have hcon := fun W' => cmp_Compare_int.calls x.f0 y.f0 (cmpI x.f0 y.f0) W' (cmp_f _ _)
  unfold cfC
  generalize cmpI x.f0 y.f0 = r at hcon ⊢
  have HC := Aside0.mk hcon
  clear hcon
  go_enter Try.func74, Try.ntmps74
  go_wp2_with (go_at_call 75; refine (HC.out _).mono ?_; rintro e w' ⟨rfl, ⟨nd, rfl⟩⟩)
  go_ret
  exact ⟨rfl, by repeat (first | exact gt_refl _ | apply gt_alloc | apply gt_drewN | apply gt_drew)⟩
theorem lit2C (W : World) (a b : Int) (t : TypeId) : Kd.C (Kd.int .i64) (W.alloc (.cells #[.int .i64 a, .int .i64 b] t (0, 0))) (some ⟨W.heap.size, 0, none⟩) 2 [a, b] := by
  have hbk := blk_new W (.cells #[.int .i64 a, .int .i64 b] t (0, 0))
  refine ⟨rfl, by simp, fun _ => ⟨⟨W.heap.size, 0, none⟩, rfl, fun j p hj => ?_⟩⟩
  match j, hj with
  | 0, hj =>
    obtain rfl : a = p := by simpa using hj
    refine ⟨[.int .i64 a], rfl, rfl, fun k u hu => ?_⟩
    obtain ⟨hk, rfl⟩ := List.getElem?_eq_some_iff.1 hu
    obtain rfl : k = 0 := by simpa using hk
    exact (blk_cell hbk 0).trans rfl
  | 1, hj =>
    obtain rfl : b = p := by simpa using hj
    refine ⟨[.int .i64 b], rfl, rfl, fun k u hu => ?_⟩
    obtain ⟨hk, rfl⟩ := List.getElem?_eq_some_iff.1 hu
    obtain rfl : k = 0 := by simpa using hk
    exact (blk_cell hbk 1).trans rfl
  | j + 2, hj => simp at hj
theorem lit2D (W : World) (n : Nat) (a b : Int) (t : TypeId) : Kd.C (Kd.int .i64) ((W.drewN n).alloc (.cells #[.int .i64 a, .int .i64 b] t (0, 0))) (some ⟨W.heap.size, 0, none⟩) 2 [a, b] := lit2C (W.drewN n) a b t
def impl_tidyRecord.T1 : Bool × List (List Nat × List Nat) := (true, [([], []), ([0], [0]), ([], []), ([2], [2]), ([1, 3], [1, 3]), ([], []), ([5], [5]), ([], []), ([7], [7]), ([6, 8, 4], [6, 8]), ([4, 9], [4, 9]), ([10, 9], [10]), ([11, 11, 0, 1, 2, 3, 4, 5, 6, 7, 8, 9, 10, 11], [11])])
def impl_tidyRecord.B1 : List Nat := [0, 1, 0, 4, 15, 0, 32, 0, 128, 511, 1023, 2047, 4095]
theorem impl_tidyRecord.tab1 : rtab .any (opsOf Try.f65 1) = impl_tidyRecord.T1 := by kernel_rfl
theorem impl_tidyRecord.bits1 : waitsOk impl_tidyRecord.T1.2 impl_tidyRecord.B1 = true := by kernel_rfl
set_option maxHeartbeats 8000000 in
set_option maxRecDepth 100000 in
theorem impl_tidyRecord.cmpR (x y : S36) (W : World) : Calls Try.prog 65 #[.agg #[.int .i64 x.f0, .int .i64 x.f1], .agg #[.int .i64 y.f0, .int .i64 y.f1]] W fun e w' => e = .returned (.int .i64 (cfR x y)) ∧ GrowsTo W w' := by
  have h1 := fun W' => cmp_Compare_int.calls x.f0 y.f0 (cmpI x.f0 y.f0) W' (cmp_f _ _)
  have h2 := fun W' => cmp_Compare_int.calls x.f1 y.f1 (cmpI x.f1 y.f1) W' (cmp_f _ _)
  have h3 := fun A c W' (hc : Kd.C (Kd.int .i64) W' A 2 [cmpI x.f0 y.f0, cmpI x.f1 y.f1]) (hl : 2 ≤ c) => (show Calls Try.prog 83 #[.slice A 2 c] W' (fun e w' => e = .returned (.int .i64 (if cmpI x.f0 y.f0 = 0 then cmpI x.f1 y.f1 else cmpI x.f0 y.f0)) ∧ Drawn0 W' w') from cmp_Or_int.calls 3 A c [cmpI x.f0 y.f0, cmpI x.f1 y.f1] _ W' hc hl (or_f _ _))
  unfold cfR
  generalize cmpI x.f0 y.f0 = a at h1 h3 ⊢
  generalize cmpI x.f1 y.f1 = b at h2 h3 ⊢
  generalize (if a = 0 then b else a) = r at h3 ⊢
  have H1 := Aside0.mk h1
  have H2 := Aside0.mk h2
  have H3 := Aside0.mk h3
  clear h1 h2 h3
  obtain ⟨wb, hwb⟩ : ∃ wb, (W.alloc (.cells #[.int .i64 x.f0, .int .i64 x.f1] 36 (0, 0))).alloc (.cells #[.int .i64 y.f0, .int .i64 y.f1] 36 (0, 0)) = wb := ⟨_, rfl⟩
  have GT := Aside0.mk (show GrowsTo W wb from by rw [← hwb]; exact gt_alloc (gt_alloc (gt_refl _) _) _)
  have hh0 : wb.heap[W.heap.size]? = some (.cells #[.int .i64 x.f0, .int .i64 x.f1] 36 (0, 0)) := by rw [← hwb]; exact blk_alloc (blk_new W (.cells #[.int .i64 x.f0, .int .i64 x.f1] 36 (0, 0))) _
  have hh1 : wb.heap[W.heap.size + 1]? = some (.cells #[.int .i64 y.f0, .int .i64 y.f1] 36 (0, 0)) := by
    rw [← hwb]
    have h := blk_new (W.alloc (.cells #[.int .i64 x.f0, .int .i64 x.f1] 36 (0, 0))) (.cells #[.int .i64 y.f0, .int .i64 y.f1] 36 (0, 0))
    rw [show (W.alloc (.cells #[.int .i64 x.f0, .int .i64 x.f1] 36 (0, 0))).heap.size = W.heap.size + 1 from by simp] at h
    exact h
  have c0 : wb.cell? ⟨W.heap.size, 0, none⟩ = some (.int .i64 x.f0) := (blk_cell hh0 0).trans rfl
  have c1 : wb.cell? ⟨W.heap.size, 1, none⟩ = some (.int .i64 x.f1) := (blk_cell hh0 1).trans rfl
  have d0 : wb.cell? ⟨W.heap.size + 1, 0, none⟩ = some (.int .i64 y.f0) := (blk_cell hh1 0).trans rfl
  have d1 : wb.cell? ⟨W.heap.size + 1, 1, none⟩ = some (.int .i64 y.f1) := (blk_cell hh1 1).trans rfl
  have HW := Aside0.mk hwb
  clear hwb hh0 hh1
  go_enter Try.func65, Try.ntmps65
  go_upto_region 1 with (fail)
  try rw [HW.out]
  clear HW
  have HS0 := Aside0.mk (show (fun w' : World => w'.cell? ⟨W.heap.size, 0, none⟩ = some (.int .i64 x.f0) ∧ w'.cell? ⟨W.heap.size, 1, none⟩ = some (.int .i64 x.f1) ∧ w'.cell? ⟨W.heap.size + 1, 0, none⟩ = some (.int .i64 y.f0) ∧ w'.cell? ⟨W.heap.size + 1, 1, none⟩ = some (.int .i64 y.f1) ∧ Aside0 (GrowsTo W w')) wb.drew from ⟨c0, c1, d0, d1, ⟨gt_drew GT.out⟩⟩)
  clear c0 c1 d0 d1 GT
  all_goals refine start_ (n := 13) (S := (fun w' => w'.cell? ⟨W.heap.size, 0, none⟩ = some (.int .i64 x.f0) ∧ w'.cell? ⟨W.heap.size, 1, none⟩ = some (.int .i64 x.f1) ∧ w'.cell? ⟨W.heap.size + 1, 0, none⟩ = some (.int .i64 y.f0) ∧ w'.cell? ⟨W.heap.size + 1, 1, none⟩ = some (.int .i64 y.f1) ∧ Aside0 (GrowsTo W w'))) (ds := []) (bl 0 13) (by kernel_rfl) rfl rfl HS0.out (fun hHeld => ?_); refine with_tabW impl_tidyRecord.tab1 impl_tidyRecord.bits1 (fun HT_ HW_ => ?_)
  all_goals generalize wb.drew = wv at hHeld ⊢
  all_goals first | refine pA_ 0 (some 5) (bl 1 13) HT_.out (h := ?_) | refine pO_ 0 (some 5) (bl 1 13) HT_.out (h := ?_)
  all_goals first | refine pA_ 2 (some 7) (bx 1 [2] 13) HT_.out (h := ?_) | refine pO_ 2 (some 7) (bx 1 [2] 13) HT_.out (h := ?_)
  all_goals first | refine pA_ 5 (some 10) (bx 1 [2, 5] 13) HT_.out (h := ?_) | refine pO_ 5 (some 10) (bx 1 [2, 5] 13) HT_.out (h := ?_)
  all_goals first | refine pA_ 7 (some 12) (bx 1 [2, 5, 7] 13) HT_.out (h := ?_) | refine pO_ 7 (some 12) (bx 1 [2, 5, 7] 13) HT_.out (h := ?_)
  all_goals first | refine tA_ 1 (some 6) (bx 3 [5, 7] 13) HT_.out HW_.out hHeld (h := ?_) | refine pO_ 1 (some 6) (bx 3 [5, 7] 13) HT_.out (h := ?_)
  all_goals first | refine tA_ 3 (some 8) (bx 4 [5, 7] 13) HT_.out HW_.out hHeld (h := ?_) | refine pO_ 3 (some 8) (bx 4 [5, 7] 13) HT_.out (h := ?_)
  all_goals first | refine tA_ 6 (some 11) (bx 4 [5, 6, 7] 13) HT_.out HW_.out hHeld (h := ?_) | refine pO_ 6 (some 11) (bx 4 [5, 6, 7] 13) HT_.out (h := ?_)
  all_goals first | refine tA_ 8 (some 13) (bx 4 [5, 6, 7, 8] 13) HT_.out HW_.out hHeld (h := ?_) | refine pO_ 8 (some 13) (bx 4 [5, 6, 7, 8] 13) HT_.out (h := ?_)
  all_goals first | refine pO_ 4 (some 9) (bl 9 13) HT_.out (h := ?_) | (refine one_ (i := 4) (N := some 9) (bl 9 13) rfl rfl (one_of HT_.out (by kernel_rfl)) (by decide) (fun K hK => ?_); refine goes_ Try.func75 (by kernel_rfl) rfl #[.int .i64 x.f0, .int .i64 y.f0] (by rfl) rfl rfl (by (try simp only [List.map_toArray, List.map_cons, List.map_nil]); first | done | rfl) ?_; with_reducible refine (H1.out _).mono ?_; rintro e w' ⟨rfl, hd⟩; have hb := Drawn0.below hd; obtain ⟨nd, rfl⟩ := hd.out; refine ⟨_, rfl, ?_⟩; refine hK.out _ _ ⟨pw_cell_below hb hHeld.1, pw_cell_below hb hHeld.2.1, pw_cell_below hb hHeld.2.2.1, pw_cell_below hb hHeld.2.2.2.1, ⟨gt_drewN hHeld.2.2.2.2.out _⟩⟩ (fun hHeld => ?_); clear hK K; refine norm_ (a' := ?_) ?_ ?_; rotate_left; (show Act.put _ (some 9) _ = _; simp only [Act.put, List.setIfInBounds_toArray, List.set_cons_zero, List.set_cons_succ, i64_w, i32_w]; rfl))
  all_goals first | refine pO_ 9 (some 14) (bl 10 13) HT_.out (h := ?_) | (refine one_ (i := 9) (N := some 14) (bl 10 13) rfl rfl (one_of HT_.out (by kernel_rfl)) (by decide) (fun K hK => ?_); refine goes_ Try.func75 (by kernel_rfl) rfl #[.int .i64 x.f1, .int .i64 y.f1] (by rfl) rfl rfl (by (try simp only [List.map_toArray, List.map_cons, List.map_nil]); first | done | rfl) ?_; with_reducible refine (H2.out _).mono ?_; rintro e w' ⟨rfl, hd⟩; have hb := Drawn0.below hd; obtain ⟨nd, rfl⟩ := hd.out; refine ⟨_, rfl, ?_⟩; refine hK.out _ _ ⟨pw_cell_below hb hHeld.1, pw_cell_below hb hHeld.2.1, pw_cell_below hb hHeld.2.2.1, pw_cell_below hb hHeld.2.2.2.1, ⟨gt_drewN hHeld.2.2.2.2.out _⟩⟩ (fun hHeld => ?_); clear hK K; refine norm_ (a' := ?_) ?_ ?_; rotate_left; (show Act.put _ (some 14) _ = _; simp only [Act.put, List.setIfInBounds_toArray, List.set_cons_zero, List.set_cons_succ, i64_w, i32_w]; rfl))
  all_goals (refine one_ (i := 10) (N := some 15) (bl 11 13) rfl rfl (one_of HT_.out (by kernel_rfl)) (by decide) (fun K hK => ?_); refine value_ (by rfl) rfl (by go_simp; constructor; rfl; rfl) ?_; skip; refine hK.out _ _ ⟨pw_cell_below (below_alloc (Below.refl _ _) _) hHeld.1, pw_cell_below (below_alloc (Below.refl _ _) _) hHeld.2.1, pw_cell_below (below_alloc (Below.refl _ _) _) hHeld.2.2.1, pw_cell_below (below_alloc (Below.refl _ _) _) hHeld.2.2.2.1, ⟨by rw [← drewN2]; exact gt_alloc hHeld.2.2.2.2.out _⟩⟩ (fun hHeld => ?_); clear hK K; refine norm_ (a' := ?_) ?_ ?_; rotate_left; focus (show Act.put _ (some 15) _ = _; simp only [Act.put, List.setIfInBounds_toArray, List.set_cons_zero, List.set_cons_succ, i64_w, i32_w]; rfl))
  all_goals first | refine pO_ 11 (some 16) (bl 12 13) HT_.out (h := ?_) | (refine one_ (i := 11) (N := some 16) (bl 12 13) rfl rfl (one_of HT_.out (by kernel_rfl)) (by decide) (fun K hK => ?_); refine goes_ Try.func83 (by kernel_rfl) rfl #[.slice (some ⟨_, 0, none⟩) 2 2] (by rfl) rfl rfl (by (try simp only [List.map_toArray, List.map_cons, List.map_nil]); first | done | rfl) ?_; with_reducible refine (H3.out _ _ _ (by exact lit2D _ _ a b _) (Nat.le_refl _)).mono ?_; rintro e w' ⟨rfl, hd⟩; have hb := Drawn0.below hd; obtain ⟨nd, rfl⟩ := hd.out; refine ⟨_, rfl, ?_⟩; refine hK.out _ _ ⟨pw_cell_below hb hHeld.1, pw_cell_below hb hHeld.2.1, pw_cell_below hb hHeld.2.2.1, pw_cell_below hb hHeld.2.2.2.1, ⟨gt_drewN hHeld.2.2.2.2.out _⟩⟩ (fun hHeld => ?_); clear hK K; refine norm_ (a' := ?_) ?_ ?_; rotate_left; (show Act.put _ (some 16) _ = _; simp only [Act.put, List.setIfInBounds_toArray, List.set_cons_zero, List.set_cons_succ, i64_w, i32_w]; rfl))
  all_goals first | refine pA_ 12 (some 4) (bl 13 13) HT_.out (h := ?_) | refine pO_ 12 (some 4) (bl 13 13) HT_.out (h := ?_)
  all_goals refine done_ (done_of HT_.out (by kernel_rfl)) ?_
  go_wp2
  go_ret
  exact ⟨rfl, hHeld.2.2.2.2.out⟩
set_option maxHeartbeats 8000000 in
set_option maxRecDepth 100000 in
theorem impl_tidyRecord.predt (v : Value) (w : World) : PredV Try.prog 76 #[] enc36 (fun x => x.f0 == x.f1) v w := by
  intro W x hB
  unfold enc36
  clear hB
  cases h : (x.f0 == x.f1)
  all_goals have h3 := Aside0.mk h
  all_goals go_enter Try.func76, Try.ntmps76
  all_goals go_wp2
  all_goals go_ret
  all_goals exact ⟨by simp [h3.out], by repeat (first | exact Below.refl _ _ | apply below_alloc | apply pw_below_drewN | apply below_drew1)⟩
theorem kept_grown {w W W' : World} {S : Nat → Prop} (h : Kept w W S) {row : Option Nat} (k : W.grownBy W' row) (hr : ∀ q, row = some q → S q) : Kept w W' S :=
  ⟨Nat.le_trans h.1 k.size, fun i hi hn => (k.block i (Nat.lt_of_lt_of_le hi h.1) (fun e => hn (hr i e.symm))).trans (h.2 i hi hn)⟩
theorem kept_setg {w W : World} {S : Nat → Prop} (h : Kept w W S) {g : Nat} (hg : w.heap.size ≤ g) (j : Nat) (u : Value) : Kept w (W.setCell ⟨g, j, none⟩ u) S :=
  ⟨by have := h.1; simpa [World.setCell] using this, fun i hi hn => (Below.heap_setCell W ⟨g, j, none⟩ u i (by show i ≠ g; omega)).trans (h.2 i hi hn)⟩
set_option maxHeartbeats 8000000 in
set_option maxRecDepth 100000 in
theorem impl_tidyRecord.calls (w0 : World) (v0 v1 : Value) (cs : List S44) (rs : List S36) (w : World) (hB : Below w0.heap.size w0 w) (h0 : Kd.R k44 44 w w0.heap.size (fun _ => True) v0 cs) (h1 : Kd.R k36 36 w w0.heap.size (fun _ => True) v1 rs) (hc9 : cs.length ≤ 1000) (hr9 : rs.length ≤ 1000) :
    Calls Try.prog 49 #[.agg #[v0, v1]] w fun e w' => ∃ (v2 : Value) (cs' : List S44) (ys : List S36), e = .returned (.agg #[v0, v2]) ∧ Kd.R k44 44 w' w0.heap.size (fun _ => True) v0 cs' ∧ Kd.R k36 36 w' w0.heap.size (fun k => some k = v1.ownBlock) v2 (cptTo ys ys.length) ∧ cs'.Perm cs ∧ cs'.Pairwise (fun a b => Go.Proofs.ltOf cfC b a = false) ∧ ys.Perm (rs.filter fun x => !(x.f0 == x.f1)) ∧ ys.Pairwise (fun a b => Go.Proofs.ltOf cfR b a = false) ∧ Below w0.heap.size w0 w' ∧ Kept w w' (fun k => some k = v0.ownBlock ∨ some k = v1.ownBlock) := by
  obtain ⟨D0, d0, rfl, hd0, _⟩ := Kd.R_reads h0
  obtain ⟨D1, d1, rfl, hd1, _⟩ := Kd.R_reads h1
  obtain ⟨n0, hn0⟩ : ∃ n, cs.length = n := ⟨_, rfl⟩
  obtain ⟨n1, hn1⟩ : ∃ n, rs.length = n := ⟨_, rfl⟩
  rw [hn0] at h0 hd0 ⊢
  rw [hn1] at h1 hd1 ⊢
  have HSZ := Aside0.mk hB.size
  obtain ⟨wb, hwb⟩ : ∃ wb, (w.alloc (.cells #[.slice D0 n0 d0, .slice D1 n1 d1] 32 (0, 0))).alloc (.cells #[.slice none 0 0, .slice none 0 0] 32 (0, 0)) = wb := ⟨_, rfl⟩
  have B0 := Aside0.mk (show wb.heap[w.heap.size]? = some (.cells #[.slice D0 n0 d0, .slice D1 n1 d1] 32 (0, 0)) from by rw [← hwb]; exact blk_alloc (blk_new w (.cells #[.slice D0 n0 d0, .slice D1 n1 d1] 32 (0, 0))) _)
  have B1 := Aside0.mk (show wb.heap[w.heap.size + 1]? = some (.cells #[.slice none 0 0, .slice none 0 0] 32 (0, 0)) from by
    rw [← hwb]
    have h := blk_new (w.alloc (.cells #[.slice D0 n0 d0, .slice D1 n1 d1] 32 (0, 0))) (.cells #[.slice none 0 0, .slice none 0 0] 32 (0, 0))
    rw [show (w.alloc (.cells #[.slice D0 n0 d0, .slice D1 n1 d1] 32 (0, 0))).heap.size = w.heap.size + 1 from by simp] at h
    exact h)
  have HBw := Aside0.mk (show Below w0.heap.size w0 wb from by rw [← hwb]; exact below_alloc (below_alloc hB _) _)
  have HC := Aside0.mk (show Kd.R k44 44 wb w0.heap.size (fun _ => True) (.slice D0 n0 d0) cs from by rw [← hwb]; exact Kd.R_alloc (Kd.R_alloc h0 _) _)
  obtain ⟨ok1, hok1⟩ : ∃ ok1 : Nat → Prop, ok1 = fun k => some k = (.slice D1 n1 d1 : Value).ownBlock := ⟨_, rfl⟩
  obtain ⟨S, hS⟩ : ∃ S : Nat → Prop, S = fun k => some k = (.slice D0 n0 d0 : Value).ownBlock ∨ some k = (.slice D1 n1 d1 : Value).ownBlock := ⟨_, rfl⟩
  have HS0 := Aside0.mk (show ∀ k, (.slice D0 n0 d0 : Value).ownBlock = some k → S k from fun k hk => by rw [hS]; exact .inl hk.symm)
  have HS1 := Aside0.mk (show ∀ k, ok1 k → S k from fun k hk => by rw [hok1] at hk; rw [hS]; exact .inr hk)
  have HR := Aside0.mk (show Kd.R k36 36 wb w0.heap.size ok1 (.slice D1 n1 d1) rs from by rw [← hwb, hok1]; exact Kd.R_tight rfl (Kd.R_alloc (Kd.R_alloc h1 _) _))
  have HK := Aside0.mk (show Kept w wb S from Kept.of_below (by rw [← hwb]; exact below_alloc (below_alloc (Below.refl _ _) _) _) S)
  have HE := Aside0.mk (And.intro hok1 hS)
  rw [← hok1, ← hS]
  have HW := Aside0.mk hwb
  have H9 := Aside0.mk (And.intro hc9 hr9)
  clear hwb hok1 hS hB h0 h1 hd0 hd1 hn0 hn1 hc9 hr9
  have eg1 := enters_of Try.func74 (by kernel_rfl) rfl
  have eg2 := enters_of Try.func76 (by kernel_rfl) rfl
  have eg3 := enters_of Try.func65 (by kernel_rfl) rfl
  go_enter Try.func49, Try.ntmps49
  go_upto_region 1 with (fail)
  try rw [HW.out]
  clear HW
  obtain ⟨gb, hgb⟩ : ∃ g, w.heap.size = g := ⟨_, rfl⟩
  have HGW := Aside0.mk hgb
  rw [hgb] at B0 B1 HSZ
  try rw [hgb]
  clear hgb
  have c0 : wb.cell? ⟨gb, 0, none⟩ = some (.slice D0 n0 d0) := (blk_cell B0.out 0).trans rfl
  go_upto_region 2 with (go_at_call 73; (refine (impl_Context_73.calls 74 eg1 cfC swoC impl_tidyRecord.cmpC (.slice D0 n0 d0) cs _ _ _ HC.out (by have := H9.out.1; omega)).mono ?_); rintro e w1 ⟨rfl, cs', hR2, hp2, hs2, hg2⟩; have HR := Aside0.mk (Kd.R_grown2 HR.out rfl hg2 (rows_ne HC.out HR.out (by decide))); have B0 := Aside0.mk (blk_grown B0.out hg2 (Kd.R_ne HC.out B0.out (by decide))); have B1 := Aside0.mk (blk_grown B1.out hg2 (Kd.R_ne HC.out B1.out (by decide))); have HK := Aside0.mk (kept_grown HK.out hg2 (fun k hk => HS0.out k hk)); have HBw := Aside0.mk (below_of_grown HBw.out hg2 (fun b hb => Kd.R_base HC.out b hb)); have HC := Aside0.mk hR2; have HP2 := Aside0.mk hp2; have HS2 := Aside0.mk hs2; clear c0 hR2 hp2 hs2 hg2)
  have c1 : w1.cell? ⟨gb, 1, none⟩ = some (.slice D1 n1 d1) := (blk_cell B0.out 1).trans rfl
  have f1 : w1.frozen? ⟨gb, 1, none⟩ = false := blk_frozen B0.out 1
  obtain ⟨fl, hfl⟩ : ∃ fl, rs.filter (fun x => !(x.f0 == x.f1)) = fl := ⟨_, rfl⟩
  have HFL := Aside0.mk hfl
  have HF9 := Aside0.mk (show fl.length ≤ 1000 from by rw [← hfl]; exact Nat.le_trans (List.length_filter_le _ _) H9.out.2)
  clear hfl
  go_upto_region 3 with (go_at_call 39; (refine (impl_Relation_39.calls 76 #[] eg2 _ (.slice D1 n1 d1) rs _ _ _ HR.out (impl_tidyRecord.predt _ _)).mono ?_); rintro e w3 ⟨v2, rfl, hR3, hg3⟩; rw [HFL.out] at hR3; obtain ⟨D2, d2, he2, _, _⟩ := Kd.R_reads hR3; obtain ⟨n2, hn2⟩ : ∃ n, n = fl.length := ⟨_, rfl⟩; obtain rfl : v2 = .slice D2 n2 d2 := he2.trans (by rw [hn2]); have HC := Aside0.mk (Kd.R_grown2 HC.out rfl hg3 (rows_ne HR.out HC.out (by decide))); have B0 := Aside0.mk (blk_grown B0.out hg3 (Kd.R_ne HR.out B0.out (by decide))); have B1 := Aside0.mk (blk_grown B1.out hg3 (Kd.R_ne HR.out B1.out (by decide))); have HK := Aside0.mk (kept_grown HK.out hg3 (fun k hk => HS1.out k (HR.out.1 k hk))); have HBw := Aside0.mk (below_of_grown HBw.out hg3 (fun b hb => Kd.R_base HR.out b hb)); have HR := Aside0.mk hR3; clear c1 f1; have c1 : w3.cell? ⟨gb, 1, none⟩ = some (.slice D1 n1 d1) := (blk_cell B0.out 1).trans rfl; have f1 : w3.frozen? ⟨gb, 1, none⟩ = false := blk_frozen B0.out 1; clear hR3 hg3 he2 hn2)
  have HC := Aside0.mk (Kd.R_set HC.out B0.out (by decide) 1 (.slice D2 n2 d2))
  have HR := Aside0.mk (Kd.R_set HR.out B0.out (by decide) 1 (.slice D2 n2 d2))
  have B1 := Aside0.mk (blk_far B1.out (p := ⟨gb, 1, none⟩) (by show gb + 1 ≠ gb; omega) (.slice D2 n2 d2))
  have B0 := Aside0.mk (blk_put B0.out 1 (.slice D2 n2 d2) rfl)
  have HBw := Aside0.mk (below_set HBw.out (g := gb) (j := 1) (v := .slice D2 n2 d2) (by have := HSZ.out; omega))
  have HK := Aside0.mk (kept_setg HK.out (show w.heap.size ≤ gb from by have := HGW.out; omega) 1 (.slice D2 n2 d2))
  clear c1 f1
  generalize w3.setCell ⟨gb, 1, none⟩ (.slice D2 n2 d2) = wq at HC HR B0 B1 HBw HK ⊢
  have c1 : wq.cell? ⟨gb, 1, none⟩ = some (.slice D2 n2 d2) := (blk_cell B0.out 1).trans rfl
  go_upto_region 4 with (go_at_call 77; (refine (impl_Relation_77.calls 65 eg3 cfR swoR impl_tidyRecord.cmpR (.slice D2 n2 d2) fl _ _ _ HR.out (by have := HF9.out; omega)).mono ?_); rintro e w4 ⟨rfl, ys, hR4, hp4, hs4, hg4⟩; have HC := Aside0.mk (Kd.R_grown2 HC.out rfl hg4 (rows_ne HR.out HC.out (by decide))); have B0 := Aside0.mk (blk_grown B0.out hg4 (Kd.R_ne HR.out B0.out (by decide))); have B1 := Aside0.mk (blk_grown B1.out hg4 (Kd.R_ne HR.out B1.out (by decide))); have HK := Aside0.mk (kept_grown HK.out hg4 (fun k hk => HS1.out k (HR.out.1 k hk))); have HBw := Aside0.mk (below_of_grown HBw.out hg4 (fun b hb => Kd.R_base HR.out b hb)); have HR := Aside0.mk hR4; have HP4 := Aside0.mk hp4; have HS4 := Aside0.mk hs4; clear c1 hR4 hp4 hs4 hg4)
  have c1 : w4.cell? ⟨gb, 1, none⟩ = some (.slice D2 n2 d2) := (blk_cell B0.out 1).trans rfl
  have f1 : w4.frozen? ⟨gb, 1, none⟩ = false := blk_frozen B0.out 1
  obtain ⟨cp, hcp⟩ : ∃ cp, cptTo ys ys.length = cp := ⟨_, rfl⟩
  have HCP := Aside0.mk hcp
  clear hcp
  go_upto_region 5 with (go_at_call 78; (refine (impl_Relation_78.calls (.slice D2 n2 d2) ys _ _ _ HR.out (by have h1 := HP4.out.length_eq; have h2 := HF9.out; omega)).mono ?_); rintro e w5 ⟨v3, rfl, hR5, hg5⟩; rw [HCP.out] at hR5; obtain ⟨D3, d3, he3, _, _⟩ := Kd.R_reads hR5; obtain ⟨n3, hn3⟩ : ∃ n, n = cp.length := ⟨_, rfl⟩; obtain rfl : v3 = .slice D3 n3 d3 := he3.trans (by rw [hn3]); have HC := Aside0.mk (Kd.R_grown2 HC.out rfl hg5 (rows_ne HR.out HC.out (by decide))); have B0 := Aside0.mk (blk_grown B0.out hg5 (Kd.R_ne HR.out B0.out (by decide))); have B1 := Aside0.mk (blk_grown B1.out hg5 (Kd.R_ne HR.out B1.out (by decide))); have HK := Aside0.mk (kept_grown HK.out hg5 (fun k hk => HS1.out k (HR.out.1 k hk))); have HBw := Aside0.mk (below_of_grown HBw.out hg5 (fun b hb => Kd.R_base HR.out b hb)); have HR := Aside0.mk hR5; clear c1 f1; have c1 : w5.cell? ⟨gb, 1, none⟩ = some (.slice D2 n2 d2) := (blk_cell B0.out 1).trans rfl; have f1 : w5.frozen? ⟨gb, 1, none⟩ = false := blk_frozen B0.out 1; clear hR5 hg5 he3 hn3)
  have HC := Aside0.mk (Kd.R_set HC.out B0.out (by decide) 1 (.slice D3 n3 d3))
  have HR := Aside0.mk (Kd.R_set HR.out B0.out (by decide) 1 (.slice D3 n3 d3))
  have B1 := Aside0.mk (blk_far B1.out (p := ⟨gb, 1, none⟩) (by show gb + 1 ≠ gb; omega) (.slice D3 n3 d3))
  have B0 := Aside0.mk (blk_put B0.out 1 (.slice D3 n3 d3) rfl)
  have HBw := Aside0.mk (below_set HBw.out (g := gb) (j := 1) (v := .slice D3 n3 d3) (by have := HSZ.out; omega))
  have HK := Aside0.mk (kept_setg HK.out (show w.heap.size ≤ gb from by have := HGW.out; omega) 1 (.slice D3 n3 d3))
  clear c1 f1
  generalize w5.setCell ⟨gb, 1, none⟩ (.slice D3 n3 d3) = wz at HC HR B0 B1 HBw HK ⊢
  have c0 : wz.cell? ⟨gb, 0, none⟩ = some (.slice D0 n0 d0) := (blk_cell B0.out 0).trans rfl
  have c1 : wz.cell? ⟨gb, 1, none⟩ = some (.slice D3 n3 d3) := (blk_cell B0.out 1).trans rfl
  have g0 : wz.cell? ⟨gb + 1, 0, none⟩ = some (.slice none 0 0) := (blk_cell B1.out 0).trans rfl
  have g1 : wz.cell? ⟨gb + 1, 1, none⟩ = some (.slice none 0 0) := (blk_cell B1.out 1).trans rfl
  have f0 := blk_frozen B1.out 0
  have f1 := blk_frozen B1.out 1
  go_wp2
  refine bodyPost_ret (results_cell_row rfl _ _ (gb + 1) 32 #[.slice D0 n0 d0, .slice D3 n3 d3] (0, 0) _ rfl (blk_put (blk_put B1.out 0 _ rfl) 1 _ rfl) Try.underlying32 rfl (by kernel_rfl)) rfl ?_
  exact ⟨_, cs', ys, rfl, Kd.R_set (Kd.R_set HC.out B1.out (by decide) 0 _) (blk_put B1.out 0 _ rfl) (by decide) 1 _, by rw [HCP.out]; exact Kd.R_set (Kd.R_set HR.out B1.out (by decide) 0 _) (blk_put B1.out 0 _ rfl) (by decide) 1 _, HP2.out, HS2.out, by rw [HFL.out]; exact HP4.out, HS4.out, below_set (below_set HBw.out (by have := HSZ.out; omega)) (by have := HSZ.out; omega), kept_setg (kept_setg HK.out (by have := HGW.out; omega) 0 _) (by have := HGW.out; omega) 1 _⟩

end Go.Proofs.Ytlmdmnenljmdgaa.Q

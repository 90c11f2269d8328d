-- Written by a program of this session (wip/xprint.py over the kit's printer).
import Derived.Test.YtenphfagdpkjaaaQ0
import Derived.Test.YtenphfagdpkjaaaQF64
import Derived.Test.YtenphfagdpkjaaaQM2
namespace Go.Proofs.Ytenphfagdpkjaaa.Q
open Go.RowKit Go.Proofs.YtenphfagdpkjaaaW.PrintWords Go.Proofs.YtenphfagdpkjaaaW.PrintLast
set_option linter.unusedVariables false
set_option linter.unusedSimpArgs false

/-! ### laws_heldPhaseS: function 39 -/
def laws_heldPhaseS.l0 : Nat → List (S64) → Int → Int → Option (Int)
 | 0, _, _, _ => none
 | k + 1, x0, x1, x5 => if x5 < (x0.length : Int) then (if 0 ≤ x5 then ((laws_markText.f k x1).bind fun t152 => (if ((rd_T64 x0 x5).f0).toList = t152.toList then ((laws_heldIntS.f k ((rd_T64 x0 x5).f1) (wrap64 (x1 + 1))).bind fun t154 => (if t154 < 0 then (some (-1)) else (laws_heldPhaseS.l0 k x0 t154 (wrap64 (x5 + 1))))) else (some (-1)))) else (none)) else (some x1)
def laws_heldPhaseS.f (k : Nat) (l0 : List (S64)) (a1 : Int) : Option (Int) := laws_heldPhaseS.l0 k l0 a1 0
theorem laws_heldPhaseS.mono_l : ∀ k, (∀ y0 y1 y2, LeO (laws_heldPhaseS.l0 k y0 y1 y2) (laws_heldPhaseS.l0 (k + 1) y0 y1 y2))
 | 0 => fun _ _ _ r h => by simp [laws_heldPhaseS.l0] at h
 | k + 1 => by
  have ih0 := laws_heldPhaseS.mono_l k
  ·intro y0 y1 y2
   unfold laws_heldPhaseS.l0
   repeat' first
   | (with_reducible exact ih0 _ _ _)
   | (with_reducible exact laws_heldIntS.mono _ _ _)
   | (with_reducible exact laws_markText.mono _ _)
   | (with_reducible exact LeO.refl _)
   | (with_reducible exact LeO.none _)
   | (with_reducible refine LeO.ite ?_ ?_)
   | (with_reducible refine LeO.bind ?_ (fun _ => ?_))
   | exact ih0 _ _ _
   | exact laws_heldIntS.mono _ _ _
   | exact laws_markText.mono _ _
   | exact LeO.none _
   | refine LeO.ite ?_ ?_
   | refine LeO.bind ?_ (fun _ => ?_)
theorem laws_heldPhaseS.mono : ∀ a0 a1 k, LeO (laws_heldPhaseS.f k a0 a1) (laws_heldPhaseS.f (k + 1) a0 a1) := by
 intro a0 a1 k
 have ih0 := laws_heldPhaseS.mono_l k
 unfold laws_heldPhaseS.f
 repeat' first
   | (with_reducible exact ih0 _ _ _)
   | (with_reducible exact laws_heldIntS.mono _ _ _)
   | (with_reducible exact laws_markText.mono _ _)
   | (with_reducible exact LeO.refl _)
   | (with_reducible exact LeO.none _)
   | (with_reducible refine LeO.ite ?_ ?_)
   | (with_reducible refine LeO.bind ?_ (fun _ => ?_))
   | exact ih0 _ _ _
   | exact laws_heldIntS.mono _ _ _
   | exact laws_markText.mono _ _
   | exact LeO.none _
   | refine LeO.ite ?_ ?_
   | refine LeO.bind ?_ (fun _ => ?_)
def laws_heldPhaseS.T4 : Bool × List (List Nat × List Nat) := (true, [([], []), ([], []), ([0, 1], [0, 1]), ([2], [2]), ([3], [3]), ([], []), ([5], [5]), ([4, 6], [4, 6])])
def laws_heldPhaseS.B4 : List Nat := [0, 0, 3, 7, 15, 0, 32, 127]
theorem laws_heldPhaseS.tab4 : rtab .any (opsOf Try.f39 4) = laws_heldPhaseS.T4 := by kernel_rfl
theorem laws_heldPhaseS.bits4 : waitsOk laws_heldPhaseS.T4.2 laws_heldPhaseS.B4 = true := by kernel_rfl
set_option maxHeartbeats 8000000 in
set_option maxRecDepth 100000 in
theorem laws_heldPhaseS.calls (k : Nat) (A0 : Option Addr) (c0 : Nat) (l0 : List (S64)) (a1 : Int) (r : Int) (w : World) (hr0 : Kd.C k64 w A0 l0.length l0) (hc0 : l0.length ≤ c0) (h : laws_heldPhaseS.f k l0 a1 = some r) :
  Calls Try.prog 39 #[.slice A0 l0.length c0, .int .i64 a1] w fun e w' => e = .returned (.int .i64 r) ∧ Below w.heap.size w w' := by
 have HR0 := Aside0.mk hr0
 have HC0 := Aside0.mk hc0
 clear hr0 hc0
 have HB := Aside0.mk (Below.refl w.heap.size w)
 have H : (laws_heldPhaseS.l0 k l0 a1 0) = some r := h
 clear h
 have H' := Aside0.mk H
 clear H
 go_enter Try.func39, Try.ntmps39
 go_wp2
 go_loopg [1, 5] k (fun kq v1 v5 w' => ∃ (x1_1 : Int) (x5_1 : Int), v1 = .int .i64 x1_1 ∧ v5 = .int .i64 x5_1 ∧ Aside0 (laws_heldPhaseS.l0 kq l0 x1_1 x5_1 = some r) ∧ Aside0 (kq ≤ k) ∧ Aside0 (Below w.heap.size w w'))
 case atStart => exact ⟨(a1), (0), (by first | rfl | (simp; done) | (simp [*]; done)), (by first | rfl | (simp; done) | (simp [*]; done)), H', ⟨Nat.le_refl _⟩, ⟨by repeat (first | (with_reducible first | exact HB.out | apply below_alloc | apply pw_below_drewN | apply below_drew1) | exact HB.out)⟩⟩
 case round =>
  clear H'
  try clear p2
  obtain ⟨x1_1, x5_1, rfl, rfl, HA, HK1, HB⟩ := hrel
  cases gk with
  | zero => exact absurd HA.out (by simp [laws_heldPhaseS.l0])
  | succ k1 =>
   have H := HA.out
   clear HA
   simp only [laws_heldPhaseS.l0] at H
   by_cases c3 : x5_1 < (l0.length : Int)
   ·rw [if_pos c3] at H
    have c3b0 : decide (x5_1 < (l0.length : Int)) = true := decide_eq_true c3
    clear c3
    by_cases c4 : 0 ≤ x5_1
    ·rw [if_pos c4] at H
     have c4b0 : decide (0 ≤ x5_1) = true := decide_eq_true c4
     clear c4
     replace H := Option.bind_eq_some_iff.mp H
     obtain ⟨t152, A50, H⟩ := H
     replace H : (if ((rd_T64 l0 x5_1).f0).toList = t152.toList then ((laws_heldIntS.f k1 ((rd_T64 l0 x5_1).f1) (wrap64 (x1_1 + 1))).bind fun t154 => (if t154 < 0 then (some (-1)) else (laws_heldPhaseS.l0 k1 l0 t154 (wrap64 (x5_1 + 1))))) else (some (-1))) = some r := H
     have A5 := Aside0.mk A50
     clear A50
     by_cases c6 : ((rd_T64 l0 x5_1).f0).toList = t152.toList
     ·rw [if_pos c6] at H
      have c6b0 : (((rd_T64 l0 x5_1).f0).toList == t152.toList) = true := beq_iff_eq.mpr c6
      have c6b1 : (((rd_T64 l0 x5_1).f0).toList != t152.toList) = false := bne_eq_false_iff_eq.mpr c6
      clear c6
      replace H := Option.bind_eq_some_iff.mp H
      obtain ⟨t154, A70, H⟩ := H
      replace H : (if t154 < 0 then (some (-1)) else (laws_heldPhaseS.l0 k1 l0 t154 (wrap64 (x5_1 + 1)))) = some r := H
      have A7 := Aside0.mk A70
      clear A70
      by_cases c8 : t154 < 0
      ·rw [if_pos c8] at H
       have c8b0 : decide (t154 < 0) = true := decide_eq_true c8
       clear c8
       obtain rfl := Option.some.inj H
       try go_wp2
       have n0_ := Aside0.mk (below_drew1 HB.out)
       clear HB
       have HB := n0_
       clear n0_
       have p151 : 0 ≤ (x5_1 : Int) := od_
       have q151 : x5_1 < (l0.length : Int) := od_
       obtain ⟨ad151, A151_1, c151_1, e151, hx151_0, hx151_1, hl151_1, hi151_1⟩ := at_T64 HR0.out x5_1 p151 q151
       have hw151_1 := hx151_1
       have hw151_0 := hx151_0
       cases e151
       replace hx151_0 := lc_ HB.out hx151_0
       replace hx151_1 := lc_ HB.out hx151_1
       have HR151_1 := Aside0.mk hi151_1
       have HC151_1 := Aside0.mk hl151_1
       clear hi151_1 hl151_1
       replace p151 := eq_true p151
       replace q151 := eq_true q151
       refine start_ (n := 8) (S := fun w' => w'.cell? (ad151.add ((x5_1).toNat * 2)) = some (.string ((rd_T64 l0 x5_1).f0)) ∧ w'.cell? ⟨(ad151.add ((x5_1).toNat * 2)).block, (ad151.add ((x5_1).toNat * 2)).off + 1, none⟩ = some (.slice A151_1 ((rd_T64 l0 x5_1).f1).length c151_1)) (ds := []) #[false, false, false, false, false, false, false, false] (by kernel_rfl) rfl rfl ⟨((HB.out.cell (World.block_lt_of_cell? w _ hw151_0)).trans hw151_0), ((HB.out.cell (World.block_lt_of_cell? w _ hw151_1)).trans hw151_1)⟩ (fun hHeld => ?_); refine with_tabW laws_heldPhaseS.tab4 laws_heldPhaseS.bits4 (fun HT_ HW_ => ?_)
       generalize wr.drew = w9 at HB HR151_1 hx151_0 hx151_1 hHeld ⊢
       refine pA_ 0 (some 12) (bl 1 8) HT_.out (h := ?_)
       refine pA_ 1 (some 13) (bl 2 8) HT_.out (h := ?_)
       refine pA_ 2 (some 14) (bl 3 8) HT_.out (h := ?_)
       refine pA_ 3 (some 15) (bl 4 8) HT_.out (h := ?_)
       refine pA_ 5 (some 17) #[true, true, true, true, false, true, false, false] HT_.out (h := ?_)
       refine tA_ 4 (some 16) (bl 6 8) HT_.out HW_.out hHeld (h := ?_)
       refine one_ (i := 6) (N := some 18) (bl 7 8) rfl rfl (one_of HT_.out (by kernel_rfl)) (by decide) (fun K hK => ?_)
       refine goes_ Try.func64 (by kernel_rfl) rfl #[.int .i64 x1_1] (by rfl) rfl rfl (by (try simp only [List.map_toArray, List.map_cons, List.map_nil]); first | done | rfl | (simp only [List.length_drop, List.length_take]; rfl)) ?_
       with_reducible refine (laws_markText.calls k1 x1_1 t152 _ A5.out).mono ?_
       rintro e w10 ⟨rfl, hb⟩
       refine ⟨_, rfl, ?_⟩
       have n0_ := Aside0.mk (below_step (wz_ HB.out) hb)
       clear HB
       have HB := n0_
       clear n0_
       (try clear hb)
       (try clear hb2)
       (try clear hk)
       (try clear hi)
       refine hK.out _ _ ⟨((HB.out.cell (World.block_lt_of_cell? w _ hw151_0)).trans hw151_0), ((HB.out.cell (World.block_lt_of_cell? w _ hw151_1)).trans hw151_1)⟩ (fun hHeld => ?_)
       clear hK K
       refine norm_ (a' := ?_) ?_ ?_
       rotate_left
       ·show Act.put _ (some 18) _ = _
        simp only [Act.put, List.setIfInBounds_toArray, List.set_cons_zero, List.set_cons_succ, i64_w, i32_w]
        rfl
       refine pA_ 7 (some 19) (bl 8 8) HT_.out (h := ?_)
       refine done_ (done_of HT_.out (by kernel_rfl)) ?_
       have p153 : 0 ≤ (x5_1 : Int) := od_
       have q153 : x5_1 < (l0.length : Int) := od_
       obtain ⟨ad153, A153_1, c153_1, e153, hx153_0, hx153_1, hl153_1, hi153_1⟩ := at_T64 HR0.out x5_1 p153 q153
       obtain rfl : ad151 = ad153 := (by injection e153)
       replace hx153_0 := lc_ HB.out hx153_0
       replace hx153_1 := lc_ HB.out hx153_1
       have HR153_1 := Aside0.mk hi153_1
       have HC153_1 := Aside0.mk hl153_1
       clear hi153_1 hl153_1
       replace p153 := eq_true p153
       replace q153 := eq_true q153
       try go_wp2_with (first | ((with_reducible refine gate_callee (f := 31) rfl ?_); refine goesL_ (some 28) rfl rfl Try.func31 (by kernel_rfl) rfl #[.slice A151_1 ((rd_T64 l0 x5_1).f1).length c151_1, .int .i64 (wrap64 (x1_1 + 1))] rfl (by (try simp only [List.map_toArray, List.map_cons, List.map_nil]); first | done | rfl | (simp only [List.length_drop, List.length_take]; rfl)) ?_; (with_reducible refine (laws_heldIntS.calls k1 _ _ ((rd_T64 l0 x5_1).f1) (wrap64 (x1_1 + 1)) t154 _ ?side1 ?side2 A7.out).mono ?_); (case side1 => exact cz_ (Kd.C_below HR151_1.out HB.out)); (case side2 => exact HC151_1.out); rintro e w' ⟨rfl, ⟨nd, rfl⟩⟩; refine ⟨_, rfl, ?_⟩))
       go_ret
       exact ⟨by first | rfl | (simp [errW_none, errW_some] <;> rfl) | (simp [*, errW_none, errW_some] <;> rfl), by repeat (first | (with_reducible first | exact HB.out | apply below_alloc | apply pw_below_drewN | apply below_drew1) | exact HB.out)⟩
      ·rw [if_neg c8] at H
       have c8b0 : decide (t154 < 0) = false := decide_eq_false c8
       clear c8
       have H' := Aside0.mk H
       clear H
       try go_wp2
       have n0_ := Aside0.mk (below_drew1 HB.out)
       clear HB
       have HB := n0_
       clear n0_
       have p151 : 0 ≤ (x5_1 : Int) := od_
       have q151 : x5_1 < (l0.length : Int) := od_
       obtain ⟨ad151, A151_1, c151_1, e151, hx151_0, hx151_1, hl151_1, hi151_1⟩ := at_T64 HR0.out x5_1 p151 q151
       have hw151_1 := hx151_1
       have hw151_0 := hx151_0
       cases e151
       replace hx151_0 := lc_ HB.out hx151_0
       replace hx151_1 := lc_ HB.out hx151_1
       have HR151_1 := Aside0.mk hi151_1
       have HC151_1 := Aside0.mk hl151_1
       clear hi151_1 hl151_1
       replace p151 := eq_true p151
       replace q151 := eq_true q151
       refine start_ (n := 8) (S := fun w' => w'.cell? (ad151.add ((x5_1).toNat * 2)) = some (.string ((rd_T64 l0 x5_1).f0)) ∧ w'.cell? ⟨(ad151.add ((x5_1).toNat * 2)).block, (ad151.add ((x5_1).toNat * 2)).off + 1, none⟩ = some (.slice A151_1 ((rd_T64 l0 x5_1).f1).length c151_1)) (ds := []) #[false, false, false, false, false, false, false, false] (by kernel_rfl) rfl rfl ⟨((HB.out.cell (World.block_lt_of_cell? w _ hw151_0)).trans hw151_0), ((HB.out.cell (World.block_lt_of_cell? w _ hw151_1)).trans hw151_1)⟩ (fun hHeld => ?_); refine with_tabW laws_heldPhaseS.tab4 laws_heldPhaseS.bits4 (fun HT_ HW_ => ?_)
       generalize wr.drew = w11 at HB HR151_1 hx151_0 hx151_1 hHeld ⊢
       refine pA_ 0 (some 12) (bl 1 8) HT_.out (h := ?_)
       refine pA_ 1 (some 13) (bl 2 8) HT_.out (h := ?_)
       refine pA_ 2 (some 14) (bl 3 8) HT_.out (h := ?_)
       refine pA_ 3 (some 15) (bl 4 8) HT_.out (h := ?_)
       refine pA_ 5 (some 17) #[true, true, true, true, false, true, false, false] HT_.out (h := ?_)
       refine tA_ 4 (some 16) (bl 6 8) HT_.out HW_.out hHeld (h := ?_)
       refine one_ (i := 6) (N := some 18) (bl 7 8) rfl rfl (one_of HT_.out (by kernel_rfl)) (by decide) (fun K hK => ?_)
       refine goes_ Try.func64 (by kernel_rfl) rfl #[.int .i64 x1_1] (by rfl) rfl rfl (by (try simp only [List.map_toArray, List.map_cons, List.map_nil]); first | done | rfl | (simp only [List.length_drop, List.length_take]; rfl)) ?_
       with_reducible refine (laws_markText.calls k1 x1_1 t152 _ A5.out).mono ?_
       rintro e w12 ⟨rfl, hb⟩
       refine ⟨_, rfl, ?_⟩
       have n0_ := Aside0.mk (below_step (wz_ HB.out) hb)
       clear HB
       have HB := n0_
       clear n0_
       (try clear hb)
       (try clear hb2)
       (try clear hk)
       (try clear hi)
       refine hK.out _ _ ⟨((HB.out.cell (World.block_lt_of_cell? w _ hw151_0)).trans hw151_0), ((HB.out.cell (World.block_lt_of_cell? w _ hw151_1)).trans hw151_1)⟩ (fun hHeld => ?_)
       clear hK K
       refine norm_ (a' := ?_) ?_ ?_
       rotate_left
       ·show Act.put _ (some 18) _ = _
        simp only [Act.put, List.setIfInBounds_toArray, List.set_cons_zero, List.set_cons_succ, i64_w, i32_w]
        rfl
       refine pA_ 7 (some 19) (bl 8 8) HT_.out (h := ?_)
       refine done_ (done_of HT_.out (by kernel_rfl)) ?_
       have p153 : 0 ≤ (x5_1 : Int) := od_
       have q153 : x5_1 < (l0.length : Int) := od_
       obtain ⟨ad153, A153_1, c153_1, e153, hx153_0, hx153_1, hl153_1, hi153_1⟩ := at_T64 HR0.out x5_1 p153 q153
       obtain rfl : ad151 = ad153 := (by injection e153)
       replace hx153_0 := lc_ HB.out hx153_0
       replace hx153_1 := lc_ HB.out hx153_1
       have HR153_1 := Aside0.mk hi153_1
       have HC153_1 := Aside0.mk hl153_1
       clear hi153_1 hl153_1
       replace p153 := eq_true p153
       replace q153 := eq_true q153
       try go_wp2_with (first | ((with_reducible refine gate_callee (f := 31) rfl ?_); refine goesL_ (some 28) rfl rfl Try.func31 (by kernel_rfl) rfl #[.slice A151_1 ((rd_T64 l0 x5_1).f1).length c151_1, .int .i64 (wrap64 (x1_1 + 1))] rfl (by (try simp only [List.map_toArray, List.map_cons, List.map_nil]); first | done | rfl | (simp only [List.length_drop, List.length_take]; rfl)) ?_; (with_reducible refine (laws_heldIntS.calls k1 _ _ ((rd_T64 l0 x5_1).f1) (wrap64 (x1_1 + 1)) t154 _ ?side1 ?side2 A7.out).mono ?_); (case side1 => exact cz_ (Kd.C_below HR151_1.out HB.out)); (case side2 => exact HC151_1.out); rintro e w' ⟨rfl, ⟨nd, rfl⟩⟩; refine ⟨_, rfl, ?_⟩))
       go_roundg k1
       case measure => have := HK1.out; omega
       case rel => exact ⟨(t154), (wrap64 (x5_1 + 1)), (by first | rfl | (simp; done) | (simp [*]; done)), (by first | rfl | (simp; done) | (simp [*]; done)), H', ⟨by have := HK1.out; omega⟩, ⟨by repeat (first | (with_reducible first | exact HB.out | apply below_alloc | apply pw_below_drewN | apply below_drew1) | exact HB.out)⟩⟩
     ·rw [if_neg c6] at H
      have c6b0 : (((rd_T64 l0 x5_1).f0).toList == t152.toList) = false := beq_eq_false_iff_ne.mpr c6
      have c6b1 : (((rd_T64 l0 x5_1).f0).toList != t152.toList) = true := bne_iff_ne.mpr c6
      obtain rfl := Option.some.inj H
      try go_wp2
      have n0_ := Aside0.mk (below_drew1 HB.out)
      clear HB
      have HB := n0_
      clear n0_
      have p151 : 0 ≤ (x5_1 : Int) := od_
      have q151 : x5_1 < (l0.length : Int) := od_
      obtain ⟨ad151, A151_1, c151_1, e151, hx151_0, hx151_1, hl151_1, hi151_1⟩ := at_T64 HR0.out x5_1 p151 q151
      have hw151_1 := hx151_1
      have hw151_0 := hx151_0
      cases e151
      replace hx151_0 := lc_ HB.out hx151_0
      replace hx151_1 := lc_ HB.out hx151_1
      have HR151_1 := Aside0.mk hi151_1
      have HC151_1 := Aside0.mk hl151_1
      clear hi151_1 hl151_1
      replace p151 := eq_true p151
      replace q151 := eq_true q151
      refine start_ (n := 8) (S := fun w' => w'.cell? (ad151.add ((x5_1).toNat * 2)) = some (.string ((rd_T64 l0 x5_1).f0)) ∧ w'.cell? ⟨(ad151.add ((x5_1).toNat * 2)).block, (ad151.add ((x5_1).toNat * 2)).off + 1, none⟩ = some (.slice A151_1 ((rd_T64 l0 x5_1).f1).length c151_1)) (ds := []) #[false, false, false, false, false, false, false, false] (by kernel_rfl) rfl rfl ⟨((HB.out.cell (World.block_lt_of_cell? w _ hw151_0)).trans hw151_0), ((HB.out.cell (World.block_lt_of_cell? w _ hw151_1)).trans hw151_1)⟩ (fun hHeld => ?_); refine with_tabW laws_heldPhaseS.tab4 laws_heldPhaseS.bits4 (fun HT_ HW_ => ?_)
      generalize wr.drew = w13 at HB HR151_1 hx151_0 hx151_1 hHeld ⊢
      refine pA_ 0 (some 12) (bl 1 8) HT_.out (h := ?_)
      refine pA_ 1 (some 13) (bl 2 8) HT_.out (h := ?_)
      refine pA_ 2 (some 14) (bl 3 8) HT_.out (h := ?_)
      refine pA_ 3 (some 15) (bl 4 8) HT_.out (h := ?_)
      refine pA_ 5 (some 17) #[true, true, true, true, false, true, false, false] HT_.out (h := ?_)
      refine tA_ 4 (some 16) (bl 6 8) HT_.out HW_.out hHeld (h := ?_)
      refine one_ (i := 6) (N := some 18) (bl 7 8) rfl rfl (one_of HT_.out (by kernel_rfl)) (by decide) (fun K hK => ?_)
      refine goes_ Try.func64 (by kernel_rfl) rfl #[.int .i64 x1_1] (by rfl) rfl rfl (by (try simp only [List.map_toArray, List.map_cons, List.map_nil]); first | done | rfl | (simp only [List.length_drop, List.length_take]; rfl)) ?_
      with_reducible refine (laws_markText.calls k1 x1_1 t152 _ A5.out).mono ?_
      rintro e w14 ⟨rfl, hb⟩
      refine ⟨_, rfl, ?_⟩
      have n0_ := Aside0.mk (below_step (wz_ HB.out) hb)
      clear HB
      have HB := n0_
      clear n0_
      (try clear hb)
      (try clear hb2)
      (try clear hk)
      (try clear hi)
      refine hK.out _ _ ⟨((HB.out.cell (World.block_lt_of_cell? w _ hw151_0)).trans hw151_0), ((HB.out.cell (World.block_lt_of_cell? w _ hw151_1)).trans hw151_1)⟩ (fun hHeld => ?_)
      clear hK K
      refine norm_ (a' := ?_) ?_ ?_
      rotate_left
      ·show Act.put _ (some 18) _ = _
       simp only [Act.put, List.setIfInBounds_toArray, List.set_cons_zero, List.set_cons_succ, i64_w, i32_w]
       rfl
      refine pA_ 7 (some 19) (bl 8 8) HT_.out (h := ?_)
      refine done_ (done_of HT_.out (by kernel_rfl)) ?_
      try go_wp2
      go_ret
      exact ⟨by first | rfl | (simp [errW_none, errW_some] <;> rfl) | (simp [*, errW_none, errW_some] <;> rfl), by repeat (first | (with_reducible first | exact HB.out | apply below_alloc | apply pw_below_drewN | apply below_drew1) | exact HB.out)⟩
    ·rw [if_neg c4] at H
     exact absurd H (by simp)
   ·rw [if_neg c3] at H
    have c3b0 : decide (x5_1 < (l0.length : Int)) = false := decide_eq_false c3
    clear c3
    obtain rfl := Option.some.inj H
    go_wp2
    go_ret
    exact ⟨by first | rfl | (simp [errW_none, errW_some] <;> rfl) | (simp [*, errW_none, errW_some] <;> rfl), by repeat (first | (with_reducible first | exact HB.out | apply below_alloc | apply pw_below_drewN | apply below_drew1) | exact HB.out)⟩

end Go.Proofs.Ytenphfagdpkjaaa.Q

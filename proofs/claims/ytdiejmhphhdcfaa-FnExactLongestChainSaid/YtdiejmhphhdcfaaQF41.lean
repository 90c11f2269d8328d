-- Written by a program of this session (wip/xprint.py over the kit's printer).
import Derived.Test.YtdiejmhphhdcfaaQ0
import Derived.Test.YtdiejmhphhdcfaaQF61
import Derived.Test.YtdiejmhphhdcfaaQF78
import Derived.Test.YtdiejmhphhdcfaaQF89
namespace Go.Proofs.Ytdiejmhphhdcfaa.Q
open Go.RowKit Go.Proofs.YtdiejmhphhdcfaaW.PrintWords Go.Proofs.YtdiejmhphhdcfaaW.PrintLast
set_option linter.unusedVariables false
set_option linter.unusedSimpArgs false

/-! ### spec_LongestChain: function 41 -/
mutual
def spec_LongestChain.l0 : Nat → List Int → List Int → Int → Int → List (S86) → List (S95) → Option (List Int × Bool)
 | 0, _, _, _, _, _, _ => none
 | k + 1, x4, x5, x6, x7, x152000, x152001 => if x7 < (x5.length : Int) then (if x6 < 0 then (spec_LongestChain.l0 k x4 x5 x7 (wrap64 (x7 + 1)) x152000 x152001) else (if 0 ≤ x7 then (if 0 ≤ x6 then (if x6 < (x5.length : Int) then (if (rd x5 x7) > (rd x5 x6) then (spec_LongestChain.l0 k x4 x5 x7 (wrap64 (x7 + 1)) x152000 x152001) else (spec_LongestChain.l0 k x4 x5 x6 (wrap64 (x7 + 1)) x152000 x152001)) else (none)) else (none)) else (none))) else (spec_LongestChain.l1 k x4 x5 x6 x152000 x152001)
def spec_LongestChain.l1 : Nat → List Int → List Int → Int → List (S86) → List (S95) → Option (List Int × Bool)
 | 0, _, _, _, _, _ => none
 | k + 1, x4, x5, x6, x152000, x152001 => if x6 ≥ 0 then (if 0 ≤ x6 then (if x6 < (x152000.length : Int) then (if x4.length < 17592186044416 then (spec_LongestChain.l2 k (x4 ++ [(rd_T86 x152000 x6).f0]) x5 x6 (-1) (wrap64 ((x152001.length : Int) - 1)) x152000 x152001) else (none)) else (none)) else (none)) else (some (x4, true))
def spec_LongestChain.l2 : Nat → List Int → List Int → Int → Int → Int → List (S86) → List (S95) → Option (List Int × Bool)
 | 0, _, _, _, _, _, _, _ => none
 | k + 1, x4, x5, x6, x8, x9, x152000, x152001 => if x9 ≥ 0 then (if 0 ≤ x9 then (if x9 < (x152001.length : Int) then ((spec_l2Find.f x152000 x152001 ((rd_T95 x152001 x9).f1)).bind fun t166 => (if 0 ≤ x6 then (if x6 < (x152000.length : Int) then (if ((rd_T95 x152001 x9).f0) = ((rd_T86 x152000 x6).f0) then (if 0 ≤ t166 then (if t166 < (x5.length : Int) then (if x6 < (x5.length : Int) then (if (rd x5 t166) = (wrap64 ((rd x5 x6) - 1)) then (spec_LongestChain.l2 k x4 x5 x6 t166 (wrap64 (x9 - 1)) x152000 x152001) else (spec_LongestChain.l2 k x4 x5 x6 x8 (wrap64 (x9 - 1)) x152000 x152001)) else (none)) else (none)) else (none)) else (spec_LongestChain.l2 k x4 x5 x6 x8 (wrap64 (x9 - 1)) x152000 x152001)) else (none)) else (none))) else (none)) else (none)) else (spec_LongestChain.l1 k x4 x5 x8 x152000 x152001)
end
def spec_LongestChain.f (k : Nat) (l0_0 : List (S86)) (l0_1 : List (S95)) : Option (List Int × Bool) := (some (([] : List Int) : List Int)).bind fun y152 => ((spec_l5Good.f k l0_0 l0_1).bind fun t155 => (if t155 = true then ((spec_l5Heights.f k l0_0 l0_1).bind fun t156 => (spec_LongestChain.l0 k y152 t156 (-1) 0 l0_0 l0_1)) else (some (y152, false))))
theorem spec_LongestChain.mono_l : ∀ k, (∀ y0 y1 y2 y3 y4 y5, LeO (spec_LongestChain.l0 k y0 y1 y2 y3 y4 y5) (spec_LongestChain.l0 (k + 1) y0 y1 y2 y3 y4 y5)) ∧ (∀ y0 y1 y2 y3 y4, LeO (spec_LongestChain.l1 k y0 y1 y2 y3 y4) (spec_LongestChain.l1 (k + 1) y0 y1 y2 y3 y4)) ∧ (∀ y0 y1 y2 y3 y4 y5 y6, LeO (spec_LongestChain.l2 k y0 y1 y2 y3 y4 y5 y6) (spec_LongestChain.l2 (k + 1) y0 y1 y2 y3 y4 y5 y6))
 | 0 => ⟨fun _ _ _ _ _ _ r h => by simp [spec_LongestChain.l0] at h, fun _ _ _ _ _ r h => by simp [spec_LongestChain.l1] at h, fun _ _ _ _ _ _ _ r h => by simp [spec_LongestChain.l2] at h⟩
 | k + 1 => by
  obtain ⟨ih0, ih1, ih2⟩ := spec_LongestChain.mono_l k
  refine ⟨?_, ?_, ?_⟩
  ·intro y0 y1 y2 y3 y4 y5
   unfold spec_LongestChain.l0
   repeat' first
   | (with_reducible exact ih0 _ _ _ _ _ _)
   | (with_reducible exact ih1 _ _ _ _ _)
   | (with_reducible exact ih2 _ _ _ _ _ _ _)
   | (with_reducible exact spec_l5Good.mono _ _ _)
   | (with_reducible exact spec_l5Heights.mono _ _ _)
   | (with_reducible exact LeO.refl _)
   | (with_reducible exact LeO.none _)
   | (with_reducible refine LeO.ite ?_ ?_)
   | (with_reducible refine LeO.bind ?_ (fun _ => ?_))
   | exact ih0 _ _ _ _ _ _
   | exact ih1 _ _ _ _ _
   | exact ih2 _ _ _ _ _ _ _
   | exact spec_l5Good.mono _ _ _
   | exact spec_l5Heights.mono _ _ _
   | exact LeO.none _
   | refine LeO.ite ?_ ?_
   | refine LeO.bind ?_ (fun _ => ?_)
  ·intro y0 y1 y2 y3 y4
   unfold spec_LongestChain.l1
   repeat' first
   | (with_reducible exact ih0 _ _ _ _ _ _)
   | (with_reducible exact ih1 _ _ _ _ _)
   | (with_reducible exact ih2 _ _ _ _ _ _ _)
   | (with_reducible exact spec_l5Good.mono _ _ _)
   | (with_reducible exact spec_l5Heights.mono _ _ _)
   | (with_reducible exact LeO.refl _)
   | (with_reducible exact LeO.none _)
   | (with_reducible refine LeO.ite ?_ ?_)
   | (with_reducible refine LeO.bind ?_ (fun _ => ?_))
   | exact ih0 _ _ _ _ _ _
   | exact ih1 _ _ _ _ _
   | exact ih2 _ _ _ _ _ _ _
   | exact spec_l5Good.mono _ _ _
   | exact spec_l5Heights.mono _ _ _
   | exact LeO.none _
   | refine LeO.ite ?_ ?_
   | refine LeO.bind ?_ (fun _ => ?_)
  ·intro y0 y1 y2 y3 y4 y5 y6
   unfold spec_LongestChain.l2
   repeat' first
   | (with_reducible exact ih0 _ _ _ _ _ _)
   | (with_reducible exact ih1 _ _ _ _ _)
   | (with_reducible exact ih2 _ _ _ _ _ _ _)
   | (with_reducible exact spec_l5Good.mono _ _ _)
   | (with_reducible exact spec_l5Heights.mono _ _ _)
   | (with_reducible exact LeO.refl _)
   | (with_reducible exact LeO.none _)
   | (with_reducible refine LeO.ite ?_ ?_)
   | (with_reducible refine LeO.bind ?_ (fun _ => ?_))
   | exact ih0 _ _ _ _ _ _
   | exact ih1 _ _ _ _ _
   | exact ih2 _ _ _ _ _ _ _
   | exact spec_l5Good.mono _ _ _
   | exact spec_l5Heights.mono _ _ _
   | exact LeO.none _
   | refine LeO.ite ?_ ?_
   | refine LeO.bind ?_ (fun _ => ?_)
theorem spec_LongestChain.mono : ∀ a0 a1 k, LeO (spec_LongestChain.f k a0 a1) (spec_LongestChain.f (k + 1) a0 a1) := by
 intro a0 a1 k
 obtain ⟨ih0, ih1, ih2⟩ := spec_LongestChain.mono_l k
 unfold spec_LongestChain.f
 repeat' first
   | (with_reducible exact ih0 _ _ _ _ _ _)
   | (with_reducible exact ih1 _ _ _ _ _)
   | (with_reducible exact ih2 _ _ _ _ _ _ _)
   | (with_reducible exact spec_l5Good.mono _ _ _)
   | (with_reducible exact spec_l5Heights.mono _ _ _)
   | (with_reducible exact LeO.refl _)
   | (with_reducible exact LeO.none _)
   | (with_reducible refine LeO.ite ?_ ?_)
   | (with_reducible refine LeO.bind ?_ (fun _ => ?_))
   | exact ih0 _ _ _ _ _ _
   | exact ih1 _ _ _ _ _
   | exact ih2 _ _ _ _ _ _ _
   | exact spec_l5Good.mono _ _ _
   | exact spec_l5Heights.mono _ _ _
   | exact LeO.none _
   | refine LeO.ite ?_ ?_
   | refine LeO.bind ?_ (fun _ => ?_)
def spec_LongestChain.T9 : Bool × List (List Nat × List Nat) := (true, [([], []), ([0], [0]), ([1], [1]), ([2], [2]), ([2], [2]), ([3, 4, 2], [2, 3, 4]), ([5, 2], [2, 5]), ([2], [2]), ([2], [2]), ([7, 8, 2], [2, 7, 8]), ([9, 2], [2, 9]), ([6, 10, 2], [2, 6, 10]), ([2, 11], [2, 11])])
def spec_LongestChain.B9 : List Nat := [0, 1, 3, 7, 7, 31, 63, 7, 7, 391, 903, 2047, 4095]
theorem spec_LongestChain.tab9 : rtab .any (opsOf Try.f41 9) = spec_LongestChain.T9 := by kernel_rfl
theorem spec_LongestChain.bits9 : waitsOk spec_LongestChain.T9.2 spec_LongestChain.B9 = true := by kernel_rfl
def spec_LongestChain.T17 : Bool × List (List Nat × List Nat) := (true, [([], []), ([], []), ([1], [1]), ([], []), ([2, 3], [2, 3]), ([4], [4]), ([5], [5]), ([0, 6], [0, 6]), ([7, 7, 0, 1, 2, 3, 4, 5, 6, 7], [7])])
def spec_LongestChain.B17 : List Nat := [0, 0, 2, 0, 14, 30, 62, 127, 255]
theorem spec_LongestChain.tab17 : rtab .any (opsOf Try.f41 17) = spec_LongestChain.T17 := by kernel_rfl
theorem spec_LongestChain.bits17 : waitsOk spec_LongestChain.T17.2 spec_LongestChain.B17 = true := by kernel_rfl
def spec_LongestChain.T18 : Bool × List (List Nat × List Nat) := (true, [([], []), ([0], [0]), ([], []), ([1, 2], [1, 2]), ([3], [3]), ([4], [4]), ([], []), ([6], [6]), ([], []), ([7, 8], [7, 8]), ([9], [9]), ([10], [10]), ([5, 11], [5, 11]), ([12], [12]), ([13], [13]), ([13], [13]), ([14, 15, 13], [13, 14, 15]), ([16, 13], [13, 16]), ([13], [13]), ([13], [13]), ([18, 19, 13], [13, 18, 19]), ([20, 13], [13, 20]), ([21, 13], [13, 21]), ([17, 22, 13], [13, 17, 22]), ([13, 23], [13, 23])])
def spec_LongestChain.B18 : List Nat := [0, 1, 0, 7, 15, 31, 0, 64, 0, 448, 960, 1984, 4095, 8191, 16383, 16383, 65535, 131071, 16383, 16383, 802815, 1851391, 3948543, 8388607, 16777215]
theorem spec_LongestChain.tab18 : rtab .any (opsOf Try.f41 18) = spec_LongestChain.T18 := by kernel_rfl
theorem spec_LongestChain.bits18 : waitsOk spec_LongestChain.T18.2 spec_LongestChain.B18 = true := by kernel_rfl
set_option maxHeartbeats 8000000 in
set_option maxRecDepth 100000 in
theorem spec_LongestChain.calls (k : Nat) (A0_0 : Option Addr) (c0_0 : Nat) (l0_0 : List (S86)) (A0_1 : Option Addr) (c0_1 : Nat) (l0_1 : List (S95)) (r1 : List Int) (r2 : Bool) (w : World) (hr0_0 : Kd.C k86 w A0_0 l0_0.length l0_0) (hc0_0 : l0_0.length ≤ c0_0) (hr0_1 : Kd.C k95 w A0_1 l0_1.length l0_1) (hc0_1 : l0_1.length ≤ c0_1) (h : spec_LongestChain.f k l0_0 l0_1 = some (r1, r2)) :
  Calls Try.prog 41 #[.agg #[.slice A0_0 l0_0.length c0_0, .slice A0_1 l0_1.length c0_1]] w fun e w' => ∃ v0_ : Value, e = .returned (.tuple #[v0_, .bool r2]) ∧ Kd.R (Kd.int .i64) 3 w' w.heap.size (fun _ => True) v0_ r1 ∧ Below w.heap.size w w' := by
 have hu33 := Try.underlying33
 have HR0_0 := Aside0.mk hr0_0
 have HC0_0 := Aside0.mk hc0_0
 clear hr0_0 hc0_0
 have HR0_1 := Aside0.mk hr0_1
 have HC0_1 := Aside0.mk hc0_1
 clear hr0_1 hc0_1
 have HB := Aside0.mk (Below.refl w.heap.size w)
 have H : ((some (([] : List Int) : List Int)).bind fun y152 => ((spec_l5Good.f k l0_0 l0_1).bind fun t155 => (if t155 = true then ((spec_l5Heights.f k l0_0 l0_1).bind fun t156 => (spec_LongestChain.l0 k y152 t156 (-1) 0 l0_0 l0_1)) else (some (y152, false))))) = some (r1, r2) := h
 clear h
 obtain ⟨y152, hy152⟩ : ∃ y_ : List Int, y_ = (([] : List Int)) := ⟨_, rfl⟩
 replace H : ((spec_l5Good.f k l0_0 l0_1).bind fun t155 => (if t155 = true then ((spec_l5Heights.f k l0_0 l0_1).bind fun t156 => (spec_LongestChain.l0 k y152 t156 (-1) 0 l0_0 l0_1)) else (some (y152, false)))) = some (r1, r2) := by first | (rw [hy152]; with_reducible exact H) | (have H2_ := (Option.bind_some _ _).symm.trans H; rw [hy152]; with_reducible exact H2_) | (have H2_ := (Option.bind_some _ _).symm.trans H; with_reducible exact H2_) | with_reducible exact H | (rw [hy152]; exact H) | exact H
 have Ny152 := Aside0.mk hy152
 clear hy152
 replace H := Option.bind_eq_some_iff.mp H
 obtain ⟨t155, A20, H⟩ := H
 replace H : (if t155 = true then ((spec_l5Heights.f k l0_0 l0_1).bind fun t156 => (spec_LongestChain.l0 k y152 t156 (-1) 0 l0_0 l0_1)) else (some (y152, false))) = some (r1, r2) := H
 have A2 := Aside0.mk A20
 clear A20
 by_cases c3 : t155 = true
 ·subst c3
  have H1 : ((spec_l5Heights.f k l0_0 l0_1).bind fun t156 => (spec_LongestChain.l0 k y152 t156 (-1) 0 l0_0 l0_1)) = some (r1, r2) := by rw [if_pos rfl] at H; exact H
  clear H
  have H := H1
  clear H1
  replace H := Option.bind_eq_some_iff.mp H
  obtain ⟨t156, A40, H⟩ := H
  replace H : (spec_LongestChain.l0 k y152 t156 (-1) 0 l0_0 l0_1) = some (r1, r2) := H
  have A4 := Aside0.mk A40
  clear A40
  have H' := Aside0.mk H
  clear H
  go_enter Try.func41, Try.ntmps41
  go_wp2_with (first | ((with_reducible refine gate_dst (N := 1) rfl ?_); refine box_event ?hg (N := 1) ?hd (cs := #[.slice A0_0 l0_0.length c0_0, .slice A0_1 l0_1.length c0_1]) (t := 33) ?hr ?_; (case hd => rfl); (case hg => rfl); (case hr => first | (go_simp; done) | (go_simp; rfl)); intro gb151 hg w5 hbox hb; have n0_ := Aside0.mk (below_step (wz_ HB.out) hb); have n1_ := Aside0.mk (hbox); have n2_ := Aside0.mk ((by rw [hg]; exact (below_size (wz_ HB.out)) : w.heap.size ≤ gb151)); have n3_ := Aside0.mk ((by rw [hg]; exact (below_size (wz_ HB.out)) : w.heap.size ≤ gb151)); clear HB; have HB := n0_; have BK151 := n1_; have GW151 := n2_; have GE151 := n3_; clear n0_ n1_ n2_ n3_; clear hb hbox hg) | ((with_reducible refine gate_dst (N := 11) rfl ?_); refine Kd.R_lit (Kd.int .i64) _ 3 ?hg (N := 11) ?hd (xs := ([] : List Int)) (inner := []) (ok := fun _ => True) (okp := fun _ => True) ?hr ?hp (fun _ hk => hk) trivial (Below.refl _ _) (Nat.le_refl _) (by simp) ?_; (case hd => rfl); (case hg => rfl); (case hr => first | (go_simp; done) | (go_simp; rfl)); (case hp => exact (Reps.none _ _)); intro v153 w6 ho7 hb hg_ hnew_; clear hg_ hnew_; (first | rw [← Ny152.out] at ho7 | (simp only [Int.reduceToNat] at ho7; rw [← Ny152.out] at ho7)); have n0_ := Aside0.mk (Kd.R_lower ho7 (below_size (by repeat (first | (with_reducible first | exact HB.out | apply below_alloc | apply pw_below_drewN | apply below_drew1 | refine below_set ?_ GE151.out) | exact HB.out)))); have n1_ := Aside0.mk (blk_below (bz_ BK151.out) hb); have n2_ := Aside0.mk (below_step (by repeat (first | (with_reducible first | exact HB.out | apply below_alloc | apply pw_below_drewN | apply below_drew1 | refine below_set ?_ GE151.out) | exact HB.out)) hb); clear BK151; clear HB; have HO154 := n0_; have BK151 := n1_; have HB := n2_; clear n0_ n1_ n2_; clear hb ho7; have hcz8_0 : w6.cell? ⟨gb151, 0, none⟩ = some (.slice A0_0 l0_0.length c0_0) := (blk_cell BK151.out 0).trans rfl; have hcz8_1 : w6.cell? ⟨gb151, 1, none⟩ = some (.slice A0_1 l0_1.length c0_1) := (blk_cell BK151.out 1).trans rfl; have hfz8_0 := blk_frozen BK151.out 0; have hfz8_1 := blk_frozen BK151.out 1) | ((with_reducible refine gate_callee (f := 78) rfl ?_); refine goesL_ (some 13) rfl rfl Try.func78 (by kernel_rfl) rfl #[.agg #[.slice A0_0 l0_0.length c0_0, .slice A0_1 l0_1.length c0_1]] rfl (by (try simp only [List.map_toArray, List.map_cons, List.map_nil]); first | done | rfl | (simp only [List.length_drop, List.length_take]; rfl)) ?_; (with_reducible refine (spec_l5Good.calls k _ _ l0_0 _ _ l0_1 true _ ?side1 ?side2 ?side3 ?side4 A2.out).mono ?_); (case side1 => exact cz_ (Kd.C_below HR0_0.out HB.out)); (case side2 => exact HC0_0.out); (case side3 => exact cz_ (Kd.C_below HR0_1.out HB.out)); (case side4 => exact HC0_1.out); rintro e w9 ⟨rfl, hb⟩; refine ⟨_, rfl, ?_⟩; have n0_ := Aside0.mk (Kd.R_below (rz_ HO154.out) hb); have n1_ := Aside0.mk (blk_below (bz_ BK151.out) hb); have n2_ := Aside0.mk (below_step (by repeat (first | (with_reducible first | exact HB.out | apply below_alloc | apply pw_below_drewN | apply below_drew1 | refine below_set ?_ GE151.out) | exact HB.out)) hb); clear HO154; clear BK151; clear HB; have HO154 := n0_; have BK151 := n1_; have HB := n2_; clear n0_ n1_ n2_; (try clear hb); (try clear hb2); (try clear hk); (try clear hi); have hcz10_0 : w9.cell? ⟨gb151, 0, none⟩ = some (.slice A0_0 l0_0.length c0_0) := (blk_cell BK151.out 0).trans rfl; have hcz10_1 : w9.cell? ⟨gb151, 1, none⟩ = some (.slice A0_1 l0_1.length c0_1) := (blk_cell BK151.out 1).trans rfl; have hfz10_0 := blk_frozen BK151.out 0; have hfz10_1 := blk_frozen BK151.out 1) | ((with_reducible refine gate_callee (f := 89) rfl ?_); refine goesL_ (some 17) rfl rfl Try.func89 (by kernel_rfl) rfl #[.agg #[.slice A0_0 l0_0.length c0_0, .slice A0_1 l0_1.length c0_1]] rfl (by (try simp only [List.map_toArray, List.map_cons, List.map_nil]); first | done | rfl | (simp only [List.length_drop, List.length_take]; rfl)) ?_; (with_reducible refine (spec_l5Heights.calls k _ _ l0_0 _ _ l0_1 t156 _ ?side1 ?side2 ?side3 ?side4 A4.out).mono ?_); (case side1 => exact cz_ (Kd.C_below HR0_0.out HB.out)); (case side2 => exact HC0_0.out); (case side3 => exact cz_ (Kd.C_below HR0_1.out HB.out)); (case side4 => exact HC0_1.out); rintro e w11 ⟨v157, rfl, ho0, hb⟩; refine ⟨_, rfl, ?_⟩; have n0_ := Aside0.mk (Kd.R_elder' (rz_ HO154.out) (Kd.R_base ho0) hb); have n1_ := Aside0.mk (Kd.R_lower (Kd.R_new' ho0 (Kd.R_lt (rz_ HO154.out))) (below_size (by repeat (first | (with_reducible first | exact HB.out | apply below_alloc | apply pw_below_drewN | apply below_drew1 | refine below_set ?_ GE151.out) | exact HB.out)))); have n2_ := Aside0.mk (blk_below (bz_ BK151.out) hb); have n3_ := Aside0.mk (below_step (by repeat (first | (with_reducible first | exact HB.out | apply below_alloc | apply pw_below_drewN | apply below_drew1 | refine below_set ?_ GE151.out) | exact HB.out)) hb); clear HO154; clear BK151; clear HB; have HO154 := n0_; have HO158 := n1_; have BK151 := n2_; have HB := n3_; clear n0_ n1_ n2_ n3_; (try clear hb); (try clear hb2); (try clear hk); (try clear hi); (try clear ho0)))
  go_loopg [6, 7] k (fun kq v6 v7 w' => ∃ (x6_1 : Int) (x7_1 : Int), v6 = .int .i64 x6_1 ∧ v7 = .int .i64 x7_1 ∧ Aside0 (spec_LongestChain.l0 kq y152 t156 x6_1 x7_1 l0_0 l0_1 = some (r1, r2)) ∧ Aside0 (kq ≤ k) ∧ Aside0 (Kd.R (Kd.int .i64) 3 w' w.heap.size (fun k_ => some k_ ≠ (v157 : Value).ownBlock) v153 y152) ∧ Aside0 (Kd.R (Kd.int .i64) 3 w' w.heap.size (fun k_ => some k_ ≠ (v153 : Value).ownBlock) v157 t156) ∧ Aside0 (w'.heap[gb151]? = some (.cells #[(.slice A0_0 l0_0.length c0_0), (.slice A0_1 l0_1.length c0_1)] 33 (0, 0))) ∧ Aside0 (Below w.heap.size w w'))
  case atStart => exact ⟨((-1)), (0), (by first | rfl | (simp; done) | (simp [*]; done)), (by first | rfl | (simp; done) | (simp [*]; done)), H', ⟨Nat.le_refl _⟩, ⟨rz_ (Kd.R_mono HO154.out (fun _ hk => hk.2))⟩, ⟨rz_ (Kd.R_mono HO158.out (fun _ hk => hk.2))⟩, ⟨bz_ BK151.out⟩, ⟨by repeat (first | (with_reducible first | exact HB.out | apply below_alloc | apply pw_below_drewN | apply below_drew1 | refine below_set ?_ GE151.out) | exact HB.out)⟩⟩
  case round =>
   clear H'
   try clear p2
   try clear c3
   try clear c4
   try clear c7
   try clear c8
   try clear hcz10_0
   try clear hcz10_1
   try clear hcz8_0
   try clear hcz8_1
   try clear hfz10_0
   try clear hfz10_1
   try clear hfz8_0
   try clear hfz8_1
   obtain ⟨x6_1, x7_1, rfl, rfl, HA, HK1, HO_4, HO_5, BK151, HB⟩ := hrel
   cases gk with
   | zero => exact absurd HA.out (by simp [spec_LongestChain.l0])
   | succ k1 =>
    have H := HA.out
    clear HA
    simp only [spec_LongestChain.l0] at H
    by_cases c12 : x7_1 < (t156.length : Int)
    ·rw [if_pos c12] at H
     have c12b0 : decide (x7_1 < (t156.length : Int)) = true := decide_eq_true c12
     clear c12
     by_cases c13 : x6_1 < 0
     ·rw [if_pos c13] at H
      have c13b0 : decide (x6_1 < 0) = true := decide_eq_true c13
      clear c13
      have H' := Aside0.mk H
      clear H
      obtain ⟨Ao14, co14, eo14⟩ := Kd.R_slice HO_5.out
      subst eo14
      try go_wp2
      have n0_ := Aside0.mk (Kd.R_drew HO_4.out)
      have n1_ := Aside0.mk (Kd.R_drew HO_5.out)
      have n2_ := Aside0.mk (blk_drew BK151.out)
      have n3_ := Aside0.mk (below_drew1 HB.out)
      clear HO_4
      clear HO_5
      clear BK151
      clear HB
      have HO_4 := n0_
      have HO_5 := n1_
      have BK151 := n2_
      have HB := n3_
      clear n0_ n1_ n2_ n3_
      refine start_ (n := 13) (S := fun w' => True) (ds := []) #[false, false, false, false, false, false, false, false, false, false, false, false, false] (by kernel_rfl) rfl rfl trivial (fun hHeld => ?_); refine with_tabW spec_LongestChain.tab9 spec_LongestChain.bits9 (fun HT_ HW_ => ?_)
      generalize wr.drew = w15 at HO_4 HO_5 BK151 HB hHeld ⊢
      refine pA_ 0 (some 24) (bl 1 13) HT_.out (h := ?_)
      refine pA_ 1 (some 25) (bl 2 13) HT_.out (h := ?_)
      refine pA_ 2 (some 26) (bl 3 13) HT_.out (h := ?_)
      refine pO_ 3 (some 27) (bl 4 13) HT_.out (h := ?_)
      refine pO_ 4 (some 28) (bl 5 13) HT_.out (h := ?_)
      refine pO_ 5 (some 29) (bl 6 13) HT_.out (h := ?_)
      refine pO_ 6 (some 30) (bl 7 13) HT_.out (h := ?_)
      refine pO_ 7 (some 31) (bl 8 13) HT_.out (h := ?_)
      refine pO_ 8 (some 32) (bl 9 13) HT_.out (h := ?_)
      refine pO_ 9 (some 33) (bl 10 13) HT_.out (h := ?_)
      refine pO_ 10 (some 34) (bl 11 13) HT_.out (h := ?_)
      refine pO_ 11 (some 35) (bl 12 13) HT_.out (h := ?_)
      refine pA_ 12 (some 36) (bl 13 13) HT_.out (h := ?_)
      refine done_ (done_of HT_.out (by kernel_rfl)) ?_
      try go_wp2
      go_roundg k1
      case measure => have := HK1.out; omega
      case rel => exact ⟨(x7_1), (wrap64 (x7_1 + 1)), (by first | rfl | (simp; done) | (simp [*]; done)), (by first | rfl | (simp; done) | (simp [*]; done)), H', ⟨by have := HK1.out; omega⟩, ⟨rz_ HO_4.out⟩, ⟨rz_ HO_5.out⟩, ⟨bz_ BK151.out⟩, ⟨by repeat (first | (with_reducible first | exact HB.out | apply below_alloc | apply pw_below_drewN | apply below_drew1 | refine below_set ?_ GE151.out) | exact HB.out)⟩⟩
     ·rw [if_neg c13] at H
      have c13b0 : decide (x6_1 < 0) = false := decide_eq_false c13
      clear c13
      by_cases c16 : 0 ≤ x7_1
      ·rw [if_pos c16] at H
       have c16b0 : decide (0 ≤ x7_1) = true := decide_eq_true c16
       clear c16
       by_cases c17 : 0 ≤ x6_1
       ·rw [if_pos c17] at H
        have c17b0 : decide (0 ≤ x6_1) = true := decide_eq_true c17
        clear c17
        by_cases c18 : x6_1 < (t156.length : Int)
        ·rw [if_pos c18] at H
         have c18b0 : decide (x6_1 < (t156.length : Int)) = true := decide_eq_true c18
         clear c18
         by_cases c19 : (rd t156 x7_1) > (rd t156 x6_1)
         ·rw [if_pos c19] at H
          have c19b0 : decide ((rd t156 x6_1) < (rd t156 x7_1)) = true := decide_eq_true c19
          clear c19
          have H' := Aside0.mk H
          clear H
          obtain ⟨Ao20, co20, eo20⟩ := Kd.R_slice HO_5.out
          subst eo20
          try go_wp2
          have n0_ := Aside0.mk (Kd.R_drew HO_4.out)
          have n1_ := Aside0.mk (Kd.R_drew HO_5.out)
          have n2_ := Aside0.mk (blk_drew BK151.out)
          have n3_ := Aside0.mk (below_drew1 HB.out)
          clear HO_4
          clear HO_5
          clear BK151
          clear HB
          have HO_4 := n0_
          have HO_5 := n1_
          have BK151 := n2_
          have HB := n3_
          clear n0_ n1_ n2_ n3_
          have p159 : 0 ≤ (x7_1 : Int) := of_decide_eq_true (by first | (with_reducible assumption) | assumption)
          have q159 : x7_1 < (t156.length : Int) := of_decide_eq_true (by first | (with_reducible assumption) | assumption)
          obtain ⟨ad159, e159, hx159_0⟩ := Kd.at_int (Kd.R_reads' HO_5.out).2.2 x7_1 p159 q159
          cases e159
          replace p159 := eq_true p159
          replace q159 := eq_true q159
          have p160 : 0 ≤ (x6_1 : Int) := of_decide_eq_true (by first | (with_reducible assumption) | assumption)
          have q160 : x6_1 < (t156.length : Int) := of_decide_eq_true (by first | (with_reducible assumption) | assumption)
          obtain ⟨ad160, e160, hx160_0⟩ := Kd.at_int (Kd.R_reads' HO_5.out).2.2 x6_1 p160 q160
          obtain rfl : ad159 = ad160 := (by injection e160)
          replace p160 := eq_true p160
          replace q160 := eq_true q160
          refine start_ (n := 13) (S := fun w' => w'.cell? (ad159.add (x7_1).toNat) = some (.int .i64 (rd t156 x7_1)) ∧ w'.cell? (ad159.add (x6_1).toNat) = some (.int .i64 (rd t156 x6_1))) (ds := []) #[false, false, false, false, false, false, false, false, false, false, false, false, false] (by kernel_rfl) rfl rfl ⟨hx159_0, hx160_0⟩ (fun hHeld => ?_); refine with_tabW spec_LongestChain.tab9 spec_LongestChain.bits9 (fun HT_ HW_ => ?_)
          generalize wr.drew = w21 at HO_4 HO_5 BK151 HB hx159_0 hx160_0 hHeld ⊢
          refine pA_ 0 (some 24) (bl 1 13) HT_.out (h := ?_)
          refine pA_ 1 (some 25) (bl 2 13) HT_.out (h := ?_)
          refine pA_ 2 (some 26) (bl 3 13) HT_.out (h := ?_)
          refine pA_ 3 (some 27) (bl 4 13) HT_.out (h := ?_)
          refine pA_ 4 (some 28) (bl 5 13) HT_.out (h := ?_)
          refine pA_ 5 (some 29) (bl 6 13) HT_.out (h := ?_)
          refine pA_ 7 (some 31) #[true, true, true, true, true, true, false, true, false, false, false, false, false] HT_.out (h := ?_)
          refine pA_ 8 (some 32) #[true, true, true, true, true, true, false, true, true, false, false, false, false] HT_.out (h := ?_)
          refine pA_ 9 (some 33) #[true, true, true, true, true, true, false, true, true, true, false, false, false] HT_.out (h := ?_)
          refine tA_ 6 (some 30) (bl 10 13) HT_.out HW_.out hHeld (h := ?_)
          refine tA_ 10 (some 34) (bl 11 13) HT_.out HW_.out hHeld (h := ?_)
          refine pA_ 11 (some 35) (bl 12 13) HT_.out (h := ?_)
          refine pA_ 12 (some 36) (bl 13 13) HT_.out (h := ?_)
          refine done_ (done_of HT_.out (by kernel_rfl)) ?_
          try go_wp2
          go_roundg k1
          case measure => have := HK1.out; omega
          case rel => exact ⟨(x7_1), (wrap64 (x7_1 + 1)), (by first | rfl | (simp; done) | (simp [*]; done)), (by first | rfl | (simp; done) | (simp [*]; done)), H', ⟨by have := HK1.out; omega⟩, ⟨rz_ HO_4.out⟩, ⟨rz_ HO_5.out⟩, ⟨bz_ BK151.out⟩, ⟨by repeat (first | (with_reducible first | exact HB.out | apply below_alloc | apply pw_below_drewN | apply below_drew1 | refine below_set ?_ GE151.out) | exact HB.out)⟩⟩
         ·rw [if_neg c19] at H
          have c19b0 : decide ((rd t156 x6_1) < (rd t156 x7_1)) = false := decide_eq_false c19
          clear c19
          have H' := Aside0.mk H
          clear H
          obtain ⟨Ao22, co22, eo22⟩ := Kd.R_slice HO_5.out
          subst eo22
          try go_wp2
          have n0_ := Aside0.mk (Kd.R_drew HO_4.out)
          have n1_ := Aside0.mk (Kd.R_drew HO_5.out)
          have n2_ := Aside0.mk (blk_drew BK151.out)
          have n3_ := Aside0.mk (below_drew1 HB.out)
          clear HO_4
          clear HO_5
          clear BK151
          clear HB
          have HO_4 := n0_
          have HO_5 := n1_
          have BK151 := n2_
          have HB := n3_
          clear n0_ n1_ n2_ n3_
          have p159 : 0 ≤ (x7_1 : Int) := of_decide_eq_true (by first | (with_reducible assumption) | assumption)
          have q159 : x7_1 < (t156.length : Int) := of_decide_eq_true (by first | (with_reducible assumption) | assumption)
          obtain ⟨ad159, e159, hx159_0⟩ := Kd.at_int (Kd.R_reads' HO_5.out).2.2 x7_1 p159 q159
          cases e159
          replace p159 := eq_true p159
          replace q159 := eq_true q159
          have p160 : 0 ≤ (x6_1 : Int) := of_decide_eq_true (by first | (with_reducible assumption) | assumption)
          have q160 : x6_1 < (t156.length : Int) := of_decide_eq_true (by first | (with_reducible assumption) | assumption)
          obtain ⟨ad160, e160, hx160_0⟩ := Kd.at_int (Kd.R_reads' HO_5.out).2.2 x6_1 p160 q160
          obtain rfl : ad159 = ad160 := (by injection e160)
          replace p160 := eq_true p160
          replace q160 := eq_true q160
          refine start_ (n := 13) (S := fun w' => w'.cell? (ad159.add (x7_1).toNat) = some (.int .i64 (rd t156 x7_1)) ∧ w'.cell? (ad159.add (x6_1).toNat) = some (.int .i64 (rd t156 x6_1))) (ds := []) #[false, false, false, false, false, false, false, false, false, false, false, false, false] (by kernel_rfl) rfl rfl ⟨hx159_0, hx160_0⟩ (fun hHeld => ?_); refine with_tabW spec_LongestChain.tab9 spec_LongestChain.bits9 (fun HT_ HW_ => ?_)
          generalize wr.drew = w23 at HO_4 HO_5 BK151 HB hx159_0 hx160_0 hHeld ⊢
          refine pA_ 0 (some 24) (bl 1 13) HT_.out (h := ?_)
          refine pA_ 1 (some 25) (bl 2 13) HT_.out (h := ?_)
          refine pA_ 2 (some 26) (bl 3 13) HT_.out (h := ?_)
          refine pA_ 3 (some 27) (bl 4 13) HT_.out (h := ?_)
          refine pA_ 4 (some 28) (bl 5 13) HT_.out (h := ?_)
          refine pA_ 5 (some 29) (bl 6 13) HT_.out (h := ?_)
          refine pA_ 7 (some 31) #[true, true, true, true, true, true, false, true, false, false, false, false, false] HT_.out (h := ?_)
          refine pA_ 8 (some 32) #[true, true, true, true, true, true, false, true, true, false, false, false, false] HT_.out (h := ?_)
          refine pA_ 9 (some 33) #[true, true, true, true, true, true, false, true, true, true, false, false, false] HT_.out (h := ?_)
          refine tA_ 6 (some 30) (bl 10 13) HT_.out HW_.out hHeld (h := ?_)
          refine tA_ 10 (some 34) (bl 11 13) HT_.out HW_.out hHeld (h := ?_)
          refine pA_ 11 (some 35) (bl 12 13) HT_.out (h := ?_)
          refine pA_ 12 (some 36) (bl 13 13) HT_.out (h := ?_)
          refine done_ (done_of HT_.out (by kernel_rfl)) ?_
          try go_wp2
          go_roundg k1
          case measure => have := HK1.out; omega
          case rel => exact ⟨(x6_1), (wrap64 (x7_1 + 1)), (by first | rfl | (simp; done) | (simp [*]; done)), (by first | rfl | (simp; done) | (simp [*]; done)), H', ⟨by have := HK1.out; omega⟩, ⟨rz_ HO_4.out⟩, ⟨rz_ HO_5.out⟩, ⟨bz_ BK151.out⟩, ⟨by repeat (first | (with_reducible first | exact HB.out | apply below_alloc | apply pw_below_drewN | apply below_drew1 | refine below_set ?_ GE151.out) | exact HB.out)⟩⟩
        ·rw [if_neg c18] at H
         exact absurd H (by simp)
       ·rw [if_neg c17] at H
        exact absurd H (by simp)
      ·rw [if_neg c16] at H
       exact absurd H (by simp)
    ·rw [if_neg c12] at H
     have c12b0 : decide (x7_1 < (t156.length : Int)) = false := decide_eq_false c12
     clear c12
     have H' := Aside0.mk H
     clear H
     obtain ⟨Ao24, co24, eo24⟩ := Kd.R_slice HO_5.out
     subst eo24
     go_wp2
     go_loopg [4, 6] k1 (fun kq v4 v6 w' => ∃ (x4_2 : List Int) (x6_2 : Int), v6 = .int .i64 x6_2 ∧ Aside0 (spec_LongestChain.l1 kq x4_2 t156 x6_2 l0_0 l0_1 = some (r1, r2)) ∧ Aside0 (kq ≤ k1) ∧ Aside0 (Kd.R (Kd.int .i64) 3 w' w.heap.size (fun k_ => some k_ ≠ ((.slice Ao24 t156.length co24) : Value).ownBlock) v4 x4_2) ∧ Aside0 (Kd.R (Kd.int .i64) 3 w' w.heap.size (fun k_ => some k_ ≠ (v4 : Value).ownBlock) (.slice Ao24 t156.length co24) t156) ∧ Aside0 (w'.heap[gb151]? = some (.cells #[(.slice A0_0 l0_0.length c0_0), (.slice A0_1 l0_1.length c0_1)] 33 (0, 0))) ∧ Aside0 (Below w.heap.size w w'))
     case atStart => exact ⟨(y152), (x6_1), (by first | rfl | (simp; done) | (simp [*]; done)), H', ⟨Nat.le_refl _⟩, ⟨rz_ HO_4.out⟩, ⟨rz_ HO_5.out⟩, ⟨bz_ BK151.out⟩, ⟨by repeat (first | (with_reducible first | exact HB.out | apply below_alloc | apply pw_below_drewN | apply below_drew1 | refine below_set ?_ GE151.out) | exact HB.out)⟩⟩
     case round =>
      clear H'
      try clear c1
      try clear p1
      try clear q1
      try clear hx1
      try clear p2
      try clear c3
      try clear c4
      try clear p6
      try clear c7
      try clear c8
      try clear c12
      try clear c12b0
      try clear c13
      try clear c13b0
      try clear p15
      try clear q15
      try clear hx15
      try clear c16
      try clear c16b0
      try clear p16
      try clear q16
      try clear hx16
      try clear c17
      try clear c17b0
      try clear c18
      try clear c18b0
      try clear c19
      try clear c19b0
      try clear hcz10_0
      try clear hcz10_1
      try clear hcz8_0
      try clear hcz8_1
      try clear hfz10_0
      try clear hfz10_1
      try clear hfz8_0
      try clear hfz8_1
      try clear hx159_0
      try clear hx160_0
      try clear p159
      try clear p160
      try clear p2
      try clear q159
      try clear q160
      obtain ⟨x4_2, x6_2, rfl, HA, HK2, HO_4, HO_5, BK151, HB⟩ := hrel
      cases gk with
      | zero => exact absurd HA.out (by simp [spec_LongestChain.l1])
      | succ k2 =>
       have H := HA.out
       clear HA
       simp only [spec_LongestChain.l1] at H
       by_cases c25 : x6_2 ≥ 0
       ·rw [if_pos c25] at H
        have c25b0 : decide (0 ≤ x6_2) = true := decide_eq_true c25
        clear c25
        by_cases c26 : 0 ≤ x6_2
        ·rw [if_pos c26] at H
         have c26b0 : decide (0 ≤ x6_2) = true := decide_eq_true c26
         clear c26
         by_cases c27 : x6_2 < (l0_0.length : Int)
         ·rw [if_pos c27] at H
          have c27b0 : decide (x6_2 < (l0_0.length : Int)) = true := decide_eq_true c27
          clear c27
          by_cases c28 : x4_2.length < 17592186044416
          ·rw [if_pos c28] at H
           have LMc28 := Aside0.mk c28
           clear c28
           obtain ⟨y162, hy162⟩ : ∃ y_ : List Int, y_ = (x4_2 ++ [(rd_T86 l0_0 x6_2).f0]) := ⟨_, rfl⟩
           replace H : (spec_LongestChain.l2 k2 y162 t156 x6_2 (-1) (wrap64 ((l0_1.length : Int) - 1)) l0_0 l0_1) = some (r1, r2) := by first | (rw [hy162]; with_reducible exact H) | (have H2_ := (Option.bind_some _ _).symm.trans H; rw [hy162]; with_reducible exact H2_) | (have H2_ := (Option.bind_some _ _).symm.trans H; with_reducible exact H2_) | with_reducible exact H | (rw [hy162]; exact H) | exact H
           have Ny162 := Aside0.mk hy162
           clear hy162
           have H' := Aside0.mk H
           clear H
           have hcz29_0 : wr.cell? ⟨gb151, 0, none⟩ = some (.slice A0_0 l0_0.length c0_0) := (blk_cell BK151.out 0).trans rfl
           have hcz29_1 : wr.cell? ⟨gb151, 1, none⟩ = some (.slice A0_1 l0_1.length c0_1) := (blk_cell BK151.out 1).trans rfl
           have hfz29_0 := blk_frozen BK151.out 0
           have hfz29_1 := blk_frozen BK151.out 1
           have p161 : 0 ≤ (x6_2 : Int) := of_decide_eq_true (by first | (with_reducible assumption) | assumption)
           have q161 : x6_2 < (l0_0.length : Int) := of_decide_eq_true (by first | (with_reducible assumption) | assumption)
           obtain ⟨ad161, e161, hx161_0, hx161_1⟩ := at_T86 HR0_0.out x6_2 p161 q161
           cases e161
           replace hx161_0 := (HB.out.cell (World.block_lt_of_cell? w _ hx161_0)).trans hx161_0
           replace hx161_1 := (HB.out.cell (World.block_lt_of_cell? w _ hx161_1)).trans hx161_1
           replace p161 := eq_true p161
           replace q161 := eq_true q161
           go_wp2_with (first | ((with_reducible refine gate_builtin (b := .append) (xs := #[.tmp 40, .tmp 47]) rfl ?_); at_builtin; refine Kd.R_append (Kd.int .i64) (w0 := w) w.heap.size rfl (.tmp 40) (.tmp 47) 27 3 (.int .i64 0) 8 rfl Try.underlying27 info3 rfl (by decide) (by omega) u4 x4_2 ((rd_T86 l0_0 x6_2).f0) [.int .i64 ((rd_T86 l0_0 x6_2).f0)] (fun k_ => some k_ ≠ (.slice Ao24 t156.length co24 : Value).ownBlock) (fun _ => False) rfl rfl ?aP (fun _ hk => hk.elim) ?aF ?aO ?aB ?aS ?aL ?_; (case aP => exact rfl); (case aB => exact (by repeat (first | (with_reducible first | exact HB.out | apply below_alloc | apply pw_below_drewN | apply below_drew1 | refine below_set ?_ GE151.out) | exact HB.out))); (case aF => exact (fun k_ hk => Kd.fresh' (Kd.R_lt (rz_ HO_5.out)) k_ hk)); (case aO => exact (rz_ HO_4.out)); (case aS => exact (below_size (by repeat (first | (with_reducible first | exact HB.out | apply below_alloc | apply pw_below_drewN | apply below_drew1 | refine below_set ?_ GE151.out) | exact HB.out)))); (case aL => have := LMc28.out; omega); intro v163 w30 ho hb hg hat; rw [← Ny162.out] at ho; have n0_ := Aside0.mk (Kd.R_after (ok := (fun _ => True)) (rz_ (Kd.R_mono HO_5.out (fun _ hk => ⟨trivial, hk⟩))) hg hat); have n1_ := Aside0.mk (blk_grown (g := gb151) (o := .cells #[.slice (some ad161) l0_0.length c0_0, .slice A0_1 l0_1.length c0_1] 33 (0, 0)) (bz_ BK151.out) hg (Kd.R_ne HO_4.out BK151.out (by decide))); have n2_ := Aside0.mk (hb); have n3_ := Aside0.mk (ho); clear HO_5; clear BK151; clear HB; clear HO_4; have HO_5 := n0_; have BK151 := n1_; have HB := n2_; have HO164 := n3_; clear n0_ n1_ n2_ n3_; clear ho hb hg hat; have hcz31_0 : w30.cell? ⟨gb151, 0, none⟩ = some (.slice (some ad161) l0_0.length c0_0) := (blk_cell BK151.out 0).trans rfl; have hcz31_1 : w30.cell? ⟨gb151, 1, none⟩ = some (.slice A0_1 l0_1.length c0_1) := (blk_cell BK151.out 1).trans rfl; have hfz31_0 := blk_frozen BK151.out 0; have hfz31_1 := blk_frozen BK151.out 1))
           go_loopg [8, 9] k2 (fun kq v8 v9 w' => ∃ (x8_3 : Int) (x9_3 : Int), v8 = .int .i64 x8_3 ∧ v9 = .int .i64 x9_3 ∧ Aside0 (spec_LongestChain.l2 kq y162 t156 x6_2 x8_3 x9_3 l0_0 l0_1 = some (r1, r2)) ∧ Aside0 (kq ≤ k2) ∧ Aside0 (Kd.R (Kd.int .i64) 3 w' w.heap.size (fun k_ => some k_ ≠ ((.slice Ao24 t156.length co24) : Value).ownBlock) v163 y162) ∧ Aside0 (Kd.R (Kd.int .i64) 3 w' w.heap.size (fun k_ => some k_ ≠ (v163 : Value).ownBlock) (.slice Ao24 t156.length co24) t156) ∧ Aside0 (w'.heap[gb151]? = some (.cells #[(.slice (some ad161) l0_0.length c0_0), (.slice A0_1 l0_1.length c0_1)] 33 (0, 0))) ∧ Aside0 (Below w.heap.size w w'))
           case atStart => exact ⟨((-1)), (wrap64 ((l0_1.length : Int) - 1)), (by first | rfl | (simp; done) | (simp [*]; done)), (by first | rfl | (simp; done) | (simp [*]; done)), H', ⟨Nat.le_refl _⟩, ⟨rz_ HO164.out⟩, ⟨rz_ (Kd.R_mono HO_5.out (fun _ hk => hk.2))⟩, ⟨bz_ BK151.out⟩, ⟨by repeat (first | (with_reducible first | exact HB.out | apply below_alloc | apply pw_below_drewN | apply below_drew1 | refine below_set ?_ GE151.out) | exact HB.out)⟩⟩
           case round =>
            clear H'
            try clear c1
            try clear p1
            try clear q1
            try clear hx1
            try clear c2
            try clear p2
            try clear c3
            try clear c4
            try clear p6
            try clear c7
            try clear c8
            try clear c12
            try clear c12b0
            try clear c13
            try clear c13b0
            try clear p15
            try clear q15
            try clear hx15
            try clear c16
            try clear c16b0
            try clear p16
            try clear q16
            try clear hx16
            try clear c17
            try clear c17b0
            try clear c18
            try clear c18b0
            try clear c19
            try clear c19b0
            try clear c25
            try clear c25b0
            try clear c26
            try clear c26b0
            try clear c27
            try clear c27b0
            try clear c28
            try clear hcz10_0
            try clear hcz10_1
            try clear hcz29_0
            try clear hcz29_1
            try clear hcz31_0
            try clear hcz31_1
            try clear hcz8_0
            try clear hcz8_1
            try clear hfz10_0
            try clear hfz10_1
            try clear hfz29_0
            try clear hfz29_1
            try clear hfz31_0
            try clear hfz31_1
            try clear hfz8_0
            try clear hfz8_1
            try clear hx159_0
            try clear hx160_0
            try clear hx161_0
            try clear hx161_1
            try clear p1
            try clear p15
            try clear p159
            try clear p16
            try clear p160
            try clear p161
            try clear p2
            try clear p6
            try clear q1
            try clear q15
            try clear q159
            try clear q16
            try clear q160
            try clear q161
            obtain ⟨x8_3, x9_3, rfl, rfl, HA, HK3, HO_4, HO_5, BK151, HB⟩ := hrel
            cases gk with
            | zero => exact absurd HA.out (by simp [spec_LongestChain.l2])
            | succ k3 =>
             have H := HA.out
             clear HA
             simp only [spec_LongestChain.l2] at H
             by_cases c32 : x9_3 ≥ 0
             ·rw [if_pos c32] at H
              have c32b0 : decide (0 ≤ x9_3) = true := decide_eq_true c32
              clear c32
              by_cases c33 : 0 ≤ x9_3
              ·rw [if_pos c33] at H
               have c33b0 : decide (0 ≤ x9_3) = true := decide_eq_true c33
               clear c33
               by_cases c34 : x9_3 < (l0_1.length : Int)
               ·rw [if_pos c34] at H
                have c34b0 : decide (x9_3 < (l0_1.length : Int)) = true := decide_eq_true c34
                clear c34
                replace H := Option.bind_eq_some_iff.mp H
                obtain ⟨t166, A350, H⟩ := H
                replace H : (if 0 ≤ x6_2 then (if x6_2 < (l0_0.length : Int) then (if ((rd_T95 l0_1 x9_3).f0) = ((rd_T86 l0_0 x6_2).f0) then (if 0 ≤ t166 then (if t166 < (t156.length : Int) then (if x6_2 < (t156.length : Int) then (if (rd t156 t166) = (wrap64 ((rd t156 x6_2) - 1)) then (spec_LongestChain.l2 k3 y162 t156 x6_2 t166 (wrap64 (x9_3 - 1)) l0_0 l0_1) else (spec_LongestChain.l2 k3 y162 t156 x6_2 x8_3 (wrap64 (x9_3 - 1)) l0_0 l0_1)) else (none)) else (none)) else (none)) else (spec_LongestChain.l2 k3 y162 t156 x6_2 x8_3 (wrap64 (x9_3 - 1)) l0_0 l0_1)) else (none)) else (none)) = some (r1, r2) := H
                have A35 := Aside0.mk A350
                clear A350
                by_cases c36 : 0 ≤ x6_2
                ·rw [if_pos c36] at H
                 have c36b0 : decide (0 ≤ x6_2) = true := decide_eq_true c36
                 clear c36
                 by_cases c37 : x6_2 < (l0_0.length : Int)
                 ·rw [if_pos c37] at H
                  have c37b0 : decide (x6_2 < (l0_0.length : Int)) = true := decide_eq_true c37
                  clear c37
                  by_cases c38 : ((rd_T95 l0_1 x9_3).f0) = ((rd_T86 l0_0 x6_2).f0)
                  ·rw [if_pos c38] at H
                   have c38b0 : (((rd_T95 l0_1 x9_3).f0) == ((rd_T86 l0_0 x6_2).f0)) = true := beq_iff_eq.mpr c38
                   have c38b1 : (((rd_T95 l0_1 x9_3).f0) != ((rd_T86 l0_0 x6_2).f0)) = false := bne_eq_false_iff_eq.mpr c38
                   clear c38
                   by_cases c39 : 0 ≤ t166
                   ·rw [if_pos c39] at H
                    have c39b0 : decide (0 ≤ t166) = true := decide_eq_true c39
                    clear c39
                    by_cases c40 : t166 < (t156.length : Int)
                    ·rw [if_pos c40] at H
                     have c40b0 : decide (t166 < (t156.length : Int)) = true := decide_eq_true c40
                     clear c40
                     by_cases c41 : x6_2 < (t156.length : Int)
                     ·rw [if_pos c41] at H
                      have c41b0 : decide (x6_2 < (t156.length : Int)) = true := decide_eq_true c41
                      clear c41
                      by_cases c42 : (rd t156 t166) = (wrap64 ((rd t156 x6_2) - 1))
                      ·rw [if_pos c42] at H
                       have c42b0 : ((rd t156 t166) == (wrap64 ((rd t156 x6_2) - 1))) = true := beq_iff_eq.mpr c42
                       have c42b1 : ((rd t156 t166) != (wrap64 ((rd t156 x6_2) - 1))) = false := bne_eq_false_iff_eq.mpr c42
                       clear c42
                       have H' := Aside0.mk H
                       clear H
                       try go_wp2
                       have n0_ := Aside0.mk (Kd.R_drew HO_4.out)
                       have n1_ := Aside0.mk (Kd.R_drew HO_5.out)
                       have n2_ := Aside0.mk (blk_drew BK151.out)
                       have n3_ := Aside0.mk (below_drew1 HB.out)
                       clear HO_4
                       clear HO_5
                       clear BK151
                       clear HB
                       have HO_4 := n0_
                       have HO_5 := n1_
                       have BK151 := n2_
                       have HB := n3_
                       clear n0_ n1_ n2_ n3_
                       have p165 : 0 ≤ (x9_3 : Int) := of_decide_eq_true (by first | (with_reducible assumption) | assumption)
                       have q165 : x9_3 < (l0_1.length : Int) := of_decide_eq_true (by first | (with_reducible assumption) | assumption)
                       obtain ⟨ad165, e165, hx165_0, hx165_1⟩ := at_T95 HR0_1.out x9_3 p165 q165
                       have hw165_1 := hx165_1
                       have hw165_0 := hx165_0
                       cases e165
                       replace hx165_0 := (HB.out.cell (World.block_lt_of_cell? w _ hx165_0)).trans hx165_0
                       replace hx165_1 := (HB.out.cell (World.block_lt_of_cell? w _ hx165_1)).trans hx165_1
                       replace p165 := eq_true p165
                       replace q165 := eq_true q165
                       refine start_ (n := 9) (S := fun w' => w'.cell? ⟨gb151, 0, none⟩ = some (.slice (some ad161) l0_0.length c0_0) ∧ w'.cell? ⟨gb151, 1, none⟩ = some (.slice (some ad165) l0_1.length c0_1) ∧ w'.cell? (ad165.add ((x9_3).toNat * 2)) = some (.int .i64 ((rd_T95 l0_1 x9_3).f0)) ∧ w'.cell? ⟨(ad165.add ((x9_3).toNat * 2)).block, (ad165.add ((x9_3).toNat * 2)).off + 1, none⟩ = some (.int .i64 ((rd_T95 l0_1 x9_3).f1))) (ds := []) #[false, false, false, false, false, false, false, false, false] (by kernel_rfl) rfl rfl ⟨(blk_cell BK151.out 0).trans rfl, (blk_cell BK151.out 1).trans rfl, ((HB.out.cell (World.block_lt_of_cell? w _ hw165_0)).trans hw165_0), ((HB.out.cell (World.block_lt_of_cell? w _ hw165_1)).trans hw165_1)⟩ (fun hHeld => ?_); refine with_tabW spec_LongestChain.tab17 spec_LongestChain.bits17 (fun HT_ HW_ => ?_)
                       generalize wr.drew = w43 at HO_4 HO_5 BK151 HB hx165_0 hx165_1 hHeld ⊢
                       refine pA_ 1 (some 58) #[false, true, false, false, false, false, false, false, false] HT_.out (h := ?_)
                       refine pA_ 3 (some 60) #[false, true, false, true, false, false, false, false, false] HT_.out (h := ?_)
                       refine tA_ 0 (some 57) #[true, true, false, true, false, false, false, false, false] HT_.out HW_.out hHeld (h := ?_)
                       refine tA_ 2 (some 59) (bl 4 9) HT_.out HW_.out hHeld (h := ?_)
                       refine pA_ 4 (some 61) (bl 5 9) HT_.out (h := ?_)
                       refine pA_ 5 (some 62) (bl 6 9) HT_.out (h := ?_)
                       refine tA_ 6 (some 63) (bl 7 9) HT_.out HW_.out hHeld (h := ?_)
                       refine one_ (i := 7) (N := some 64) (bl 8 9) rfl rfl (one_of HT_.out (by kernel_rfl)) (by decide) (fun K hK => ?_)
                       refine goes_ Try.func61 (by kernel_rfl) rfl #[.agg #[.slice (some ad161) l0_0.length c0_0, .slice (some ad165) l0_1.length c0_1], .int .i64 ((rd_T95 l0_1 x9_3).f1)] (by rfl) rfl rfl (by (try simp only [List.map_toArray, List.map_cons, List.map_nil]); first | done | rfl | (simp only [List.length_drop, List.length_take]; rfl)) ?_
                       with_reducible refine (spec_l2Find.calls _ _ l0_0 _ _ l0_1 ((rd_T95 l0_1 x9_3).f1) t166 _ ?side1 ?side2 ?side3 ?side4 A35.out).mono ?_
                       (case side1 => exact cz_ (Kd.C_below HR0_0.out HB.out))
                       (case side2 => exact HC0_0.out)
                       (case side3 => exact cz_ (Kd.C_below HR0_1.out HB.out))
                       (case side4 => exact HC0_1.out)
                       rintro e w44 ⟨rfl, hb⟩
                       refine ⟨_, rfl, ?_⟩
                       have n0_ := Aside0.mk (Kd.R_below (rz_ HO_4.out) hb)
                       have n1_ := Aside0.mk (Kd.R_below (rz_ HO_5.out) hb)
                       have n2_ := Aside0.mk (blk_below (bz_ BK151.out) hb)
                       have n3_ := Aside0.mk (below_step (by repeat (first | (with_reducible first | exact HB.out | apply below_alloc | apply pw_below_drewN | apply below_drew1 | refine below_set ?_ GE151.out) | exact HB.out)) hb)
                       clear HO_4
                       clear HO_5
                       clear BK151
                       clear HB
                       have HO_4 := n0_
                       have HO_5 := n1_
                       have BK151 := n2_
                       have HB := n3_
                       clear n0_ n1_ n2_ n3_
                       (try clear hb)
                       (try clear hb2)
                       (try clear hk)
                       (try clear hi)
                       refine hK.out _ _ ⟨(blk_cell BK151.out 0).trans rfl, (blk_cell BK151.out 1).trans rfl, ((HB.out.cell (World.block_lt_of_cell? w _ hw165_0)).trans hw165_0), ((HB.out.cell (World.block_lt_of_cell? w _ hw165_1)).trans hw165_1)⟩ (fun hHeld => ?_)
                       clear hK K
                       refine norm_ (a' := ?_) ?_ ?_
                       rotate_left
                       ·show Act.put _ (some 64) _ = _
                        simp only [Act.put, List.setIfInBounds_toArray, List.set_cons_zero, List.set_cons_succ, i64_w, i32_w]
                        rfl
                       refine pA_ 8 (some 10) (bl 9 9) HT_.out (h := ?_)
                       refine done_ (done_of HT_.out (by kernel_rfl)) ?_
                       try go_wp2
                       have n0_ := Aside0.mk (Kd.R_drew HO_4.out)
                       have n1_ := Aside0.mk (Kd.R_drew HO_5.out)
                       have n2_ := Aside0.mk (blk_drew BK151.out)
                       have n3_ := Aside0.mk (below_drew1 HB.out)
                       clear HO_4
                       clear HO_5
                       clear BK151
                       clear HB
                       have HO_4 := n0_
                       have HO_5 := n1_
                       have BK151 := n2_
                       have HB := n3_
                       clear n0_ n1_ n2_ n3_
                       have p167 : 0 ≤ (x9_3 : Int) := of_decide_eq_true (by first | (with_reducible assumption) | assumption)
                       have q167 : x9_3 < (l0_1.length : Int) := of_decide_eq_true (by first | (with_reducible assumption) | assumption)
                       obtain ⟨ad167, e167, hx167_0, hx167_1⟩ := at_T95 HR0_1.out x9_3 p167 q167
                       have hw167_1 := hx167_1
                       have hw167_0 := hx167_0
                       obtain rfl : ad165 = ad167 := (by injection e167)
                       replace hx167_0 := (HB.out.cell (World.block_lt_of_cell? w _ hx167_0)).trans hx167_0
                       replace hx167_1 := (HB.out.cell (World.block_lt_of_cell? w _ hx167_1)).trans hx167_1
                       replace p167 := eq_true p167
                       replace q167 := eq_true q167
                       have p168 : 0 ≤ (x6_2 : Int) := of_decide_eq_true (by first | (with_reducible assumption) | assumption)
                       have q168 : x6_2 < (l0_0.length : Int) := of_decide_eq_true (by first | (with_reducible assumption) | assumption)
                       obtain ⟨ad168, e168, hx168_0, hx168_1⟩ := at_T86 HR0_0.out x6_2 p168 q168
                       have hw168_1 := hx168_1
                       have hw168_0 := hx168_0
                       obtain rfl : ad161 = ad168 := (by injection e168)
                       replace hx168_0 := (HB.out.cell (World.block_lt_of_cell? w _ hx168_0)).trans hx168_0
                       replace hx168_1 := (HB.out.cell (World.block_lt_of_cell? w _ hx168_1)).trans hx168_1
                       replace p168 := eq_true p168
                       replace q168 := eq_true q168
                       have p169 : 0 ≤ (t166 : Int) := of_decide_eq_true (by first | (with_reducible assumption) | assumption)
                       have q169 : t166 < (t156.length : Int) := of_decide_eq_true (by first | (with_reducible assumption) | assumption)
                       obtain ⟨ad169, e169, hx169_0⟩ := Kd.at_int (Kd.R_reads' HO_5.out).2.2 t166 p169 q169
                       cases e169
                       replace p169 := eq_true p169
                       replace q169 := eq_true q169
                       have p170 : 0 ≤ (x6_2 : Int) := of_decide_eq_true (by first | (with_reducible assumption) | assumption)
                       have q170 : x6_2 < (t156.length : Int) := of_decide_eq_true (by first | (with_reducible assumption) | assumption)
                       obtain ⟨ad170, e170, hx170_0⟩ := Kd.at_int (Kd.R_reads' HO_5.out).2.2 x6_2 p170 q170
                       obtain rfl : ad169 = ad170 := (by injection e170)
                       replace p170 := eq_true p170
                       replace q170 := eq_true q170
                       refine start_ (n := 25) (S := fun w' => w'.cell? ⟨gb151, 0, none⟩ = some (.slice (some ad161) l0_0.length c0_0) ∧ w'.cell? ⟨gb151, 1, none⟩ = some (.slice (some ad165) l0_1.length c0_1) ∧ w'.cell? (ad165.add ((x9_3).toNat * 2)) = some (.int .i64 ((rd_T95 l0_1 x9_3).f0)) ∧ w'.cell? ⟨(ad165.add ((x9_3).toNat * 2)).block, (ad165.add ((x9_3).toNat * 2)).off + 1, none⟩ = some (.int .i64 ((rd_T95 l0_1 x9_3).f1)) ∧ w'.cell? (ad161.add ((x6_2).toNat * 2)) = some (.int .i64 ((rd_T86 l0_0 x6_2).f0)) ∧ w'.cell? ⟨(ad161.add ((x6_2).toNat * 2)).block, (ad161.add ((x6_2).toNat * 2)).off + 1, none⟩ = some (.int .i64 ((rd_T86 l0_0 x6_2).f1)) ∧ w'.cell? (ad169.add (t166).toNat) = some (.int .i64 (rd t156 t166)) ∧ w'.cell? (ad169.add (x6_2).toNat) = some (.int .i64 (rd t156 x6_2))) (ds := []) #[false, false, false, false, false, false, false, false, false, false, false, false, false, false, false, false, false, false, false, false, false, false, false, false, false] (by kernel_rfl) rfl rfl ⟨(blk_cell BK151.out 0).trans rfl, (blk_cell BK151.out 1).trans rfl, ((HB.out.cell (World.block_lt_of_cell? w _ hw167_0)).trans hw167_0), ((HB.out.cell (World.block_lt_of_cell? w _ hw167_1)).trans hw167_1), ((HB.out.cell (World.block_lt_of_cell? w _ hw168_0)).trans hw168_0), ((HB.out.cell (World.block_lt_of_cell? w _ hw168_1)).trans hw168_1), hx169_0, hx170_0⟩ (fun hHeld => ?_); refine with_tabW spec_LongestChain.tab18 spec_LongestChain.bits18 (fun HT_ HW_ => ?_)
                       generalize w44.drew = w45 at HO_4 HO_5 BK151 HB hx167_0 hx167_1 hx168_0 hx168_1 hx169_0 hx170_0 hHeld ⊢
                       refine pA_ 0 (some 65) (bl 1 25) HT_.out (h := ?_)
                       refine pA_ 2 (some 67) #[true, false, true, false, false, false, false, false, false, false, false, false, false, false, false, false, false, false, false, false, false, false, false, false, false] HT_.out (h := ?_)
                       refine pA_ 6 (some 71) #[true, false, true, false, false, false, true, false, false, false, false, false, false, false, false, false, false, false, false, false, false, false, false, false, false] HT_.out (h := ?_)
                       refine pA_ 8 (some 73) #[true, false, true, false, false, false, true, false, true, false, false, false, false, false, false, false, false, false, false, false, false, false, false, false, false] HT_.out (h := ?_)
                       refine tA_ 1 (some 66) #[true, true, true, false, false, false, true, false, true, false, false, false, false, false, false, false, false, false, false, false, false, false, false, false, false] HT_.out HW_.out hHeld (h := ?_)
                       refine pA_ 3 (some 68) #[true, true, true, true, false, false, true, false, true, false, false, false, false, false, false, false, false, false, false, false, false, false, false, false, false] HT_.out (h := ?_)
                       refine pA_ 4 (some 69) #[true, true, true, true, true, false, true, false, true, false, false, false, false, false, false, false, false, false, false, false, false, false, false, false, false] HT_.out (h := ?_)
                       refine tA_ 5 (some 70) #[true, true, true, true, true, true, true, false, true, false, false, false, false, false, false, false, false, false, false, false, false, false, false, false, false] HT_.out HW_.out hHeld (h := ?_)
                       refine tA_ 7 (some 72) (bl 9 25) HT_.out HW_.out hHeld (h := ?_)
                       refine pA_ 9 (some 74) (bl 10 25) HT_.out (h := ?_)
                       refine pA_ 10 (some 75) (bl 11 25) HT_.out (h := ?_)
                       refine tA_ 11 (some 76) (bl 12 25) HT_.out HW_.out hHeld (h := ?_)
                       refine pA_ 12 (some 77) (bl 13 25) HT_.out (h := ?_)
                       refine pA_ 13 (some 78) (bl 14 25) HT_.out (h := ?_)
                       refine pA_ 14 (some 79) (bl 15 25) HT_.out (h := ?_)
                       refine pA_ 15 (some 80) (bl 16 25) HT_.out (h := ?_)
                       refine pA_ 16 (some 81) (bl 17 25) HT_.out (h := ?_)
                       refine pA_ 18 (some 83) #[true, true, true, true, true, true, true, true, true, true, true, true, true, true, true, true, true, false, true, false, false, false, false, false, false] HT_.out (h := ?_)
                       refine pA_ 19 (some 84) #[true, true, true, true, true, true, true, true, true, true, true, true, true, true, true, true, true, false, true, true, false, false, false, false, false] HT_.out (h := ?_)
                       refine pA_ 20 (some 85) #[true, true, true, true, true, true, true, true, true, true, true, true, true, true, true, true, true, false, true, true, true, false, false, false, false] HT_.out (h := ?_)
                       refine tA_ 17 (some 82) (bl 21 25) HT_.out HW_.out hHeld (h := ?_)
                       refine tA_ 21 (some 86) (bl 22 25) HT_.out HW_.out hHeld (h := ?_)
                       refine pA_ 22 (some 87) (bl 23 25) HT_.out (h := ?_)
                       refine pA_ 23 (some 88) (bl 24 25) HT_.out (h := ?_)
                       refine pA_ 24 (some 89) (bl 25 25) HT_.out (h := ?_)
                       refine done_ (done_of HT_.out (by kernel_rfl)) ?_
                       try go_wp2
                       go_roundg k3
                       case measure => have := HK1.out; have := HK2.out; have := HK3.out; omega
                       case rel => exact ⟨(t166), (wrap64 (x9_3 - 1)), (by first | rfl | (simp; done) | (simp [*]; done)), (by first | rfl | (simp; done) | (simp [*]; done)), H', ⟨by have := HK1.out; have := HK2.out; have := HK3.out; omega⟩, ⟨rz_ HO_4.out⟩, ⟨rz_ HO_5.out⟩, ⟨bz_ BK151.out⟩, ⟨by repeat (first | (with_reducible first | exact HB.out | apply below_alloc | apply pw_below_drewN | apply below_drew1 | refine below_set ?_ GE151.out) | exact HB.out)⟩⟩
                      ·rw [if_neg c42] at H
                       have c42b0 : ((rd t156 t166) == (wrap64 ((rd t156 x6_2) - 1))) = false := beq_eq_false_iff_ne.mpr c42
                       have c42b1 : ((rd t156 t166) != (wrap64 ((rd t156 x6_2) - 1))) = true := bne_iff_ne.mpr c42
                       have H' := Aside0.mk H
                       clear H
                       try go_wp2
                       have n0_ := Aside0.mk (Kd.R_drew HO_4.out)
                       have n1_ := Aside0.mk (Kd.R_drew HO_5.out)
                       have n2_ := Aside0.mk (blk_drew BK151.out)
                       have n3_ := Aside0.mk (below_drew1 HB.out)
                       clear HO_4
                       clear HO_5
                       clear BK151
                       clear HB
                       have HO_4 := n0_
                       have HO_5 := n1_
                       have BK151 := n2_
                       have HB := n3_
                       clear n0_ n1_ n2_ n3_
                       have p165 : 0 ≤ (x9_3 : Int) := of_decide_eq_true (by first | (with_reducible assumption) | assumption)
                       have q165 : x9_3 < (l0_1.length : Int) := of_decide_eq_true (by first | (with_reducible assumption) | assumption)
                       obtain ⟨ad165, e165, hx165_0, hx165_1⟩ := at_T95 HR0_1.out x9_3 p165 q165
                       have hw165_1 := hx165_1
                       have hw165_0 := hx165_0
                       cases e165
                       replace hx165_0 := (HB.out.cell (World.block_lt_of_cell? w _ hx165_0)).trans hx165_0
                       replace hx165_1 := (HB.out.cell (World.block_lt_of_cell? w _ hx165_1)).trans hx165_1
                       replace p165 := eq_true p165
                       replace q165 := eq_true q165
                       refine start_ (n := 9) (S := fun w' => w'.cell? ⟨gb151, 0, none⟩ = some (.slice (some ad161) l0_0.length c0_0) ∧ w'.cell? ⟨gb151, 1, none⟩ = some (.slice (some ad165) l0_1.length c0_1) ∧ w'.cell? (ad165.add ((x9_3).toNat * 2)) = some (.int .i64 ((rd_T95 l0_1 x9_3).f0)) ∧ w'.cell? ⟨(ad165.add ((x9_3).toNat * 2)).block, (ad165.add ((x9_3).toNat * 2)).off + 1, none⟩ = some (.int .i64 ((rd_T95 l0_1 x9_3).f1))) (ds := []) #[false, false, false, false, false, false, false, false, false] (by kernel_rfl) rfl rfl ⟨(blk_cell BK151.out 0).trans rfl, (blk_cell BK151.out 1).trans rfl, ((HB.out.cell (World.block_lt_of_cell? w _ hw165_0)).trans hw165_0), ((HB.out.cell (World.block_lt_of_cell? w _ hw165_1)).trans hw165_1)⟩ (fun hHeld => ?_); refine with_tabW spec_LongestChain.tab17 spec_LongestChain.bits17 (fun HT_ HW_ => ?_)
                       generalize wr.drew = w46 at HO_4 HO_5 BK151 HB hx165_0 hx165_1 hHeld ⊢
                       refine pA_ 1 (some 58) #[false, true, false, false, false, false, false, false, false] HT_.out (h := ?_)
                       refine pA_ 3 (some 60) #[false, true, false, true, false, false, false, false, false] HT_.out (h := ?_)
                       refine tA_ 0 (some 57) #[true, true, false, true, false, false, false, false, false] HT_.out HW_.out hHeld (h := ?_)
                       refine tA_ 2 (some 59) (bl 4 9) HT_.out HW_.out hHeld (h := ?_)
                       refine pA_ 4 (some 61) (bl 5 9) HT_.out (h := ?_)
                       refine pA_ 5 (some 62) (bl 6 9) HT_.out (h := ?_)
                       refine tA_ 6 (some 63) (bl 7 9) HT_.out HW_.out hHeld (h := ?_)
                       refine one_ (i := 7) (N := some 64) (bl 8 9) rfl rfl (one_of HT_.out (by kernel_rfl)) (by decide) (fun K hK => ?_)
                       refine goes_ Try.func61 (by kernel_rfl) rfl #[.agg #[.slice (some ad161) l0_0.length c0_0, .slice (some ad165) l0_1.length c0_1], .int .i64 ((rd_T95 l0_1 x9_3).f1)] (by rfl) rfl rfl (by (try simp only [List.map_toArray, List.map_cons, List.map_nil]); first | done | rfl | (simp only [List.length_drop, List.length_take]; rfl)) ?_
                       with_reducible refine (spec_l2Find.calls _ _ l0_0 _ _ l0_1 ((rd_T95 l0_1 x9_3).f1) t166 _ ?side1 ?side2 ?side3 ?side4 A35.out).mono ?_
                       (case side1 => exact cz_ (Kd.C_below HR0_0.out HB.out))
                       (case side2 => exact HC0_0.out)
                       (case side3 => exact cz_ (Kd.C_below HR0_1.out HB.out))
                       (case side4 => exact HC0_1.out)
                       rintro e w47 ⟨rfl, hb⟩
                       refine ⟨_, rfl, ?_⟩
                       have n0_ := Aside0.mk (Kd.R_below (rz_ HO_4.out) hb)
                       have n1_ := Aside0.mk (Kd.R_below (rz_ HO_5.out) hb)
                       have n2_ := Aside0.mk (blk_below (bz_ BK151.out) hb)
                       have n3_ := Aside0.mk (below_step (by repeat (first | (with_reducible first | exact HB.out | apply below_alloc | apply pw_below_drewN | apply below_drew1 | refine below_set ?_ GE151.out) | exact HB.out)) hb)
                       clear HO_4
                       clear HO_5
                       clear BK151
                       clear HB
                       have HO_4 := n0_
                       have HO_5 := n1_
                       have BK151 := n2_
                       have HB := n3_
                       clear n0_ n1_ n2_ n3_
                       (try clear hb)
                       (try clear hb2)
                       (try clear hk)
                       (try clear hi)
                       refine hK.out _ _ ⟨(blk_cell BK151.out 0).trans rfl, (blk_cell BK151.out 1).trans rfl, ((HB.out.cell (World.block_lt_of_cell? w _ hw165_0)).trans hw165_0), ((HB.out.cell (World.block_lt_of_cell? w _ hw165_1)).trans hw165_1)⟩ (fun hHeld => ?_)
                       clear hK K
                       refine norm_ (a' := ?_) ?_ ?_
                       rotate_left
                       ·show Act.put _ (some 64) _ = _
                        simp only [Act.put, List.setIfInBounds_toArray, List.set_cons_zero, List.set_cons_succ, i64_w, i32_w]
                        rfl
                       refine pA_ 8 (some 10) (bl 9 9) HT_.out (h := ?_)
                       refine done_ (done_of HT_.out (by kernel_rfl)) ?_
                       try go_wp2
                       have n0_ := Aside0.mk (Kd.R_drew HO_4.out)
                       have n1_ := Aside0.mk (Kd.R_drew HO_5.out)
                       have n2_ := Aside0.mk (blk_drew BK151.out)
                       have n3_ := Aside0.mk (below_drew1 HB.out)
                       clear HO_4
                       clear HO_5
                       clear BK151
                       clear HB
                       have HO_4 := n0_
                       have HO_5 := n1_
                       have BK151 := n2_
                       have HB := n3_
                       clear n0_ n1_ n2_ n3_
                       have p167 : 0 ≤ (x9_3 : Int) := of_decide_eq_true (by first | (with_reducible assumption) | assumption)
                       have q167 : x9_3 < (l0_1.length : Int) := of_decide_eq_true (by first | (with_reducible assumption) | assumption)
                       obtain ⟨ad167, e167, hx167_0, hx167_1⟩ := at_T95 HR0_1.out x9_3 p167 q167
                       have hw167_1 := hx167_1
                       have hw167_0 := hx167_0
                       obtain rfl : ad165 = ad167 := (by injection e167)
                       replace hx167_0 := (HB.out.cell (World.block_lt_of_cell? w _ hx167_0)).trans hx167_0
                       replace hx167_1 := (HB.out.cell (World.block_lt_of_cell? w _ hx167_1)).trans hx167_1
                       replace p167 := eq_true p167
                       replace q167 := eq_true q167
                       have p168 : 0 ≤ (x6_2 : Int) := of_decide_eq_true (by first | (with_reducible assumption) | assumption)
                       have q168 : x6_2 < (l0_0.length : Int) := of_decide_eq_true (by first | (with_reducible assumption) | assumption)
                       obtain ⟨ad168, e168, hx168_0, hx168_1⟩ := at_T86 HR0_0.out x6_2 p168 q168
                       have hw168_1 := hx168_1
                       have hw168_0 := hx168_0
                       obtain rfl : ad161 = ad168 := (by injection e168)
                       replace hx168_0 := (HB.out.cell (World.block_lt_of_cell? w _ hx168_0)).trans hx168_0
                       replace hx168_1 := (HB.out.cell (World.block_lt_of_cell? w _ hx168_1)).trans hx168_1
                       replace p168 := eq_true p168
                       replace q168 := eq_true q168
                       have p169 : 0 ≤ (t166 : Int) := of_decide_eq_true (by first | (with_reducible assumption) | assumption)
                       have q169 : t166 < (t156.length : Int) := of_decide_eq_true (by first | (with_reducible assumption) | assumption)
                       obtain ⟨ad169, e169, hx169_0⟩ := Kd.at_int (Kd.R_reads' HO_5.out).2.2 t166 p169 q169
                       cases e169
                       replace p169 := eq_true p169
                       replace q169 := eq_true q169
                       have p170 : 0 ≤ (x6_2 : Int) := of_decide_eq_true (by first | (with_reducible assumption) | assumption)
                       have q170 : x6_2 < (t156.length : Int) := of_decide_eq_true (by first | (with_reducible assumption) | assumption)
                       obtain ⟨ad170, e170, hx170_0⟩ := Kd.at_int (Kd.R_reads' HO_5.out).2.2 x6_2 p170 q170
                       obtain rfl : ad169 = ad170 := (by injection e170)
                       replace p170 := eq_true p170
                       replace q170 := eq_true q170
                       refine start_ (n := 25) (S := fun w' => w'.cell? ⟨gb151, 0, none⟩ = some (.slice (some ad161) l0_0.length c0_0) ∧ w'.cell? ⟨gb151, 1, none⟩ = some (.slice (some ad165) l0_1.length c0_1) ∧ w'.cell? (ad165.add ((x9_3).toNat * 2)) = some (.int .i64 ((rd_T95 l0_1 x9_3).f0)) ∧ w'.cell? ⟨(ad165.add ((x9_3).toNat * 2)).block, (ad165.add ((x9_3).toNat * 2)).off + 1, none⟩ = some (.int .i64 ((rd_T95 l0_1 x9_3).f1)) ∧ w'.cell? (ad161.add ((x6_2).toNat * 2)) = some (.int .i64 ((rd_T86 l0_0 x6_2).f0)) ∧ w'.cell? ⟨(ad161.add ((x6_2).toNat * 2)).block, (ad161.add ((x6_2).toNat * 2)).off + 1, none⟩ = some (.int .i64 ((rd_T86 l0_0 x6_2).f1)) ∧ w'.cell? (ad169.add (t166).toNat) = some (.int .i64 (rd t156 t166)) ∧ w'.cell? (ad169.add (x6_2).toNat) = some (.int .i64 (rd t156 x6_2))) (ds := []) #[false, false, false, false, false, false, false, false, false, false, false, false, false, false, false, false, false, false, false, false, false, false, false, false, false] (by kernel_rfl) rfl rfl ⟨(blk_cell BK151.out 0).trans rfl, (blk_cell BK151.out 1).trans rfl, ((HB.out.cell (World.block_lt_of_cell? w _ hw167_0)).trans hw167_0), ((HB.out.cell (World.block_lt_of_cell? w _ hw167_1)).trans hw167_1), ((HB.out.cell (World.block_lt_of_cell? w _ hw168_0)).trans hw168_0), ((HB.out.cell (World.block_lt_of_cell? w _ hw168_1)).trans hw168_1), hx169_0, hx170_0⟩ (fun hHeld => ?_); refine with_tabW spec_LongestChain.tab18 spec_LongestChain.bits18 (fun HT_ HW_ => ?_)
                       generalize w47.drew = w48 at HO_4 HO_5 BK151 HB hx167_0 hx167_1 hx168_0 hx168_1 hx169_0 hx170_0 hHeld ⊢
                       refine pA_ 0 (some 65) (bl 1 25) HT_.out (h := ?_)
                       refine pA_ 2 (some 67) #[true, false, true, false, false, false, false, false, false, false, false, false, false, false, false, false, false, false, false, false, false, false, false, false, false] HT_.out (h := ?_)
                       refine pA_ 6 (some 71) #[true, false, true, false, false, false, true, false, false, false, false, false, false, false, false, false, false, false, false, false, false, false, false, false, false] HT_.out (h := ?_)
                       refine pA_ 8 (some 73) #[true, false, true, false, false, false, true, false, true, false, false, false, false, false, false, false, false, false, false, false, false, false, false, false, false] HT_.out (h := ?_)
                       refine tA_ 1 (some 66) #[true, true, true, false, false, false, true, false, true, false, false, false, false, false, false, false, false, false, false, false, false, false, false, false, false] HT_.out HW_.out hHeld (h := ?_)
                       refine pA_ 3 (some 68) #[true, true, true, true, false, false, true, false, true, false, false, false, false, false, false, false, false, false, false, false, false, false, false, false, false] HT_.out (h := ?_)
                       refine pA_ 4 (some 69) #[true, true, true, true, true, false, true, false, true, false, false, false, false, false, false, false, false, false, false, false, false, false, false, false, false] HT_.out (h := ?_)
                       refine tA_ 5 (some 70) #[true, true, true, true, true, true, true, false, true, false, false, false, false, false, false, false, false, false, false, false, false, false, false, false, false] HT_.out HW_.out hHeld (h := ?_)
                       refine tA_ 7 (some 72) (bl 9 25) HT_.out HW_.out hHeld (h := ?_)
                       refine pA_ 9 (some 74) (bl 10 25) HT_.out (h := ?_)
                       refine pA_ 10 (some 75) (bl 11 25) HT_.out (h := ?_)
                       refine tA_ 11 (some 76) (bl 12 25) HT_.out HW_.out hHeld (h := ?_)
                       refine pA_ 12 (some 77) (bl 13 25) HT_.out (h := ?_)
                       refine pA_ 13 (some 78) (bl 14 25) HT_.out (h := ?_)
                       refine pA_ 14 (some 79) (bl 15 25) HT_.out (h := ?_)
                       refine pA_ 15 (some 80) (bl 16 25) HT_.out (h := ?_)
                       refine pA_ 16 (some 81) (bl 17 25) HT_.out (h := ?_)
                       refine pA_ 18 (some 83) #[true, true, true, true, true, true, true, true, true, true, true, true, true, true, true, true, true, false, true, false, false, false, false, false, false] HT_.out (h := ?_)
                       refine pA_ 19 (some 84) #[true, true, true, true, true, true, true, true, true, true, true, true, true, true, true, true, true, false, true, true, false, false, false, false, false] HT_.out (h := ?_)
                       refine pA_ 20 (some 85) #[true, true, true, true, true, true, true, true, true, true, true, true, true, true, true, true, true, false, true, true, true, false, false, false, false] HT_.out (h := ?_)
                       refine tA_ 17 (some 82) (bl 21 25) HT_.out HW_.out hHeld (h := ?_)
                       refine tA_ 21 (some 86) (bl 22 25) HT_.out HW_.out hHeld (h := ?_)
                       refine pA_ 22 (some 87) (bl 23 25) HT_.out (h := ?_)
                       refine pA_ 23 (some 88) (bl 24 25) HT_.out (h := ?_)
                       refine pA_ 24 (some 89) (bl 25 25) HT_.out (h := ?_)
                       refine done_ (done_of HT_.out (by kernel_rfl)) ?_
                       try go_wp2
                       go_roundg k3
                       case measure => have := HK1.out; have := HK2.out; have := HK3.out; omega
                       case rel => exact ⟨(x8_3), (wrap64 (x9_3 - 1)), (by first | rfl | (simp; done) | (simp [*]; done)), (by first | rfl | (simp; done) | (simp [*]; done)), H', ⟨by have := HK1.out; have := HK2.out; have := HK3.out; omega⟩, ⟨rz_ HO_4.out⟩, ⟨rz_ HO_5.out⟩, ⟨bz_ BK151.out⟩, ⟨by repeat (first | (with_reducible first | exact HB.out | apply below_alloc | apply pw_below_drewN | apply below_drew1 | refine below_set ?_ GE151.out) | exact HB.out)⟩⟩
                     ·rw [if_neg c41] at H
                      exact absurd H (by simp)
                    ·rw [if_neg c40] at H
                     exact absurd H (by simp)
                   ·rw [if_neg c39] at H
                    exact absurd H (by simp)
                  ·rw [if_neg c38] at H
                   have c38b0 : (((rd_T95 l0_1 x9_3).f0) == ((rd_T86 l0_0 x6_2).f0)) = false := beq_eq_false_iff_ne.mpr c38
                   have c38b1 : (((rd_T95 l0_1 x9_3).f0) != ((rd_T86 l0_0 x6_2).f0)) = true := bne_iff_ne.mpr c38
                   have H' := Aside0.mk H
                   clear H
                   try go_wp2
                   have n0_ := Aside0.mk (Kd.R_drew HO_4.out)
                   have n1_ := Aside0.mk (Kd.R_drew HO_5.out)
                   have n2_ := Aside0.mk (blk_drew BK151.out)
                   have n3_ := Aside0.mk (below_drew1 HB.out)
                   clear HO_4
                   clear HO_5
                   clear BK151
                   clear HB
                   have HO_4 := n0_
                   have HO_5 := n1_
                   have BK151 := n2_
                   have HB := n3_
                   clear n0_ n1_ n2_ n3_
                   have p165 : 0 ≤ (x9_3 : Int) := of_decide_eq_true (by first | (with_reducible assumption) | assumption)
                   have q165 : x9_3 < (l0_1.length : Int) := of_decide_eq_true (by first | (with_reducible assumption) | assumption)
                   obtain ⟨ad165, e165, hx165_0, hx165_1⟩ := at_T95 HR0_1.out x9_3 p165 q165
                   have hw165_1 := hx165_1
                   have hw165_0 := hx165_0
                   cases e165
                   replace hx165_0 := (HB.out.cell (World.block_lt_of_cell? w _ hx165_0)).trans hx165_0
                   replace hx165_1 := (HB.out.cell (World.block_lt_of_cell? w _ hx165_1)).trans hx165_1
                   replace p165 := eq_true p165
                   replace q165 := eq_true q165
                   refine start_ (n := 9) (S := fun w' => w'.cell? ⟨gb151, 0, none⟩ = some (.slice (some ad161) l0_0.length c0_0) ∧ w'.cell? ⟨gb151, 1, none⟩ = some (.slice (some ad165) l0_1.length c0_1) ∧ w'.cell? (ad165.add ((x9_3).toNat * 2)) = some (.int .i64 ((rd_T95 l0_1 x9_3).f0)) ∧ w'.cell? ⟨(ad165.add ((x9_3).toNat * 2)).block, (ad165.add ((x9_3).toNat * 2)).off + 1, none⟩ = some (.int .i64 ((rd_T95 l0_1 x9_3).f1))) (ds := []) #[false, false, false, false, false, false, false, false, false] (by kernel_rfl) rfl rfl ⟨(blk_cell BK151.out 0).trans rfl, (blk_cell BK151.out 1).trans rfl, ((HB.out.cell (World.block_lt_of_cell? w _ hw165_0)).trans hw165_0), ((HB.out.cell (World.block_lt_of_cell? w _ hw165_1)).trans hw165_1)⟩ (fun hHeld => ?_); refine with_tabW spec_LongestChain.tab17 spec_LongestChain.bits17 (fun HT_ HW_ => ?_)
                   generalize wr.drew = w49 at HO_4 HO_5 BK151 HB hx165_0 hx165_1 hHeld ⊢
                   refine pA_ 1 (some 58) #[false, true, false, false, false, false, false, false, false] HT_.out (h := ?_)
                   refine pA_ 3 (some 60) #[false, true, false, true, false, false, false, false, false] HT_.out (h := ?_)
                   refine tA_ 0 (some 57) #[true, true, false, true, false, false, false, false, false] HT_.out HW_.out hHeld (h := ?_)
                   refine tA_ 2 (some 59) (bl 4 9) HT_.out HW_.out hHeld (h := ?_)
                   refine pA_ 4 (some 61) (bl 5 9) HT_.out (h := ?_)
                   refine pA_ 5 (some 62) (bl 6 9) HT_.out (h := ?_)
                   refine tA_ 6 (some 63) (bl 7 9) HT_.out HW_.out hHeld (h := ?_)
                   refine one_ (i := 7) (N := some 64) (bl 8 9) rfl rfl (one_of HT_.out (by kernel_rfl)) (by decide) (fun K hK => ?_)
                   refine goes_ Try.func61 (by kernel_rfl) rfl #[.agg #[.slice (some ad161) l0_0.length c0_0, .slice (some ad165) l0_1.length c0_1], .int .i64 ((rd_T95 l0_1 x9_3).f1)] (by rfl) rfl rfl (by (try simp only [List.map_toArray, List.map_cons, List.map_nil]); first | done | rfl | (simp only [List.length_drop, List.length_take]; rfl)) ?_
                   with_reducible refine (spec_l2Find.calls _ _ l0_0 _ _ l0_1 ((rd_T95 l0_1 x9_3).f1) t166 _ ?side1 ?side2 ?side3 ?side4 A35.out).mono ?_
                   (case side1 => exact cz_ (Kd.C_below HR0_0.out HB.out))
                   (case side2 => exact HC0_0.out)
                   (case side3 => exact cz_ (Kd.C_below HR0_1.out HB.out))
                   (case side4 => exact HC0_1.out)
                   rintro e w50 ⟨rfl, hb⟩
                   refine ⟨_, rfl, ?_⟩
                   have n0_ := Aside0.mk (Kd.R_below (rz_ HO_4.out) hb)
                   have n1_ := Aside0.mk (Kd.R_below (rz_ HO_5.out) hb)
                   have n2_ := Aside0.mk (blk_below (bz_ BK151.out) hb)
                   have n3_ := Aside0.mk (below_step (by repeat (first | (with_reducible first | exact HB.out | apply below_alloc | apply pw_below_drewN | apply below_drew1 | refine below_set ?_ GE151.out) | exact HB.out)) hb)
                   clear HO_4
                   clear HO_5
                   clear BK151
                   clear HB
                   have HO_4 := n0_
                   have HO_5 := n1_
                   have BK151 := n2_
                   have HB := n3_
                   clear n0_ n1_ n2_ n3_
                   (try clear hb)
                   (try clear hb2)
                   (try clear hk)
                   (try clear hi)
                   refine hK.out _ _ ⟨(blk_cell BK151.out 0).trans rfl, (blk_cell BK151.out 1).trans rfl, ((HB.out.cell (World.block_lt_of_cell? w _ hw165_0)).trans hw165_0), ((HB.out.cell (World.block_lt_of_cell? w _ hw165_1)).trans hw165_1)⟩ (fun hHeld => ?_)
                   clear hK K
                   refine norm_ (a' := ?_) ?_ ?_
                   rotate_left
                   ·show Act.put _ (some 64) _ = _
                    simp only [Act.put, List.setIfInBounds_toArray, List.set_cons_zero, List.set_cons_succ, i64_w, i32_w]
                    rfl
                   refine pA_ 8 (some 10) (bl 9 9) HT_.out (h := ?_)
                   refine done_ (done_of HT_.out (by kernel_rfl)) ?_
                   try go_wp2
                   have n0_ := Aside0.mk (Kd.R_drew HO_4.out)
                   have n1_ := Aside0.mk (Kd.R_drew HO_5.out)
                   have n2_ := Aside0.mk (blk_drew BK151.out)
                   have n3_ := Aside0.mk (below_drew1 HB.out)
                   clear HO_4
                   clear HO_5
                   clear BK151
                   clear HB
                   have HO_4 := n0_
                   have HO_5 := n1_
                   have BK151 := n2_
                   have HB := n3_
                   clear n0_ n1_ n2_ n3_
                   have p167 : 0 ≤ (x9_3 : Int) := of_decide_eq_true (by first | (with_reducible assumption) | assumption)
                   have q167 : x9_3 < (l0_1.length : Int) := of_decide_eq_true (by first | (with_reducible assumption) | assumption)
                   obtain ⟨ad167, e167, hx167_0, hx167_1⟩ := at_T95 HR0_1.out x9_3 p167 q167
                   have hw167_1 := hx167_1
                   have hw167_0 := hx167_0
                   obtain rfl : ad165 = ad167 := (by injection e167)
                   replace hx167_0 := (HB.out.cell (World.block_lt_of_cell? w _ hx167_0)).trans hx167_0
                   replace hx167_1 := (HB.out.cell (World.block_lt_of_cell? w _ hx167_1)).trans hx167_1
                   replace p167 := eq_true p167
                   replace q167 := eq_true q167
                   have p168 : 0 ≤ (x6_2 : Int) := of_decide_eq_true (by first | (with_reducible assumption) | assumption)
                   have q168 : x6_2 < (l0_0.length : Int) := of_decide_eq_true (by first | (with_reducible assumption) | assumption)
                   obtain ⟨ad168, e168, hx168_0, hx168_1⟩ := at_T86 HR0_0.out x6_2 p168 q168
                   have hw168_1 := hx168_1
                   have hw168_0 := hx168_0
                   obtain rfl : ad161 = ad168 := (by injection e168)
                   replace hx168_0 := (HB.out.cell (World.block_lt_of_cell? w _ hx168_0)).trans hx168_0
                   replace hx168_1 := (HB.out.cell (World.block_lt_of_cell? w _ hx168_1)).trans hx168_1
                   replace p168 := eq_true p168
                   replace q168 := eq_true q168
                   refine start_ (n := 25) (S := fun w' => w'.cell? ⟨gb151, 0, none⟩ = some (.slice (some ad161) l0_0.length c0_0) ∧ w'.cell? ⟨gb151, 1, none⟩ = some (.slice (some ad165) l0_1.length c0_1) ∧ w'.cell? (ad165.add ((x9_3).toNat * 2)) = some (.int .i64 ((rd_T95 l0_1 x9_3).f0)) ∧ w'.cell? ⟨(ad165.add ((x9_3).toNat * 2)).block, (ad165.add ((x9_3).toNat * 2)).off + 1, none⟩ = some (.int .i64 ((rd_T95 l0_1 x9_3).f1)) ∧ w'.cell? (ad161.add ((x6_2).toNat * 2)) = some (.int .i64 ((rd_T86 l0_0 x6_2).f0)) ∧ w'.cell? ⟨(ad161.add ((x6_2).toNat * 2)).block, (ad161.add ((x6_2).toNat * 2)).off + 1, none⟩ = some (.int .i64 ((rd_T86 l0_0 x6_2).f1))) (ds := []) #[false, false, false, false, false, false, false, false, false, false, false, false, false, false, false, false, false, false, false, false, false, false, false, false, false] (by kernel_rfl) rfl rfl ⟨(blk_cell BK151.out 0).trans rfl, (blk_cell BK151.out 1).trans rfl, ((HB.out.cell (World.block_lt_of_cell? w _ hw167_0)).trans hw167_0), ((HB.out.cell (World.block_lt_of_cell? w _ hw167_1)).trans hw167_1), ((HB.out.cell (World.block_lt_of_cell? w _ hw168_0)).trans hw168_0), ((HB.out.cell (World.block_lt_of_cell? w _ hw168_1)).trans hw168_1)⟩ (fun hHeld => ?_); refine with_tabW spec_LongestChain.tab18 spec_LongestChain.bits18 (fun HT_ HW_ => ?_)
                   generalize w50.drew = w51 at HO_4 HO_5 BK151 HB hx167_0 hx167_1 hx168_0 hx168_1 hHeld ⊢
                   refine pA_ 0 (some 65) (bl 1 25) HT_.out (h := ?_)
                   refine pA_ 2 (some 67) #[true, false, true, false, false, false, false, false, false, false, false, false, false, false, false, false, false, false, false, false, false, false, false, false, false] HT_.out (h := ?_)
                   refine pA_ 6 (some 71) #[true, false, true, false, false, false, true, false, false, false, false, false, false, false, false, false, false, false, false, false, false, false, false, false, false] HT_.out (h := ?_)
                   refine pA_ 8 (some 73) #[true, false, true, false, false, false, true, false, true, false, false, false, false, false, false, false, false, false, false, false, false, false, false, false, false] HT_.out (h := ?_)
                   refine tA_ 1 (some 66) #[true, true, true, false, false, false, true, false, true, false, false, false, false, false, false, false, false, false, false, false, false, false, false, false, false] HT_.out HW_.out hHeld (h := ?_)
                   refine pA_ 3 (some 68) #[true, true, true, true, false, false, true, false, true, false, false, false, false, false, false, false, false, false, false, false, false, false, false, false, false] HT_.out (h := ?_)
                   refine pA_ 4 (some 69) #[true, true, true, true, true, false, true, false, true, false, false, false, false, false, false, false, false, false, false, false, false, false, false, false, false] HT_.out (h := ?_)
                   refine tA_ 5 (some 70) #[true, true, true, true, true, true, true, false, true, false, false, false, false, false, false, false, false, false, false, false, false, false, false, false, false] HT_.out HW_.out hHeld (h := ?_)
                   refine tA_ 7 (some 72) (bl 9 25) HT_.out HW_.out hHeld (h := ?_)
                   refine pA_ 9 (some 74) (bl 10 25) HT_.out (h := ?_)
                   refine pA_ 10 (some 75) (bl 11 25) HT_.out (h := ?_)
                   refine tA_ 11 (some 76) (bl 12 25) HT_.out HW_.out hHeld (h := ?_)
                   refine pA_ 12 (some 77) (bl 13 25) HT_.out (h := ?_)
                   refine pA_ 13 (some 78) (bl 14 25) HT_.out (h := ?_)
                   refine pO_ 14 (some 79) (bl 15 25) HT_.out (h := ?_)
                   refine pO_ 15 (some 80) (bl 16 25) HT_.out (h := ?_)
                   refine pO_ 16 (some 81) (bl 17 25) HT_.out (h := ?_)
                   refine pO_ 17 (some 82) (bl 18 25) HT_.out (h := ?_)
                   refine pO_ 18 (some 83) (bl 19 25) HT_.out (h := ?_)
                   refine pO_ 19 (some 84) (bl 20 25) HT_.out (h := ?_)
                   refine pO_ 20 (some 85) (bl 21 25) HT_.out (h := ?_)
                   refine pO_ 21 (some 86) (bl 22 25) HT_.out (h := ?_)
                   refine pO_ 22 (some 87) (bl 23 25) HT_.out (h := ?_)
                   refine pO_ 23 (some 88) (bl 24 25) HT_.out (h := ?_)
                   refine pA_ 24 (some 89) (bl 25 25) HT_.out (h := ?_)
                   refine done_ (done_of HT_.out (by kernel_rfl)) ?_
                   try go_wp2
                   go_roundg k3
                   case measure => have := HK1.out; have := HK2.out; have := HK3.out; omega
                   case rel => exact ⟨(x8_3), (wrap64 (x9_3 - 1)), (by first | rfl | (simp; done) | (simp [*]; done)), (by first | rfl | (simp; done) | (simp [*]; done)), H', ⟨by have := HK1.out; have := HK2.out; have := HK3.out; omega⟩, ⟨rz_ HO_4.out⟩, ⟨rz_ HO_5.out⟩, ⟨bz_ BK151.out⟩, ⟨by repeat (first | (with_reducible first | exact HB.out | apply below_alloc | apply pw_below_drewN | apply below_drew1 | refine below_set ?_ GE151.out) | exact HB.out)⟩⟩
                 ·rw [if_neg c37] at H
                  exact absurd H (by simp)
                ·rw [if_neg c36] at H
                 exact absurd H (by simp)
               ·rw [if_neg c34] at H
                exact absurd H (by simp)
              ·rw [if_neg c33] at H
               exact absurd H (by simp)
             ·rw [if_neg c32] at H
              have c32b0 : decide (0 ≤ x9_3) = false := decide_eq_false c32
              clear c32
              have H' := Aside0.mk H
              clear H
              go_wp2
              go_roundg k3
              case measure => have := HK1.out; have := HK2.out; have := HK3.out; omega
              case rel => exact ⟨(y162), (x8_3), (by first | rfl | (simp; done) | (simp [*]; done)), H', ⟨by have := HK1.out; have := HK2.out; have := HK3.out; omega⟩, ⟨rz_ HO_4.out⟩, ⟨rz_ HO_5.out⟩, ⟨bz_ BK151.out⟩, ⟨by repeat (first | (with_reducible first | exact HB.out | apply below_alloc | apply pw_below_drewN | apply below_drew1 | refine below_set ?_ GE151.out) | exact HB.out)⟩⟩
          ·rw [if_neg c28] at H
           exact absurd H (by simp)
         ·rw [if_neg c27] at H
          exact absurd H (by simp)
        ·rw [if_neg c26] at H
         exact absurd H (by simp)
       ·rw [if_neg c25] at H
        have c25b0 : decide (0 ≤ x6_2) = false := decide_eq_false c25
        clear c25
        simp only [Option.some.injEq, Prod.mk.injEq] at H
        obtain ⟨rfl, rfl⟩ := H
        go_wp2
        go_ret2
        exact ⟨_, by first | rfl | (simp [errW_none, errW_some] <;> rfl) | (simp [*, errW_none, errW_some] <;> rfl), rz_ (Kd.R_mono HO_4.out (fun _ hk => trivial)), by repeat (first | (with_reducible first | exact HB.out | apply below_alloc | apply pw_below_drewN | apply below_drew1 | refine below_set ?_ GE151.out) | exact HB.out)⟩
 ·replace c3 := Bool.eq_false_iff.mpr c3
  subst c3
  have H1 : (some (y152, false)) = some (r1, r2) := by rw [if_neg (show ¬ (false = true) by decide)] at H; exact H
  clear H
  have H := H1
  clear H1
  simp only [Option.some.injEq, Prod.mk.injEq] at H
  obtain ⟨rfl, rfl⟩ := H
  go_enter Try.func41, Try.ntmps41
  go_wp2_with (first | ((with_reducible refine gate_dst (N := 1) rfl ?_); refine box_event ?hg (N := 1) ?hd (cs := #[.slice A0_0 l0_0.length c0_0, .slice A0_1 l0_1.length c0_1]) (t := 33) ?hr ?_; (case hd => rfl); (case hg => rfl); (case hr => first | (go_simp; done) | (go_simp; rfl)); intro gb151 hg w52 hbox hb; have n0_ := Aside0.mk (below_step (wz_ HB.out) hb); have n1_ := Aside0.mk (hbox); have n2_ := Aside0.mk ((by rw [hg]; exact (below_size (wz_ HB.out)) : w.heap.size ≤ gb151)); have n3_ := Aside0.mk ((by rw [hg]; exact (below_size (wz_ HB.out)) : w.heap.size ≤ gb151)); clear HB; have HB := n0_; have BK151 := n1_; have GW151 := n2_; have GE151 := n3_; clear n0_ n1_ n2_ n3_; clear hb hbox hg) | ((with_reducible refine gate_dst (N := 11) rfl ?_); refine Kd.R_lit (Kd.int .i64) _ 3 ?hg (N := 11) ?hd (xs := ([] : List Int)) (inner := []) (ok := fun _ => True) (okp := fun _ => True) ?hr ?hp (fun _ hk => hk) trivial (Below.refl _ _) (Nat.le_refl _) (by simp) ?_; (case hd => rfl); (case hg => rfl); (case hr => first | (go_simp; done) | (go_simp; rfl)); (case hp => exact (Reps.none _ _)); intro v153 w53 ho54 hb hg_ hnew_; clear hg_ hnew_; (first | rw [← Ny152.out] at ho54 | (simp only [Int.reduceToNat] at ho54; rw [← Ny152.out] at ho54)); have n0_ := Aside0.mk (Kd.R_lower ho54 (below_size (by repeat (first | (with_reducible first | exact HB.out | apply below_alloc | apply pw_below_drewN | apply below_drew1 | refine below_set ?_ GE151.out) | exact HB.out)))); have n1_ := Aside0.mk (blk_below (bz_ BK151.out) hb); have n2_ := Aside0.mk (below_step (by repeat (first | (with_reducible first | exact HB.out | apply below_alloc | apply pw_below_drewN | apply below_drew1 | refine below_set ?_ GE151.out) | exact HB.out)) hb); clear BK151; clear HB; have HO154 := n0_; have BK151 := n1_; have HB := n2_; clear n0_ n1_ n2_; clear hb ho54; have hcz55_0 : w53.cell? ⟨gb151, 0, none⟩ = some (.slice A0_0 l0_0.length c0_0) := (blk_cell BK151.out 0).trans rfl; have hcz55_1 : w53.cell? ⟨gb151, 1, none⟩ = some (.slice A0_1 l0_1.length c0_1) := (blk_cell BK151.out 1).trans rfl; have hfz55_0 := blk_frozen BK151.out 0; have hfz55_1 := blk_frozen BK151.out 1) | ((with_reducible refine gate_callee (f := 78) rfl ?_); refine goesL_ (some 13) rfl rfl Try.func78 (by kernel_rfl) rfl #[.agg #[.slice A0_0 l0_0.length c0_0, .slice A0_1 l0_1.length c0_1]] rfl (by (try simp only [List.map_toArray, List.map_cons, List.map_nil]); first | done | rfl | (simp only [List.length_drop, List.length_take]; rfl)) ?_; (with_reducible refine (spec_l5Good.calls k _ _ l0_0 _ _ l0_1 false _ ?side1 ?side2 ?side3 ?side4 A2.out).mono ?_); (case side1 => exact cz_ (Kd.C_below HR0_0.out HB.out)); (case side2 => exact HC0_0.out); (case side3 => exact cz_ (Kd.C_below HR0_1.out HB.out)); (case side4 => exact HC0_1.out); rintro e w56 ⟨rfl, hb⟩; refine ⟨_, rfl, ?_⟩; have n0_ := Aside0.mk (Kd.R_below (rz_ HO154.out) hb); have n1_ := Aside0.mk (blk_below (bz_ BK151.out) hb); have n2_ := Aside0.mk (below_step (by repeat (first | (with_reducible first | exact HB.out | apply below_alloc | apply pw_below_drewN | apply below_drew1 | refine below_set ?_ GE151.out) | exact HB.out)) hb); clear HO154; clear BK151; clear HB; have HO154 := n0_; have BK151 := n1_; have HB := n2_; clear n0_ n1_ n2_; (try clear hb); (try clear hb2); (try clear hk); (try clear hi)))
  go_ret2
  exact ⟨_, by first | rfl | (simp [errW_none, errW_some] <;> rfl) | (simp [*, errW_none, errW_some] <;> rfl), rz_ HO154.out, by repeat (first | (with_reducible first | exact HB.out | apply below_alloc | apply pw_below_drewN | apply below_drew1 | refine below_set ?_ GE151.out) | exact HB.out)⟩

end Go.Proofs.Ytdiejmhphhdcfaa.Q

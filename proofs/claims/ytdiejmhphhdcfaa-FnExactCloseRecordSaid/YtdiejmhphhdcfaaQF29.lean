-- Written by a program of this session (wip/xprint.py over the kit's printer).
import Derived.Test.YtdiejmhphhdcfaaQ0
import Derived.Test.YtdiejmhphhdcfaaQF62
import Derived.Test.YtdiejmhphhdcfaaQF73
import Derived.Test.YtdiejmhphhdcfaaQF74
import Derived.Test.YtdiejmhphhdcfaaQF78
namespace Go.Proofs.Ytdiejmhphhdcfaa.Q
open Go.RowKit Go.Proofs.YtdiejmhphhdcfaaW.PrintWords Go.Proofs.YtdiejmhphhdcfaaW.PrintLast
set_option linter.unusedVariables false
set_option linter.unusedSimpArgs false

/-! ### spec_CloseRecord: function 29 -/
mutual
def spec_CloseRecord.l0 : Nat → List Int → Int → List (S86) → List (S95) → List (S86) → List (S95) → Option ((List (S86)) × (List (S95)) × Bool)
 | 0, _, _, _, _, _, _ => none
 | k + 1, x4, x6, x152000, x152001, x164000, x164001 => if x6 < (x4.length : Int) then (spec_CloseRecord.l1 k x4 x6 0 x152000 x152001 x164000 x164001) else ((spec_l2Good.f x164000 x164001).bind fun t164 => (if t164 = true then (some (x164000, x164001, true)) else (some (([] : List (S86)), ([] : List (S95)), false))))
def spec_CloseRecord.l1 : Nat → List Int → Int → Int → List (S86) → List (S95) → List (S86) → List (S95) → Option ((List (S86)) × (List (S95)) × Bool)
 | 0, _, _, _, _, _, _, _ => none
 | k + 1, x4, x6, x7, x152000, x152001, x164000, x164001 => if x7 < (x4.length : Int) then (if 0 ≤ x6 then (if x6 < (x4.length : Int) then ((spec_l4Bit.f (rd x4 x6) x7).bind fun t166 => (if t166 = true then (if x6 < (x152000.length : Int) then (if 0 ≤ x7 then (if x7 < (x152000.length : Int) then (if x164001.length < 8796093022208 then (spec_CloseRecord.l1 k x4 x6 (wrap64 (x7 + 1)) x152000 x152001 x164000 (x164001 ++ [(⟨(rd_T86 x152000 x6).f0, (rd_T86 x152000 x7).f0⟩ : S95)])) else (none)) else (none)) else (none)) else (none)) else (spec_CloseRecord.l1 k x4 x6 (wrap64 (x7 + 1)) x152000 x152001 x164000 x164001))) else (none)) else (none)) else (spec_CloseRecord.l0 k x4 (wrap64 (x6 + 1)) x152000 x152001 x164000 x164001)
end
def spec_CloseRecord.f (k : Nat) (l0_0 : List (S86)) (l0_1 : List (S95)) : Option ((List (S86)) × (List (S95)) × Bool) := (spec_l5Good.f k l0_0 l0_1).bind fun t153 => (if t153 = true then ((spec_l4Later.f k l0_0 l0_1).bind fun t154 => ((some (([] : List (S86)) : List (S86))).bind fun y157 => (if y157.length + l0_0.length < 8796093022208 then (spec_CloseRecord.l0 k t154 0 l0_0 l0_1 (y157 ++ l0_0) ([] : List (S95))) else (none)))) else (some (([] : List (S86)), ([] : List (S95)), false)))
theorem spec_CloseRecord.mono_l : ∀ k, (∀ y0 y1 y2 y3 y4 y5, LeO (spec_CloseRecord.l0 k y0 y1 y2 y3 y4 y5) (spec_CloseRecord.l0 (k + 1) y0 y1 y2 y3 y4 y5)) ∧ (∀ y0 y1 y2 y3 y4 y5 y6, LeO (spec_CloseRecord.l1 k y0 y1 y2 y3 y4 y5 y6) (spec_CloseRecord.l1 (k + 1) y0 y1 y2 y3 y4 y5 y6))
 | 0 => ⟨fun _ _ _ _ _ _ r h => by simp [spec_CloseRecord.l0] at h, fun _ _ _ _ _ _ _ r h => by simp [spec_CloseRecord.l1] at h⟩
 | k + 1 => by
  obtain ⟨ih0, ih1⟩ := spec_CloseRecord.mono_l k
  refine ⟨?_, ?_⟩
  ·intro y0 y1 y2 y3 y4 y5
   unfold spec_CloseRecord.l0
   repeat' first
   | (with_reducible exact ih0 _ _ _ _ _ _)
   | (with_reducible exact ih1 _ _ _ _ _ _ _)
   | (with_reducible exact spec_l4Later.mono _ _ _)
   | (with_reducible exact spec_l5Good.mono _ _ _)
   | (with_reducible exact LeO.refl _)
   | (with_reducible exact LeO.none _)
   | (with_reducible refine LeO.ite ?_ ?_)
   | (with_reducible refine LeO.bind ?_ (fun _ => ?_))
   | exact ih0 _ _ _ _ _ _
   | exact ih1 _ _ _ _ _ _ _
   | exact spec_l4Later.mono _ _ _
   | exact spec_l5Good.mono _ _ _
   | exact LeO.none _
   | refine LeO.ite ?_ ?_
   | refine LeO.bind ?_ (fun _ => ?_)
  ·intro y0 y1 y2 y3 y4 y5 y6
   unfold spec_CloseRecord.l1
   repeat' first
   | (with_reducible exact ih0 _ _ _ _ _ _)
   | (with_reducible exact ih1 _ _ _ _ _ _ _)
   | (with_reducible exact spec_l4Later.mono _ _ _)
   | (with_reducible exact spec_l5Good.mono _ _ _)
   | (with_reducible exact LeO.refl _)
   | (with_reducible exact LeO.none _)
   | (with_reducible refine LeO.ite ?_ ?_)
   | (with_reducible refine LeO.bind ?_ (fun _ => ?_))
   | exact ih0 _ _ _ _ _ _
   | exact ih1 _ _ _ _ _ _ _
   | exact spec_l4Later.mono _ _ _
   | exact spec_l5Good.mono _ _ _
   | exact LeO.none _
   | refine LeO.ite ?_ ?_
   | refine LeO.bind ?_ (fun _ => ?_)
theorem spec_CloseRecord.mono : ∀ a0 a1 k, LeO (spec_CloseRecord.f k a0 a1) (spec_CloseRecord.f (k + 1) a0 a1) := by
 intro a0 a1 k
 obtain ⟨ih0, ih1⟩ := spec_CloseRecord.mono_l k
 unfold spec_CloseRecord.f
 repeat' first
   | (with_reducible exact ih0 _ _ _ _ _ _)
   | (with_reducible exact ih1 _ _ _ _ _ _ _)
   | (with_reducible exact spec_l4Later.mono _ _ _)
   | (with_reducible exact spec_l5Good.mono _ _ _)
   | (with_reducible exact LeO.refl _)
   | (with_reducible exact LeO.none _)
   | (with_reducible refine LeO.ite ?_ ?_)
   | (with_reducible refine LeO.bind ?_ (fun _ => ?_))
   | exact ih0 _ _ _ _ _ _
   | exact ih1 _ _ _ _ _ _ _
   | exact spec_l4Later.mono _ _ _
   | exact spec_l5Good.mono _ _ _
   | exact LeO.none _
   | refine LeO.ite ?_ ?_
   | refine LeO.bind ?_ (fun _ => ?_)
def spec_CloseRecord.T12 : Bool × List (List Nat × List Nat) := (true, [([], []), ([0], [0]), ([], []), ([2], [2]), ([], []), ([3, 4], [3, 4]), ([5], [5]), ([6], [6]), ([], []), ([8], [8]), ([], []), ([9, 10], [9, 10]), ([11], [11]), ([12], [12]), ([7, 13], [7, 13]), ([14], [14]), ([1, 15], [1, 15]), ([0, 1, 2, 3, 4, 5, 6, 7, 8, 9, 10, 11, 12, 13, 14, 15, 16], []), ([17, 16, 16, 0, 1, 2, 3, 4, 5, 6, 7, 8, 9, 10, 11, 12, 13, 14, 15, 16], [16, 17])])
def spec_CloseRecord.B12 : List Nat := [0, 1, 0, 4, 0, 28, 60, 124, 0, 256, 0, 1792, 3840, 7936, 16380, 32764, 65535, 131071, 262143]
theorem spec_CloseRecord.tab12 : rtab .any (opsOf Try.f29 12) = spec_CloseRecord.T12 := by kernel_rfl
theorem spec_CloseRecord.bits12 : waitsOk spec_CloseRecord.T12.2 spec_CloseRecord.B12 = true := by kernel_rfl
set_option maxHeartbeats 8000000 in
set_option maxRecDepth 100000 in
theorem spec_CloseRecord.calls (k : Nat) (A0_0 : Option Addr) (c0_0 : Nat) (l0_0 : List (S86)) (A0_1 : Option Addr) (c0_1 : Nat) (l0_1 : List (S95)) (r1 : List (S86)) (r2 : List (S95)) (r3 : Bool) (w : World) (hr0_0 : Kd.C k86 w A0_0 l0_0.length l0_0) (hc0_0 : l0_0.length ≤ c0_0) (hr0_1 : Kd.C k95 w A0_1 l0_1.length l0_1) (hc0_1 : l0_1.length ≤ c0_1) (h : spec_CloseRecord.f k l0_0 l0_1 = some (r1, r2, r3)) :
  Calls Try.prog 29 #[.agg #[.slice A0_0 l0_0.length c0_0, .slice A0_1 l0_1.length c0_1]] w fun e w' => ∃ v0_ v1_ : Value, e = .returned (.tuple #[.agg #[v0_, v1_], .bool r3]) ∧ Kd.R k86 86 w' w.heap.size (fun _ => True) v0_ r1 ∧ Kd.R k95 95 w' w.heap.size (fun _ => True) v1_ r2 ∧ Below w.heap.size w w' := by
 have hu33 := Try.underlying33
 have hu95 := Try.underlying95
 have HR0_0 := Aside0.mk hr0_0
 have HC0_0 := Aside0.mk hc0_0
 clear hr0_0 hc0_0
 have HR0_1 := Aside0.mk hr0_1
 have HC0_1 := Aside0.mk hc0_1
 clear hr0_1 hc0_1
 have HB := Aside0.mk (Below.refl w.heap.size w)
 have H : ((spec_l5Good.f k l0_0 l0_1).bind fun t153 => (if t153 = true then ((spec_l4Later.f k l0_0 l0_1).bind fun t154 => ((some (([] : List (S86)) : List (S86))).bind fun y157 => (if y157.length + l0_0.length < 8796093022208 then (spec_CloseRecord.l0 k t154 0 l0_0 l0_1 (y157 ++ l0_0) ([] : List (S95))) else (none)))) else (some (([] : List (S86)), ([] : List (S95)), false)))) = some (r1, r2, r3) := h
 clear h
 replace H := Option.bind_eq_some_iff.mp H
 obtain ⟨t153, A20, H⟩ := H
 replace H : (if t153 = true then ((spec_l4Later.f k l0_0 l0_1).bind fun t154 => ((some (([] : List (S86)) : List (S86))).bind fun y157 => (if y157.length + l0_0.length < 8796093022208 then (spec_CloseRecord.l0 k t154 0 l0_0 l0_1 (y157 ++ l0_0) ([] : List (S95))) else (none)))) else (some (([] : List (S86)), ([] : List (S95)), false))) = some (r1, r2, r3) := H
 have A2 := Aside0.mk A20
 clear A20
 by_cases c3 : t153 = true
 ·subst c3
  have H1 : ((spec_l4Later.f k l0_0 l0_1).bind fun t154 => ((some (([] : List (S86)) : List (S86))).bind fun y157 => (if y157.length + l0_0.length < 8796093022208 then (spec_CloseRecord.l0 k t154 0 l0_0 l0_1 (y157 ++ l0_0) ([] : List (S95))) else (none)))) = some (r1, r2, r3) := by rw [if_pos rfl] at H; exact H
  clear H
  have H := H1
  clear H1
  replace H := Option.bind_eq_some_iff.mp H
  obtain ⟨t154, A40, H⟩ := H
  replace H : ((some (([] : List (S86)) : List (S86))).bind fun y157 => (if y157.length + l0_0.length < 8796093022208 then (spec_CloseRecord.l0 k t154 0 l0_0 l0_1 (y157 ++ l0_0) ([] : List (S95))) else (none))) = some (r1, r2, r3) := H
  have A4 := Aside0.mk A40
  clear A40
  obtain ⟨y157, hy157⟩ : ∃ y_ : List (S86), y_ = (([] : List (S86))) := ⟨_, rfl⟩
  replace H : (if y157.length + l0_0.length < 8796093022208 then (spec_CloseRecord.l0 k t154 0 l0_0 l0_1 (y157 ++ l0_0) ([] : List (S95))) else (none)) = some (r1, r2, r3) := by first | (rw [hy157]; with_reducible exact H) | (have H2_ := (Option.bind_some _ _).symm.trans H; rw [hy157]; with_reducible exact H2_) | (have H2_ := (Option.bind_some _ _).symm.trans H; with_reducible exact H2_) | with_reducible exact H | (rw [hy157]; exact H) | exact H
  have Ny157 := Aside0.mk hy157
  clear hy157
  by_cases c5 : y157.length + l0_0.length < 8796093022208
  ·rw [if_pos c5] at H
   have LMc5 := Aside0.mk c5
   clear c5
   obtain ⟨y160, hy160⟩ : ∃ y_ : List (S86), y_ = (y157 ++ l0_0) := ⟨_, rfl⟩
   replace H : (spec_CloseRecord.l0 k t154 0 l0_0 l0_1 y160 ([] : List (S95))) = some (r1, r2, r3) := by first | (rw [hy160]; with_reducible exact H) | (have H2_ := (Option.bind_some _ _).symm.trans H; rw [hy160]; with_reducible exact H2_) | (have H2_ := (Option.bind_some _ _).symm.trans H; with_reducible exact H2_) | with_reducible exact H | (rw [hy160]; exact H) | exact H
   have Ny160 := Aside0.mk hy160
   clear hy160
   have H' := Aside0.mk H
   clear H
   go_enter Try.func29, Try.ntmps29
   go_wp2_with (first | ((with_reducible refine gate_dst (N := 1) rfl ?_); refine box_event ?hg (N := 1) ?hd (cs := #[.slice A0_0 l0_0.length c0_0, .slice A0_1 l0_1.length c0_1]) (t := 33) ?hr ?_; (case hd => rfl); (case hg => rfl); (case hr => first | (go_simp; done) | (go_simp; rfl)); intro gb151 hg w6 hbox hb; have n0_ := Aside0.mk (below_step (wz_ HB.out) hb); have n1_ := Aside0.mk (hbox); have n2_ := Aside0.mk ((by rw [hg]; exact (below_size (wz_ HB.out)) : w.heap.size ≤ gb151)); have n3_ := Aside0.mk ((by rw [hg]; exact (below_size (wz_ HB.out)) : w.heap.size ≤ gb151)); clear HB; have HB := n0_; have BK151 := n1_; have GW151 := n2_; have GE151 := n3_; clear n0_ n1_ n2_ n3_; clear hb hbox hg) | ((with_reducible refine gate_dst (N := 2) rfl ?_); refine box_event ?hg (N := 2) ?hd (cs := #[.slice none 0 0, .slice none 0 0]) (t := 33) ?hr ?_; (case hd => rfl); (case hg => rfl); (case hr => first | (go_simp; done) | (go_simp; rfl)); intro gb152 hg w7 hbox hb; have n0_ := Aside0.mk (blk_below (bz_ BK151.out) hb); have n1_ := Aside0.mk (below_step (by repeat (first | (with_reducible first | exact HB.out | apply below_alloc | apply pw_below_drewN | apply below_drew1 | refine below_set ?_ GE151.out) | exact HB.out)) hb); have n2_ := Aside0.mk (hbox); have n3_ := Aside0.mk ((by rw [hg]; exact (below_size (by repeat (first | (with_reducible first | exact HB.out | apply below_alloc | apply pw_below_drewN | apply below_drew1 | refine below_set ?_ GE151.out) | exact HB.out))) : w.heap.size ≤ gb152)); have n4_ := Aside0.mk ((by rw [hg]; exact (below_size (by repeat (first | (with_reducible first | exact HB.out | apply below_alloc | apply pw_below_drewN | apply below_drew1 | refine below_set ?_ GE151.out) | exact HB.out))) : w.heap.size ≤ gb152)); have n5_ := Aside0.mk ((by rw [hg]; exact Nat.ne_of_lt (blk_lt (g := gb151) (o := .cells #[.slice A0_0 l0_0.length c0_0, .slice A0_1 l0_1.length c0_1] 33 (0, 0)) (bz_ BK151.out)) : gb151 ≠ gb152)); have n6_ := Aside0.mk ((by rw [hg]; exact Nat.ne_of_gt (blk_lt (g := gb151) (o := .cells #[.slice A0_0 l0_0.length c0_0, .slice A0_1 l0_1.length c0_1] 33 (0, 0)) (bz_ BK151.out)) : gb152 ≠ gb151)); clear BK151; clear HB; have BK151 := n0_; have HB := n1_; have BK152 := n2_; have GW152 := n3_; have GE152 := n4_; have NB151_152 := n5_; have NB152_151 := n6_; clear n0_ n1_ n2_ n3_ n4_ n5_ n6_; clear hb hbox hg; have hnb8 := NB151_152.out; have hnc8 := NB152_151.out; have hcz9_0 : w7.cell? ⟨gb151, 0, none⟩ = some (.slice A0_0 l0_0.length c0_0) := (blk_cell BK151.out 0).trans rfl; have hcz9_1 : w7.cell? ⟨gb151, 1, none⟩ = some (.slice A0_1 l0_1.length c0_1) := (blk_cell BK151.out 1).trans rfl; have hfz9_0 := blk_frozen BK151.out 0; have hfz9_1 := blk_frozen BK151.out 1) | ((with_reducible refine gate_callee (f := 78) rfl ?_); refine goesL_ (some 9) rfl rfl Try.func78 (by kernel_rfl) rfl #[.agg #[.slice A0_0 l0_0.length c0_0, .slice A0_1 l0_1.length c0_1]] rfl (by (try simp only [List.map_toArray, List.map_cons, List.map_nil]); first | done | rfl | (simp only [List.length_drop, List.length_take]; rfl)) ?_; (with_reducible refine (spec_l5Good.calls k _ _ l0_0 _ _ l0_1 true _ ?side1 ?side2 ?side3 ?side4 A2.out).mono ?_); (case side1 => exact cz_ (Kd.C_below HR0_0.out HB.out)); (case side2 => exact HC0_0.out); (case side3 => exact cz_ (Kd.C_below HR0_1.out HB.out)); (case side4 => exact HC0_1.out); rintro e w10 ⟨rfl, hb⟩; refine ⟨_, rfl, ?_⟩; have n0_ := Aside0.mk (blk_below (bz_ BK151.out) hb); have n1_ := Aside0.mk (blk_below (bz_ BK152.out) hb); have n2_ := Aside0.mk (below_step (by repeat (first | (with_reducible first | exact HB.out | apply below_alloc | apply pw_below_drewN | apply below_drew1 | refine below_set ?_ GE151.out | refine below_set ?_ GE152.out) | exact HB.out)) hb); clear BK151; clear BK152; clear HB; have BK151 := n0_; have BK152 := n1_; have HB := n2_; clear n0_ n1_ n2_; (try clear hb); (try clear hb2); (try clear hk); (try clear hi); have hcz11_0 : w10.cell? ⟨gb151, 0, none⟩ = some (.slice A0_0 l0_0.length c0_0) := (blk_cell BK151.out 0).trans rfl; have hcz11_1 : w10.cell? ⟨gb151, 1, none⟩ = some (.slice A0_1 l0_1.length c0_1) := (blk_cell BK151.out 1).trans rfl; have hfz11_0 := blk_frozen BK151.out 0; have hfz11_1 := blk_frozen BK151.out 1) | ((with_reducible refine gate_callee (f := 73) rfl ?_); refine goesL_ (some 13) rfl rfl Try.func73 (by kernel_rfl) rfl #[.agg #[.slice A0_0 l0_0.length c0_0, .slice A0_1 l0_1.length c0_1]] rfl (by (try simp only [List.map_toArray, List.map_cons, List.map_nil]); first | done | rfl | (simp only [List.length_drop, List.length_take]; rfl)) ?_; (with_reducible refine (spec_l4Later.calls k _ _ l0_0 _ _ l0_1 t154 _ ?side1 ?side2 ?side3 ?side4 A4.out).mono ?_); (case side1 => exact cz_ (Kd.C_below HR0_0.out HB.out)); (case side2 => exact HC0_0.out); (case side3 => exact cz_ (Kd.C_below HR0_1.out HB.out)); (case side4 => exact HC0_1.out); rintro e w12 ⟨v155, rfl, ho0, hb⟩; refine ⟨_, rfl, ?_⟩; have n0_ := Aside0.mk (Kd.R_lower ho0 (below_size (by repeat (first | (with_reducible first | exact HB.out | apply below_alloc | apply pw_below_drewN | apply below_drew1 | refine below_set ?_ GE151.out | refine below_set ?_ GE152.out) | exact HB.out)))); have n1_ := Aside0.mk (blk_below (bz_ BK151.out) hb); have n2_ := Aside0.mk (blk_below (bz_ BK152.out) hb); have n3_ := Aside0.mk (below_step (by repeat (first | (with_reducible first | exact HB.out | apply below_alloc | apply pw_below_drewN | apply below_drew1 | refine below_set ?_ GE151.out | refine below_set ?_ GE152.out) | exact HB.out)) hb); clear BK151; clear BK152; clear HB; have HO156 := n0_; have BK151 := n1_; have BK152 := n2_; have HB := n3_; clear n0_ n1_ n2_ n3_; (try clear hb); (try clear hb2); (try clear hk); (try clear hi); (try clear ho0)) | ((with_reducible refine gate_dst (N := 14) rfl ?_); refine Kd.R_lit k86 _ 86 ?hg (N := 14) ?hd (xs := ([] : List (S86))) (inner := []) (ok := fun _ => True) (okp := fun _ => True) ?hr ?hp (fun _ hk => hk) trivial (Below.refl _ _) (Nat.le_refl _) (by simp) ?_; (case hd => rfl); (case hg => rfl); (case hr => first | (go_simp; done) | (go_simp; rfl)); (case hp => exact (Reps.none _ _)); intro v158 w13 ho14 hb hg_ hnew_; clear hg_ hnew_; (first | rw [← Ny157.out] at ho14 | (simp only [Int.reduceToNat] at ho14; rw [← Ny157.out] at ho14)); have n0_ := Aside0.mk (Kd.R_below (rz_ HO156.out) hb); have n1_ := Aside0.mk (Kd.R_lower ho14 (below_size (by repeat (first | (with_reducible first | exact HB.out | apply below_alloc | apply pw_below_drewN | apply below_drew1 | refine below_set ?_ GE151.out | refine below_set ?_ GE152.out) | exact HB.out)))); have n2_ := Aside0.mk (blk_below (bz_ BK151.out) hb); have n3_ := Aside0.mk (blk_below (bz_ BK152.out) hb); have n4_ := Aside0.mk (below_step (by repeat (first | (with_reducible first | exact HB.out | apply below_alloc | apply pw_below_drewN | apply below_drew1 | refine below_set ?_ GE151.out | refine below_set ?_ GE152.out) | exact HB.out)) hb); clear HO156; clear BK151; clear BK152; clear HB; have HO156 := n0_; have HO159 := n1_; have BK151 := n2_; have BK152 := n3_; have HB := n4_; clear n0_ n1_ n2_ n3_ n4_; clear hb ho14; have hcz15_0 : w13.cell? ⟨gb151, 0, none⟩ = some (.slice A0_0 l0_0.length c0_0) := (blk_cell BK151.out 0).trans rfl; have hcz15_1 : w13.cell? ⟨gb151, 1, none⟩ = some (.slice A0_1 l0_1.length c0_1) := (blk_cell BK151.out 1).trans rfl; have hfz15_0 := blk_frozen BK151.out 0; have hfz15_1 := blk_frozen BK151.out 1) | ((with_reducible refine gate_builtin (b := .append) (xs := #[.tmp 14, .tmp 16]) rfl ?_); at_builtin; refine Kd.R_append_rows k86 (w0 := w) w.heap.size rfl (.tmp 14) (.tmp 16) 30 86 (.agg #[(.int .i64 0), (.int .i64 0)]) 16 rfl Try.underlying30 info86 rfl (by decide) (by omega) v158 y157 l0_0 _ _ _ (fun _ => True) (fun _ => False) rfl rfl ?aO ?aR (fun _ _ h => h) (fun _ h => h.elim) ?aF ?aB ?aS ?aL ?_; (case aR => exact cz_ (Kd.C_below HR0_0.out HB.out)); (case aB => exact (by repeat (first | (with_reducible first | exact HB.out | apply below_alloc | apply pw_below_drewN | apply below_drew1 | refine below_set ?_ GE151.out | refine below_set ?_ GE152.out) | exact HB.out))); (case aF => exact (fun _ _ => trivial)); (case aO => exact (rz_ HO159.out)); (case aS => exact (below_size (by repeat (first | (with_reducible first | exact HB.out | apply below_alloc | apply pw_below_drewN | apply below_drew1 | refine below_set ?_ GE151.out | refine below_set ?_ GE152.out) | exact HB.out)))); (case aL => have := LMc5.out; omega); intro v161 w16 ho hb hg hat; rw [← Ny160.out] at ho; have n0_ := Aside0.mk (blk_grown (g := gb151) (o := .cells #[.slice A0_0 l0_0.length c0_0, .slice A0_1 l0_1.length c0_1] 33 (0, 0)) (bz_ BK151.out) hg (Kd.R_ne HO159.out BK151.out (by decide))); have n1_ := Aside0.mk (blk_grown (g := gb152) (o := .cells #[.slice none 0 0, .slice none 0 0] 33 (0, 0)) (bz_ BK152.out) hg (Kd.R_ne HO159.out BK152.out (by decide))); have n2_ := Aside0.mk (Kd.R_over' (rz_ HO156.out) (Kd.R_typed (rz_ HO159.out)) (by decide) hg); have n3_ := Aside0.mk (hb); have n4_ := Aside0.mk (ho); clear BK151; clear BK152; clear HO156; clear HB; clear HO159; have BK151 := n0_; have BK152 := n1_; have HO156 := n2_; have HB := n3_; have HO162 := n4_; clear n0_ n1_ n2_ n3_ n4_; clear ho hb hg hat; obtain ⟨Ao17, co17, eo17⟩ := Kd.R_slice HO162.out; subst eo17) | ((with_reducible refine gate_dst (N := 5) rfl ?_); refine box_event ?hg (N := 5) ?hd (cs := #[.slice none 0 0, .slice none 0 0]) (t := 33) ?hr ?_; (case hd => rfl); (case hg => rfl); (case hr => first | (go_simp; done) | (go_simp; rfl)); intro gb163 hg w18 hbox hb; have n0_ := Aside0.mk (Kd.R_below (rz_ HO156.out) hb); have n1_ := Aside0.mk (Kd.R_below (rz_ HO162.out) hb); have n2_ := Aside0.mk (blk_below (bz_ BK151.out) hb); have n3_ := Aside0.mk (blk_below (bz_ BK152.out) hb); have n4_ := Aside0.mk (below_step (by repeat (first | (with_reducible first | exact HB.out | apply below_alloc | apply pw_below_drewN | apply below_drew1 | refine below_set ?_ GE151.out | refine below_set ?_ GE152.out) | exact HB.out)) hb); have n5_ := Aside0.mk (hbox); have n6_ := Aside0.mk ((by rw [hg]; exact (below_size (by repeat (first | (with_reducible first | exact HB.out | apply below_alloc | apply pw_below_drewN | apply below_drew1 | refine below_set ?_ GE151.out | refine below_set ?_ GE152.out) | exact HB.out))) : w.heap.size ≤ gb163)); have n7_ := Aside0.mk ((by rw [hg]; exact (below_size (by repeat (first | (with_reducible first | exact HB.out | apply below_alloc | apply pw_below_drewN | apply below_drew1 | refine below_set ?_ GE151.out | refine below_set ?_ GE152.out) | exact HB.out))) : w.heap.size ≤ gb163)); have n8_ := Aside0.mk ((by rw [hg]; exact Nat.ne_of_lt (blk_lt (g := gb151) (o := .cells #[.slice A0_0 l0_0.length c0_0, .slice A0_1 l0_1.length c0_1] 33 (0, 0)) (bz_ BK151.out)) : gb151 ≠ gb163)); have n9_ := Aside0.mk ((by rw [hg]; exact Nat.ne_of_gt (blk_lt (g := gb151) (o := .cells #[.slice A0_0 l0_0.length c0_0, .slice A0_1 l0_1.length c0_1] 33 (0, 0)) (bz_ BK151.out)) : gb163 ≠ gb151)); have n10_ := Aside0.mk ((by rw [hg]; exact Nat.ne_of_lt (blk_lt (g := gb152) (o := .cells #[.slice none 0 0, .slice none 0 0] 33 (0, 0)) (bz_ BK152.out)) : gb152 ≠ gb163)); have n11_ := Aside0.mk ((by rw [hg]; exact Nat.ne_of_gt (blk_lt (g := gb152) (o := .cells #[.slice none 0 0, .slice none 0 0] 33 (0, 0)) (bz_ BK152.out)) : gb163 ≠ gb152)); clear HO156; clear HO162; clear BK151; clear BK152; clear HB; have HO156 := n0_; have HO162 := n1_; have BK151 := n2_; have BK152 := n3_; have HB := n4_; have BK163 := n5_; have GW163 := n6_; have GE163 := n7_; have NB151_163 := n8_; have NB163_151 := n9_; have NB152_163 := n10_; have NB163_152 := n11_; clear n0_ n1_ n2_ n3_ n4_ n5_ n6_ n7_ n8_ n9_ n10_ n11_; clear hb hbox hg; have hnb19 := NB163_151.out; have hnc19 := NB151_163.out; have hnb20 := NB163_152.out; have hnc20 := NB152_163.out; have hcz21_0 : w18.cell? ⟨gb163, 0, none⟩ = some (.slice none 0 0) := (blk_cell BK163.out 0).trans rfl; have hcz21_1 : w18.cell? ⟨gb163, 1, none⟩ = some (.slice none 0 0) := (blk_cell BK163.out 1).trans rfl; have hfz21_0 := blk_frozen BK163.out 0; have hfz21_1 := blk_frozen BK163.out 1))
   go_loopg [6] k (fun kq v6 w' => ∃ (x6_1 : Int) (x164001_1 : List (S95)) (u164001 : Value), v6 = .int .i64 x6_1 ∧ Aside0 (spec_CloseRecord.l0 kq t154 x6_1 l0_0 l0_1 y160 x164001_1 = some (r1, r2, r3)) ∧ Aside0 (kq ≤ k) ∧ Aside0 (Kd.R (Kd.int .i64) 3 w' w.heap.size (fun _ => True) v155 t154) ∧ Aside0 (Kd.R k86 86 w' w.heap.size (fun _ => True) (.slice Ao17 y160.length co17) y160) ∧ Aside0 (Kd.R k95 95 w' w.heap.size (fun _ => True) u164001 x164001_1) ∧ Aside0 (w'.heap[gb151]? = some (.cells #[(.slice A0_0 l0_0.length c0_0), (.slice A0_1 l0_1.length c0_1)] 33 (0, 0))) ∧ Aside0 (w'.heap[gb152]? = some (.cells #[(.slice none 0 0), (.slice none 0 0)] 33 (0, 0))) ∧ Aside0 (w'.heap[gb163]? = some (.cells #[(.slice Ao17 y160.length co17), u164001] 33 (0, 0))) ∧ Aside0 (Below w.heap.size w w'))
   case atStart => exact ⟨(0), (([] : List (S95))), (.slice none 0 0), (by first | rfl | (simp; done) | (simp [*]; done)), H', ⟨Nat.le_refl _⟩, ⟨rz_ (Kd.R_mono (Kd.R_far (p := ⟨gb163, 1, none⟩) (Kd.R_far (p := ⟨gb163, 0, none⟩) (Kd.R_types HO156.out BK163.out (by decide)) (fun _ hk => hk.2) (.slice Ao17 y160.length co17)) (fun _ hk => hk.2) (.slice none 0 0)) (fun _ hk => trivial))⟩, ⟨rz_ (Kd.R_mono (Kd.R_far (p := ⟨gb163, 1, none⟩) (Kd.R_far (p := ⟨gb163, 0, none⟩) (Kd.R_types HO162.out BK163.out (by decide)) (fun _ hk => hk.2) (.slice Ao17 y160.length co17)) (fun _ hk => hk.2) (.slice none 0 0)) (fun _ hk => trivial))⟩, ⟨by first | exact Kd.R_nil _ _ _ _ _ | exact Kd.N_nil _ _ _ _ _ | exact Kd.V_nil _ _ _ _ _ | exact Kd.Q_nil _ _ _ _ _ | exact Kd.S_nil _ _ _ _ _⟩, ⟨by (with_reducible repeat (first | refine blk_drewN ?_ _ | refine blk_drew ?_ | refine blk_alloc ?_ _)); refine blk_far ?_ NB151_163.out _; (with_reducible repeat (first | refine blk_drewN ?_ _ | refine blk_drew ?_ | refine blk_alloc ?_ _)); refine blk_far ?_ NB151_163.out _; (with_reducible repeat (first | refine blk_drewN ?_ _ | refine blk_drew ?_ | refine blk_alloc ?_ _)); exact BK151.out⟩, ⟨by (with_reducible repeat (first | refine blk_drewN ?_ _ | refine blk_drew ?_ | refine blk_alloc ?_ _)); refine blk_far ?_ NB152_163.out _; (with_reducible repeat (first | refine blk_drewN ?_ _ | refine blk_drew ?_ | refine blk_alloc ?_ _)); refine blk_far ?_ NB152_163.out _; (with_reducible repeat (first | refine blk_drewN ?_ _ | refine blk_drew ?_ | refine blk_alloc ?_ _)); exact BK152.out⟩, ⟨by (with_reducible repeat (first | refine blk_drewN ?_ _ | refine blk_drew ?_ | refine blk_alloc ?_ _)); refine blk_put (cs := #[.slice Ao17 y160.length co17, .slice none 0 0]) ?_ 1 _ rfl; (with_reducible repeat (first | refine blk_drewN ?_ _ | refine blk_drew ?_ | refine blk_alloc ?_ _)); refine blk_put (cs := #[.slice none 0 0, .slice none 0 0]) ?_ 0 _ rfl; (with_reducible repeat (first | refine blk_drewN ?_ _ | refine blk_drew ?_ | refine blk_alloc ?_ _)); exact BK163.out⟩, ⟨by repeat (first | (with_reducible first | exact HB.out | apply below_alloc | apply pw_below_drewN | apply below_drew1 | refine below_set ?_ GE151.out | refine below_set ?_ GE152.out | refine below_set ?_ GE163.out) | exact HB.out)⟩⟩
   case round =>
    clear H'
    try clear c1
    try clear c2
    try clear p2
    try clear c3
    try clear c5
    try clear c7
    try clear c8
    try clear c19
    try clear c20
    try clear hcz11_0
    try clear hcz11_1
    try clear hcz15_0
    try clear hcz15_1
    try clear hcz21_0
    try clear hcz21_1
    try clear hcz9_0
    try clear hcz9_1
    try clear hfz11_0
    try clear hfz11_1
    try clear hfz15_0
    try clear hfz15_1
    try clear hfz21_0
    try clear hfz21_1
    try clear hfz9_0
    try clear hfz9_1
    obtain ⟨x6_1, x164001_1, u164001, rfl, HA, HK1, HO_4, HO_164000, HO_164001, BK151, BK152, BK163, HB⟩ := hrel
    cases gk with
    | zero => exact absurd HA.out (by simp [spec_CloseRecord.l0])
    | succ k1 =>
     have H := HA.out
     clear HA
     simp only [spec_CloseRecord.l0] at H
     by_cases c22 : x6_1 < (t154.length : Int)
     ·rw [if_pos c22] at H
      have c22b0 : decide (x6_1 < (t154.length : Int)) = true := decide_eq_true c22
      clear c22
      have H' := Aside0.mk H
      clear H
      obtain ⟨Ao23, co23, eo23⟩ := Kd.R_slice HO_4.out
      subst eo23
      go_wp2
      go_loopg [7] k1 (fun kq v7 w' => ∃ (x7_2 : Int) (x164001_2 : List (S95)) (u164001 : Value), v7 = .int .i64 x7_2 ∧ Aside0 (spec_CloseRecord.l1 kq t154 x6_1 x7_2 l0_0 l0_1 y160 x164001_2 = some (r1, r2, r3)) ∧ Aside0 (kq ≤ k1) ∧ Aside0 (Kd.R (Kd.int .i64) 3 w' w.heap.size (fun _ => True) (.slice Ao23 t154.length co23) t154) ∧ Aside0 (Kd.R k86 86 w' w.heap.size (fun _ => True) (.slice Ao17 y160.length co17) y160) ∧ Aside0 (Kd.R k95 95 w' w.heap.size (fun _ => True) u164001 x164001_2) ∧ Aside0 (w'.heap[gb151]? = some (.cells #[(.slice A0_0 l0_0.length c0_0), (.slice A0_1 l0_1.length c0_1)] 33 (0, 0))) ∧ Aside0 (w'.heap[gb152]? = some (.cells #[(.slice none 0 0), (.slice none 0 0)] 33 (0, 0))) ∧ Aside0 (w'.heap[gb163]? = some (.cells #[(.slice Ao17 y160.length co17), u164001] 33 (0, 0))) ∧ Aside0 (Below w.heap.size w w'))
      case atStart => exact ⟨(0), (x164001_1), (u164001), (by first | rfl | (simp; done) | (simp [*]; done)), H', ⟨Nat.le_refl _⟩, ⟨rz_ HO_4.out⟩, ⟨rz_ HO_164000.out⟩, ⟨rz_ HO_164001.out⟩, ⟨bz_ BK151.out⟩, ⟨bz_ BK152.out⟩, ⟨bz_ BK163.out⟩, ⟨by repeat (first | (with_reducible first | exact HB.out | apply below_alloc | apply pw_below_drewN | apply below_drew1 | refine below_set ?_ GE151.out | refine below_set ?_ GE152.out | refine below_set ?_ GE163.out) | exact HB.out)⟩⟩
      case round =>
       clear H'
       try clear c1
       try clear c2
       try clear p2
       try clear c3
       try clear c5
       try clear c7
       try clear c8
       try clear c19
       try clear c20
       try clear c22
       try clear c22b0
       try clear hcz11_0
       try clear hcz11_1
       try clear hcz15_0
       try clear hcz15_1
       try clear hcz21_0
       try clear hcz21_1
       try clear hcz9_0
       try clear hcz9_1
       try clear hfz11_0
       try clear hfz11_1
       try clear hfz15_0
       try clear hfz15_1
       try clear hfz21_0
       try clear hfz21_1
       try clear hfz9_0
       try clear hfz9_1
       try clear p2
       obtain ⟨x7_2, x164001_2, u164001, rfl, HA, HK2, HO_4, HO_164000, HO_164001, BK151, BK152, BK163, HB⟩ := hrel
       cases gk with
       | zero => exact absurd HA.out (by simp [spec_CloseRecord.l1])
       | succ k2 =>
        have H := HA.out
        clear HA
        simp only [spec_CloseRecord.l1] at H
        by_cases c24 : x7_2 < (t154.length : Int)
        ·rw [if_pos c24] at H
         have c24b0 : decide (x7_2 < (t154.length : Int)) = true := decide_eq_true c24
         clear c24
         by_cases c25 : 0 ≤ x6_1
         ·rw [if_pos c25] at H
          have c25b0 : decide (0 ≤ x6_1) = true := decide_eq_true c25
          clear c25
          by_cases c26 : x6_1 < (t154.length : Int)
          ·rw [if_pos c26] at H
           have c26b0 : decide (x6_1 < (t154.length : Int)) = true := decide_eq_true c26
           clear c26
           replace H := Option.bind_eq_some_iff.mp H
           obtain ⟨t166, A270, H⟩ := H
           replace H : (if t166 = true then (if x6_1 < (l0_0.length : Int) then (if 0 ≤ x7_2 then (if x7_2 < (l0_0.length : Int) then (if x164001_2.length < 8796093022208 then (spec_CloseRecord.l1 k2 t154 x6_1 (wrap64 (x7_2 + 1)) l0_0 l0_1 y160 (x164001_2 ++ [(⟨(rd_T86 l0_0 x6_1).f0, (rd_T86 l0_0 x7_2).f0⟩ : S95)])) else (none)) else (none)) else (none)) else (none)) else (spec_CloseRecord.l1 k2 t154 x6_1 (wrap64 (x7_2 + 1)) l0_0 l0_1 y160 x164001_2)) = some (r1, r2, r3) := H
           have A27 := Aside0.mk A270
           clear A270
           by_cases c28 : t166 = true
           ·subst c28
            have H1 : (if x6_1 < (l0_0.length : Int) then (if 0 ≤ x7_2 then (if x7_2 < (l0_0.length : Int) then (if x164001_2.length < 8796093022208 then (spec_CloseRecord.l1 k2 t154 x6_1 (wrap64 (x7_2 + 1)) l0_0 l0_1 y160 (x164001_2 ++ [(⟨(rd_T86 l0_0 x6_1).f0, (rd_T86 l0_0 x7_2).f0⟩ : S95)])) else (none)) else (none)) else (none)) else (none)) = some (r1, r2, r3) := by rw [if_pos rfl] at H; exact H
            clear H
            have H := H1
            clear H1
            by_cases c29 : x6_1 < (l0_0.length : Int)
            ·rw [if_pos c29] at H
             have c29b0 : decide (x6_1 < (l0_0.length : Int)) = true := decide_eq_true c29
             clear c29
             by_cases c30 : 0 ≤ x7_2
             ·rw [if_pos c30] at H
              have c30b0 : decide (0 ≤ x7_2) = true := decide_eq_true c30
              clear c30
              by_cases c31 : x7_2 < (l0_0.length : Int)
              ·rw [if_pos c31] at H
               have c31b0 : decide (x7_2 < (l0_0.length : Int)) = true := decide_eq_true c31
               clear c31
               by_cases c32 : x164001_2.length < 8796093022208
               ·rw [if_pos c32] at H
                have LMc32 := Aside0.mk c32
                clear c32
                obtain ⟨y169, hy169⟩ : ∃ y_ : List (S95), y_ = (x164001_2 ++ [(⟨(rd_T86 l0_0 x6_1).f0, (rd_T86 l0_0 x7_2).f0⟩ : S95)]) := ⟨_, rfl⟩
                replace H : (spec_CloseRecord.l1 k2 t154 x6_1 (wrap64 (x7_2 + 1)) l0_0 l0_1 y160 y169) = some (r1, r2, r3) := by first | (rw [hy169]; with_reducible exact H) | (have H2_ := (Option.bind_some _ _).symm.trans H; rw [hy169]; with_reducible exact H2_) | (have H2_ := (Option.bind_some _ _).symm.trans H; with_reducible exact H2_) | with_reducible exact H | (rw [hy169]; exact H) | exact H
                have Ny169 := Aside0.mk hy169
                clear hy169
                have H' := Aside0.mk H
                clear H
                have p165 : 0 ≤ (x6_1 : Int) := of_decide_eq_true (by first | (with_reducible assumption) | assumption)
                have q165 : x6_1 < (t154.length : Int) := of_decide_eq_true (by first | (with_reducible assumption) | assumption)
                obtain ⟨ad165, e165, hx165_0⟩ := Kd.at_int (Kd.R_reads' HO_4.out).2.2 x6_1 p165 q165
                cases e165
                replace p165 := eq_true p165
                replace q165 := eq_true q165
                try go_wp2_with (first | ((with_reducible refine gate_callee (f := 74) rfl ?_); refine goesL_ (some 36) rfl rfl Try.func74 (by kernel_rfl) rfl #[.int .i64 (rd t154 x6_1), .int .i64 x7_2] rfl (by (try simp only [List.map_toArray, List.map_cons, List.map_nil]); first | done | rfl | (simp only [List.length_drop, List.length_take]; rfl)) ?_; (with_reducible refine (spec_l4Bit.calls (rd t154 x6_1) x7_2 true _ A27.out).mono ?_); rintro e w' ⟨rfl, ⟨nd, rfl⟩⟩; refine ⟨_, rfl, ?_⟩; (try (rw [drewN_self wr]; generalize hq_ : World.drewN wr _ = wr; have n0_ : Aside0 (Kd.R k86 86 wr w.heap.size (fun _ => True) (.slice Ao17 y160.length co17) y160) := ⟨by rw [← hq_]; exact (rz_ HO_164000.out)⟩; have n1_ : Aside0 (Kd.R k95 95 wr w.heap.size (fun _ => True) u164001 x164001_2) := ⟨by rw [← hq_]; exact (rz_ HO_164001.out)⟩; have n2_ : Aside0 (Kd.R (Kd.int .i64) 3 wr w.heap.size (fun _ => True) (.slice (some ad165) t154.length co23) t154) := ⟨by rw [← hq_]; exact (rz_ HO_4.out)⟩; have n3_ : Aside0 (wr.heap[gb151]? = some (.cells #[.slice A0_0 l0_0.length c0_0, .slice A0_1 l0_1.length c0_1] 33 (0, 0))) := ⟨by rw [← hq_]; exact (bz_ BK151.out)⟩; have n4_ : Aside0 (wr.heap[gb152]? = some (.cells #[.slice none 0 0, .slice none 0 0] 33 (0, 0))) := ⟨by rw [← hq_]; exact (bz_ BK152.out)⟩; have n5_ : Aside0 (wr.heap[gb163]? = some (.cells #[.slice Ao17 y160.length co17, u164001] 33 (0, 0))) := ⟨by rw [← hq_]; exact (bz_ BK163.out)⟩; have n6_ : Aside0 (Below w.heap.size w wr) := ⟨by rw [← hq_]; exact (by repeat (first | (with_reducible first | exact HB.out | apply below_alloc | apply pw_below_drewN | apply below_drew1 | refine below_set ?_ GE151.out | refine below_set ?_ GE152.out | refine below_set ?_ GE163.out) | exact HB.out))⟩; clear HO_164000 HO_164001 HO_4 BK151 BK152 BK163 HB hq_; have HO_164000 := n0_; have HO_164001 := n1_; have HO_4 := n2_; have BK151 := n3_; have BK152 := n4_; have BK163 := n5_; have HB := n6_; clear n0_ n1_ n2_ n3_ n4_ n5_ n6_))))
                have n0_ := Aside0.mk (Kd.R_drew HO_4.out)
                have n1_ := Aside0.mk (Kd.R_drew HO_164000.out)
                have n2_ := Aside0.mk (Kd.R_drew HO_164001.out)
                have n3_ := Aside0.mk (blk_drew BK151.out)
                have n4_ := Aside0.mk (blk_drew BK152.out)
                have n5_ := Aside0.mk (blk_drew BK163.out)
                have n6_ := Aside0.mk (below_drew1 HB.out)
                clear HO_4
                clear HO_164000
                clear HO_164001
                clear BK151
                clear BK152
                clear BK163
                clear HB
                have HO_4 := n0_
                have HO_164000 := n1_
                have HO_164001 := n2_
                have BK151 := n3_
                have BK152 := n4_
                have BK163 := n5_
                have HB := n6_
                clear n0_ n1_ n2_ n3_ n4_ n5_ n6_
                have p167 : 0 ≤ (x6_1 : Int) := of_decide_eq_true (by first | (with_reducible assumption) | assumption)
                have q167 : x6_1 < (l0_0.length : Int) := of_decide_eq_true (by first | (with_reducible assumption) | assumption)
                obtain ⟨ad167, e167, hx167_0, hx167_1⟩ := at_T86 HR0_0.out x6_1 p167 q167
                have hw167_1 := hx167_1
                have hw167_0 := hx167_0
                cases e167
                replace hx167_0 := (HB.out.cell (World.block_lt_of_cell? w _ hx167_0)).trans hx167_0
                replace hx167_1 := (HB.out.cell (World.block_lt_of_cell? w _ hx167_1)).trans hx167_1
                replace p167 := eq_true p167
                replace q167 := eq_true q167
                have p168 : 0 ≤ (x7_2 : Int) := of_decide_eq_true (by first | (with_reducible assumption) | assumption)
                have q168 : x7_2 < (l0_0.length : Int) := of_decide_eq_true (by first | (with_reducible assumption) | assumption)
                obtain ⟨ad168, e168, hx168_0, hx168_1⟩ := at_T86 HR0_0.out x7_2 p168 q168
                have hw168_1 := hx168_1
                have hw168_0 := hx168_0
                obtain rfl : ad167 = ad168 := (by injection e168)
                replace hx168_0 := (HB.out.cell (World.block_lt_of_cell? w _ hx168_0)).trans hx168_0
                replace hx168_1 := (HB.out.cell (World.block_lt_of_cell? w _ hx168_1)).trans hx168_1
                replace p168 := eq_true p168
                replace q168 := eq_true q168
                refine start_ (n := 19) (S := fun w' => w'.cell? ⟨gb163, 0, none⟩ = some (.slice Ao17 y160.length co17) ∧ w'.cell? ⟨gb163, 1, none⟩ = some (u164001) ∧ w'.cell? ⟨gb151, 0, none⟩ = some (.slice (some ad167) l0_0.length c0_0) ∧ w'.cell? ⟨gb151, 1, none⟩ = some (.slice A0_1 l0_1.length c0_1) ∧ w'.cell? (ad167.add ((x6_1).toNat * 2)) = some (.int .i64 ((rd_T86 l0_0 x6_1).f0)) ∧ w'.cell? ⟨(ad167.add ((x6_1).toNat * 2)).block, (ad167.add ((x6_1).toNat * 2)).off + 1, none⟩ = some (.int .i64 ((rd_T86 l0_0 x6_1).f1)) ∧ w'.cell? (ad167.add ((x7_2).toNat * 2)) = some (.int .i64 ((rd_T86 l0_0 x7_2).f0)) ∧ w'.cell? ⟨(ad167.add ((x7_2).toNat * 2)).block, (ad167.add ((x7_2).toNat * 2)).off + 1, none⟩ = some (.int .i64 ((rd_T86 l0_0 x7_2).f1))) (ds := [18]) #[false, false, false, false, false, false, false, false, false, false, false, false, false, false, false, false, false, false, false] (by kernel_rfl) rfl rfl ⟨(blk_cell BK163.out 0).trans rfl, (blk_cell BK163.out 1).trans rfl, (blk_cell BK151.out 0).trans rfl, (blk_cell BK151.out 1).trans rfl, ((HB.out.cell (World.block_lt_of_cell? w _ hw167_0)).trans hw167_0), ((HB.out.cell (World.block_lt_of_cell? w _ hw167_1)).trans hw167_1), ((HB.out.cell (World.block_lt_of_cell? w _ hw168_0)).trans hw168_0), ((HB.out.cell (World.block_lt_of_cell? w _ hw168_1)).trans hw168_1)⟩ (fun hHeld => ?_); refine with_tabW spec_CloseRecord.tab12 spec_CloseRecord.bits12 (fun HT_ HW_ => ?_)
                generalize wr.drew = w33 at HO_4 HO_164000 HO_164001 BK151 BK152 BK163 HB hx167_0 hx167_1 hx168_0 hx168_1 hHeld ⊢
                refine pA_ 0 (some 37) (bl 1 19) HT_.out (h := ?_)
                refine pA_ 2 (some 39) #[true, false, true, false, false, false, false, false, false, false, false, false, false, false, false, false, false, false, false] HT_.out (h := ?_)
                refine pA_ 4 (some 41) #[true, false, true, false, true, false, false, false, false, false, false, false, false, false, false, false, false, false, false] HT_.out (h := ?_)
                refine pA_ 8 (some 45) #[true, false, true, false, true, false, false, false, true, false, false, false, false, false, false, false, false, false, false] HT_.out (h := ?_)
                refine pA_ 10 (some 47) #[true, false, true, false, true, false, false, false, true, false, true, false, false, false, false, false, false, false, false] HT_.out (h := ?_)
                refine tA_ 1 (some 38) #[true, true, true, false, true, false, false, false, true, false, true, false, false, false, false, false, false, false, false] HT_.out HW_.out hHeld (h := ?_)
                refine tA_ 3 (some 40) #[true, true, true, true, true, false, false, false, true, false, true, false, false, false, false, false, false, false, false] HT_.out HW_.out hHeld (h := ?_)
                refine pA_ 5 (some 42) #[true, true, true, true, true, true, false, false, true, false, true, false, false, false, false, false, false, false, false] HT_.out (h := ?_)
                refine pA_ 6 (some 43) #[true, true, true, true, true, true, true, false, true, false, true, false, false, false, false, false, false, false, false] HT_.out (h := ?_)
                refine tA_ 7 (some 44) #[true, true, true, true, true, true, true, true, true, false, true, false, false, false, false, false, false, false, false] HT_.out HW_.out hHeld (h := ?_)
                refine tA_ 9 (some 46) (bl 11 19) HT_.out HW_.out hHeld (h := ?_)
                refine pA_ 11 (some 48) (bl 12 19) HT_.out (h := ?_)
                refine pA_ 12 (some 49) (bl 13 19) HT_.out (h := ?_)
                refine tA_ 13 (some 50) (bl 14 19) HT_.out HW_.out hHeld (h := ?_)
                refine pA_ 14 (some 51) (bl 15 19) HT_.out (h := ?_)
                refine one_ (i := 15) (N := some 52) (bl 16 19) rfl rfl (one_of HT_.out (by kernel_rfl)) (by decide) (fun K hK => ?_)
                refine value_ (w1 := ?_) (v := ?_) (by rfl) rfl ?_ ?_
                rotate_left 2
                ·go_simp
                 constructor
                 ·rfl
                 ·rfl
                refine hK.out _ _ ⟨(blk_cell (blk_alloc BK163.out _) 0).trans rfl, (blk_cell (blk_alloc BK163.out _) 1).trans rfl, (blk_cell (blk_alloc BK151.out _) 0).trans rfl, (blk_cell (blk_alloc BK151.out _) 1).trans rfl, (World.cell?_alloc_lt _ _ _ (World.block_lt_of_cell? _ _ (((HB.out.cell (World.block_lt_of_cell? w _ hw167_0)).trans hw167_0)))).trans (((HB.out.cell (World.block_lt_of_cell? w _ hw167_0)).trans hw167_0)), (World.cell?_alloc_lt _ _ _ (World.block_lt_of_cell? _ _ (((HB.out.cell (World.block_lt_of_cell? w _ hw167_1)).trans hw167_1)))).trans (((HB.out.cell (World.block_lt_of_cell? w _ hw167_1)).trans hw167_1)), (World.cell?_alloc_lt _ _ _ (World.block_lt_of_cell? _ _ (((HB.out.cell (World.block_lt_of_cell? w _ hw168_0)).trans hw168_0)))).trans (((HB.out.cell (World.block_lt_of_cell? w _ hw168_0)).trans hw168_0)), (World.cell?_alloc_lt _ _ _ (World.block_lt_of_cell? _ _ (((HB.out.cell (World.block_lt_of_cell? w _ hw168_1)).trans hw168_1)))).trans (((HB.out.cell (World.block_lt_of_cell? w _ hw168_1)).trans hw168_1))⟩ (fun hHeld => ?_)
                clear hK K
                refine norm_ (a' := ?_) ?_ ?_
                rotate_left
                ·show Act.put _ (some 52) _ = _
                 simp only [Act.put, List.setIfInBounds_toArray, List.set_cons_zero, List.set_cons_succ, i64_w, i32_w]
                 rfl
                refine one_ (i := 16) (N := some 53) (bl 17 19) rfl rfl (one_of HT_.out (by kernel_rfl)) (by decide) (fun K hK => ?_)
                refine Kd.R_append_step k95 (w0 := w) w.heap.size (by rfl) (.tmp 38) (.tmp 52) 31 95 (.agg #[(.int .i64 0), (.int .i64 0)]) 16 rfl Try.underlying31 info95 rfl (by decide) (by omega) u164001 x164001_2 (⟨(rd_T86 l0_0 x6_1).f0, (rd_T86 l0_0 x7_2).f0⟩ : S95) [.int .i64 ((rd_T86 l0_0 x6_1).f0), .int .i64 ((rd_T86 l0_0 x7_2).f0)] (fun _ => True) (fun _ => False) rfl rfl ?aP (fun _ hk => hk.elim) ?aF ?aO ?aB ?aS ?aL ?_
                (case aP => exact k95_mkM _ _ _ (⟨(rd_T86 l0_0 x6_1).f0, (rd_T86 l0_0 x7_2).f0⟩ : S95))
                (case aB => exact (by repeat (first | (with_reducible first | exact HB.out | apply below_alloc | apply pw_below_drewN | apply below_drew1 | refine below_set ?_ GE151.out | refine below_set ?_ GE152.out | refine below_set ?_ GE163.out) | exact HB.out)))
                (case aF => exact (fun _ _ => trivial))
                (case aO => exact (rz_ HO_164001.out))
                (case aS => exact (below_size (by repeat (first | (with_reducible first | exact HB.out | apply below_alloc | apply pw_below_drewN | apply below_drew1 | refine below_set ?_ GE151.out | refine below_set ?_ GE152.out | refine below_set ?_ GE163.out) | exact HB.out))))
                (case aL => have := LMc32.out; omega)
                intro v170 w34 ho hb hg hat
                rw [← Ny169.out] at ho
                have n0_ := Aside0.mk (Kd.R_over' (rz_ HO_4.out) (Kd.R_typed (rz_ HO_164001.out)) (by decide) hg)
                have n1_ := Aside0.mk (Kd.R_over' (rz_ HO_164000.out) (Kd.R_typed (rz_ HO_164001.out)) (by decide) hg)
                have n2_ := Aside0.mk (blk_grown (g := gb151) (o := .cells #[.slice (some ad167) l0_0.length c0_0, .slice A0_1 l0_1.length c0_1] 33 (0, 0)) (bz_ BK151.out) hg (Kd.R_ne HO_164001.out BK151.out (by decide)))
                have n3_ := Aside0.mk (blk_grown (g := gb152) (o := .cells #[.slice none 0 0, .slice none 0 0] 33 (0, 0)) (bz_ BK152.out) hg (Kd.R_ne HO_164001.out BK152.out (by decide)))
                have n4_ := Aside0.mk (blk_grown (g := gb163) (o := .cells #[.slice Ao17 y160.length co17, u164001] 33 (0, 0)) (bz_ BK163.out) hg (Kd.R_ne HO_164001.out BK163.out (by decide)))
                have n5_ := Aside0.mk (hb)
                have n6_ := Aside0.mk (ho)
                clear HO_4
                clear HO_164000
                clear BK151
                clear BK152
                clear BK163
                clear HB
                clear HO_164001
                have HO_4 := n0_
                have HO_164000 := n1_
                have BK151 := n2_
                have BK152 := n3_
                have BK163 := n4_
                have HB := n5_
                have HO171 := n6_
                clear n0_ n1_ n2_ n3_ n4_ n5_ n6_
                clear ho hb hg hat
                obtain ⟨Ao35, co35, eo35⟩ := Kd.R_slice HO171.out
                (first | subst eo35 | (injection eo35 with f1_ f2_ f3_; have f4_ := f1_.symm; have f5_ := f3_.symm; clear f1_ f2_ f3_; subst f4_; subst f5_))
                refine hK.out _ _ ⟨(blk_cell BK163.out 0).trans rfl, (blk_cell BK163.out 1).trans rfl, (blk_cell BK151.out 0).trans rfl, (blk_cell BK151.out 1).trans rfl, ((HB.out.cell (World.block_lt_of_cell? w _ hw167_0)).trans hw167_0), ((HB.out.cell (World.block_lt_of_cell? w _ hw167_1)).trans hw167_1), ((HB.out.cell (World.block_lt_of_cell? w _ hw168_0)).trans hw168_0), ((HB.out.cell (World.block_lt_of_cell? w _ hw168_1)).trans hw168_1)⟩ (fun hHeld => ?_)
                clear hK K
                refine norm_ (a' := ?_) ?_ ?_
                rotate_left
                ·show Act.put _ (some 53) _ = _
                 simp only [Act.put, List.setIfInBounds_toArray, List.set_cons_zero, List.set_cons_succ, i64_w, i32_w]
                 rfl
                refine pA_ 17 (some 54) (bl 18 19) HT_.out (h := ?_)
                refine last_ (i := 18) (N := none) (bl 19 19) rfl rfl (one_of HT_.out (by kernel_rfl)) (by decide) (fun K hK => ?_)
                have hs36 : w34.cell? ⟨gb163, 1, none⟩ = some (u164001) := (blk_cell BK163.out 1).trans rfl
                have hfs36 := blk_frozen BK163.out 1
                have hns36_0 := NB151_163.out
                have hns36_1 := NB152_163.out
                have hms36_0 := NB163_151.out
                have hms36_1 := NB163_152.out
                refine skip_ (w1 := ?_) (by rfl) rfl ?_ ?_
                rotate_left
                ·go_simp
                 rfl
                refine hK.out _ _ ?_
                clear hK K
                refine done_ (done_of HT_.out (by kernel_rfl)) ?_
                try go_wp2
                go_roundg k2
                case measure => have := HK1.out; have := HK2.out; omega
                case rel => exact ⟨(wrap64 (x7_2 + 1)), (y169), (.slice Ao35 y169.length co35), (by first | rfl | (simp; done) | (simp [*]; done)), H', ⟨by have := HK1.out; have := HK2.out; omega⟩, ⟨rz_ (Kd.R_mono (Kd.R_far (p := ⟨gb163, 1, none⟩) (Kd.R_types HO_4.out BK163.out (by decide)) (fun _ hk => hk.2) (.slice Ao35 y169.length co35)) (fun _ hk => trivial))⟩, ⟨rz_ (Kd.R_mono (Kd.R_far (p := ⟨gb163, 1, none⟩) (Kd.R_types HO_164000.out BK163.out (by decide)) (fun _ hk => hk.2) (.slice Ao35 y169.length co35)) (fun _ hk => trivial))⟩, ⟨rz_ (Kd.R_mono (Kd.R_far (p := ⟨gb163, 1, none⟩) (Kd.R_types HO171.out BK163.out (by decide)) (fun _ hk => hk.2) (.slice Ao35 y169.length co35)) (fun _ hk => trivial))⟩, ⟨by (with_reducible repeat (first | refine blk_drewN ?_ _ | refine blk_drew ?_ | refine blk_alloc ?_ _)); refine blk_far ?_ NB151_163.out _; (with_reducible repeat (first | refine blk_drewN ?_ _ | refine blk_drew ?_ | refine blk_alloc ?_ _)); exact BK151.out⟩, ⟨by (with_reducible repeat (first | refine blk_drewN ?_ _ | refine blk_drew ?_ | refine blk_alloc ?_ _)); refine blk_far ?_ NB152_163.out _; (with_reducible repeat (first | refine blk_drewN ?_ _ | refine blk_drew ?_ | refine blk_alloc ?_ _)); exact BK152.out⟩, ⟨by (with_reducible repeat (first | refine blk_drewN ?_ _ | refine blk_drew ?_ | refine blk_alloc ?_ _)); refine blk_put (cs := #[.slice Ao17 y160.length co17, u164001]) ?_ 1 _ rfl; (with_reducible repeat (first | refine blk_drewN ?_ _ | refine blk_drew ?_ | refine blk_alloc ?_ _)); exact BK163.out⟩, ⟨by repeat (first | (with_reducible first | exact HB.out | apply below_alloc | apply pw_below_drewN | apply below_drew1 | refine below_set ?_ GE151.out | refine below_set ?_ GE152.out | refine below_set ?_ GE163.out) | exact HB.out)⟩⟩
               ·rw [if_neg c32] at H
                exact absurd H (by simp)
              ·rw [if_neg c31] at H
               exact absurd H (by simp)
             ·rw [if_neg c30] at H
              exact absurd H (by simp)
            ·rw [if_neg c29] at H
             exact absurd H (by simp)
           ·replace c28 := Bool.eq_false_iff.mpr c28
            subst c28
            have H1 : (spec_CloseRecord.l1 k2 t154 x6_1 (wrap64 (x7_2 + 1)) l0_0 l0_1 y160 x164001_2) = some (r1, r2, r3) := by rw [if_neg (show ¬ (false = true) by decide)] at H; exact H
            clear H
            have H := H1
            clear H1
            have H' := Aside0.mk H
            clear H
            have p165 : 0 ≤ (x6_1 : Int) := of_decide_eq_true (by first | (with_reducible assumption) | assumption)
            have q165 : x6_1 < (t154.length : Int) := of_decide_eq_true (by first | (with_reducible assumption) | assumption)
            obtain ⟨ad165, e165, hx165_0⟩ := Kd.at_int (Kd.R_reads' HO_4.out).2.2 x6_1 p165 q165
            cases e165
            replace p165 := eq_true p165
            replace q165 := eq_true q165
            go_wp2_with (first | ((with_reducible refine gate_callee (f := 74) rfl ?_); refine goesL_ (some 36) rfl rfl Try.func74 (by kernel_rfl) rfl #[.int .i64 (rd t154 x6_1), .int .i64 x7_2] rfl (by (try simp only [List.map_toArray, List.map_cons, List.map_nil]); first | done | rfl | (simp only [List.length_drop, List.length_take]; rfl)) ?_; (with_reducible refine (spec_l4Bit.calls (rd t154 x6_1) x7_2 false _ A27.out).mono ?_); rintro e w' ⟨rfl, ⟨nd, rfl⟩⟩; refine ⟨_, rfl, ?_⟩))
            go_roundg k2
            case measure => have := HK1.out; have := HK2.out; omega
            case rel => exact ⟨(wrap64 (x7_2 + 1)), (x164001_2), (u164001), (by first | rfl | (simp; done) | (simp [*]; done)), H', ⟨by have := HK1.out; have := HK2.out; omega⟩, ⟨rz_ HO_4.out⟩, ⟨rz_ HO_164000.out⟩, ⟨rz_ HO_164001.out⟩, ⟨bz_ BK151.out⟩, ⟨bz_ BK152.out⟩, ⟨bz_ BK163.out⟩, ⟨by repeat (first | (with_reducible first | exact HB.out | apply below_alloc | apply pw_below_drewN | apply below_drew1 | refine below_set ?_ GE151.out | refine below_set ?_ GE152.out | refine below_set ?_ GE163.out) | exact HB.out)⟩⟩
          ·rw [if_neg c26] at H
           exact absurd H (by simp)
         ·rw [if_neg c25] at H
          exact absurd H (by simp)
        ·rw [if_neg c24] at H
         have c24b0 : decide (x7_2 < (t154.length : Int)) = false := decide_eq_false c24
         clear c24
         have H' := Aside0.mk H
         clear H
         go_wp2
         go_roundg k2
         case measure => have := HK1.out; have := HK2.out; omega
         case rel => exact ⟨(wrap64 (x6_1 + 1)), (x164001_2), (u164001), (by first | rfl | (simp; done) | (simp [*]; done)), H', ⟨by have := HK1.out; have := HK2.out; omega⟩, ⟨rz_ HO_4.out⟩, ⟨rz_ HO_164000.out⟩, ⟨rz_ HO_164001.out⟩, ⟨bz_ BK151.out⟩, ⟨bz_ BK152.out⟩, ⟨bz_ BK163.out⟩, ⟨by repeat (first | (with_reducible first | exact HB.out | apply below_alloc | apply pw_below_drewN | apply below_drew1 | refine below_set ?_ GE151.out | refine below_set ?_ GE152.out | refine below_set ?_ GE163.out) | exact HB.out)⟩⟩
     ·rw [if_neg c22] at H
      have c22b0 : decide (x6_1 < (t154.length : Int)) = false := decide_eq_false c22
      clear c22
      replace H := Option.bind_eq_some_iff.mp H
      obtain ⟨t164, A370, H⟩ := H
      replace H : (if t164 = true then (some (y160, x164001_1, true)) else (some (([] : List (S86)), ([] : List (S95)), false))) = some (r1, r2, r3) := H
      have A37 := Aside0.mk A370
      clear A370
      by_cases c38 : t164 = true
      ·subst c38
       have H1 : (some (y160, x164001_1, true)) = some (r1, r2, r3) := by rw [if_pos rfl] at H; exact H
       clear H
       have H := H1
       clear H1
       simp only [Option.some.injEq, Prod.mk.injEq] at H
       obtain ⟨rfl, rfl, rfl⟩ := H
       obtain ⟨Ao39, co39, eo39⟩ := Kd.R_slice HO_4.out
       subst eo39
       have hnb40 := NB163_151.out
       have hnc40 := NB151_163.out
       have hnb41 := NB163_152.out
       have hnc41 := NB152_163.out
       have hcz42_0 : wr.cell? ⟨gb163, 0, none⟩ = some (.slice Ao17 y160.length co17) := (blk_cell BK163.out 0).trans rfl
       have hcz42_1 : wr.cell? ⟨gb163, 1, none⟩ = some (u164001) := (blk_cell BK163.out 1).trans rfl
       have hfz42_0 := blk_frozen BK163.out 0
       have hfz42_1 := blk_frozen BK163.out 1
       obtain ⟨Ao43, co43, eo43⟩ := Kd.R_slice HO_164001.out
       subst eo43
       go_wp2_with (first | ((with_reducible refine gate_callee (f := 62) rfl ?_); refine goesL_ (some 56) rfl rfl Try.func62 (by kernel_rfl) rfl #[.agg #[.slice Ao17 y160.length co17, .slice Ao43 x164001_1.length co43]] rfl (by (try simp only [List.map_toArray, List.map_cons, List.map_nil]); first | done | rfl | (simp only [List.length_drop, List.length_take]; rfl)) ?_; (with_reducible refine (spec_l2Good.calls _ _ y160 _ _ x164001_1 true _ ?side1 ?side2 ?side3 ?side4 A37.out).mono ?_); (case side1 => exact cz_ (Kd.R_reads' HO_164000.out).2.2); (case side2 => exact (Kd.R_reads' HO_164000.out).2.1); (case side3 => exact cz_ (Kd.R_reads' HO_164001.out).2.2); (case side4 => exact (Kd.R_reads' HO_164001.out).2.1); rintro e w44 ⟨rfl, hb⟩; refine ⟨_, rfl, ?_⟩; have n0_ := Aside0.mk (Kd.R_below (rz_ HO_4.out) hb); have n1_ := Aside0.mk (Kd.R_below (rz_ HO_164000.out) hb); have n2_ := Aside0.mk (Kd.R_below (rz_ HO_164001.out) hb); have n3_ := Aside0.mk (blk_below (bz_ BK151.out) hb); have n4_ := Aside0.mk (blk_below (bz_ BK152.out) hb); have n5_ := Aside0.mk (blk_below (bz_ BK163.out) hb); have n6_ := Aside0.mk (below_step (by repeat (first | (with_reducible first | exact HB.out | apply below_alloc | apply pw_below_drewN | apply below_drew1 | refine below_set ?_ GE151.out | refine below_set ?_ GE152.out | refine below_set ?_ GE163.out) | exact HB.out)) hb); clear HO_4; clear HO_164000; clear HO_164001; clear BK151; clear BK152; clear BK163; clear HB; have HO_4 := n0_; have HO_164000 := n1_; have HO_164001 := n2_; have BK151 := n3_; have BK152 := n4_; have BK163 := n5_; have HB := n6_; clear n0_ n1_ n2_ n3_ n4_ n5_ n6_; (try clear hb); (try clear hb2); (try clear hk); (try clear hi); have hcz45_0 : w44.cell? ⟨gb163, 0, none⟩ = some (.slice Ao17 y160.length co17) := (blk_cell BK163.out 0).trans rfl; have hcz45_1 : w44.cell? ⟨gb163, 1, none⟩ = some (.slice Ao43 x164001_1.length co43) := (blk_cell BK163.out 1).trans rfl; have hfz45_0 := blk_frozen BK163.out 0; have hfz45_1 := blk_frozen BK163.out 1; have hnb46 := NB152_151.out; have hnc46 := NB151_152.out; have hcz47_0 : w44.cell? ⟨gb152, 0, none⟩ = some (.slice none 0 0) := (blk_cell BK152.out 0).trans rfl; have hcz47_1 : w44.cell? ⟨gb152, 1, none⟩ = some (.slice none 0 0) := (blk_cell BK152.out 1).trans rfl; have hfz47_0 := blk_frozen BK152.out 0; have hfz47_1 := blk_frozen BK152.out 1))
       refine bodyPost_ret (results_ct rfl _ _ gb152 33 #[.slice Ao17 y160.length co17, .slice Ao43 x164001_1.length co43] (0, 0) _ rfl (by (with_reducible repeat (first | refine blk_drewN ?_ _ | refine blk_drew ?_ | refine blk_alloc ?_ _)); refine blk_put (cs := #[.slice Ao17 y160.length co17, .slice none 0 0]) ?_ 1 _ rfl; (with_reducible repeat (first | refine blk_drewN ?_ _ | refine blk_drew ?_ | refine blk_alloc ?_ _)); refine blk_put (cs := #[.slice none 0 0, .slice none 0 0]) ?_ 0 _ rfl; (with_reducible repeat (first | refine blk_drewN ?_ _ | refine blk_drew ?_ | refine blk_alloc ?_ _)); exact BK152.out) Try.underlying33 rfl (by kernel_rfl)) rfl ?_
       exact ⟨_, _, by first | rfl | (simp [errW_none, errW_some] <;> rfl) | (simp [*, errW_none, errW_some] <;> rfl), rz_ (Kd.R_mono (Kd.R_far (p := ⟨gb152, 1, none⟩) (Kd.R_far (p := ⟨gb152, 0, none⟩) (Kd.R_types HO_164000.out BK152.out (by decide)) (fun _ hk => hk.2) (.slice Ao17 y160.length co17)) (fun _ hk => hk.2) (.slice Ao43 x164001_1.length co43)) (fun _ hk => trivial)), rz_ (Kd.R_mono (Kd.R_far (p := ⟨gb152, 1, none⟩) (Kd.R_far (p := ⟨gb152, 0, none⟩) (Kd.R_types HO_164001.out BK152.out (by decide)) (fun _ hk => hk.2) (.slice Ao17 y160.length co17)) (fun _ hk => hk.2) (.slice Ao43 x164001_1.length co43)) (fun _ hk => trivial)), by repeat (first | (with_reducible first | exact HB.out | apply below_alloc | apply pw_below_drewN | apply below_drew1 | refine below_set ?_ GE151.out | refine below_set ?_ GE152.out | refine below_set ?_ GE163.out) | exact HB.out)⟩
      ·replace c38 := Bool.eq_false_iff.mpr c38
       subst c38
       have H1 : (some (([] : List (S86)), ([] : List (S95)), false)) = some (r1, r2, r3) := by rw [if_neg (show ¬ (false = true) by decide)] at H; exact H
       clear H
       have H := H1
       clear H1
       simp only [Option.some.injEq, Prod.mk.injEq] at H
       obtain ⟨rfl, rfl, rfl⟩ := H
       obtain ⟨Ao48, co48, eo48⟩ := Kd.R_slice HO_4.out
       subst eo48
       have hnb49 := NB163_151.out
       have hnc49 := NB151_163.out
       have hnb50 := NB163_152.out
       have hnc50 := NB152_163.out
       have hcz51_0 : wr.cell? ⟨gb163, 0, none⟩ = some (.slice Ao17 y160.length co17) := (blk_cell BK163.out 0).trans rfl
       have hcz51_1 : wr.cell? ⟨gb163, 1, none⟩ = some (u164001) := (blk_cell BK163.out 1).trans rfl
       have hfz51_0 := blk_frozen BK163.out 0
       have hfz51_1 := blk_frozen BK163.out 1
       obtain ⟨Ao52, co52, eo52⟩ := Kd.R_slice HO_164001.out
       subst eo52
       go_wp2_with (first | ((with_reducible refine gate_callee (f := 62) rfl ?_); refine goesL_ (some 56) rfl rfl Try.func62 (by kernel_rfl) rfl #[.agg #[.slice Ao17 y160.length co17, .slice Ao52 x164001_1.length co52]] rfl (by (try simp only [List.map_toArray, List.map_cons, List.map_nil]); first | done | rfl | (simp only [List.length_drop, List.length_take]; rfl)) ?_; (with_reducible refine (spec_l2Good.calls _ _ y160 _ _ x164001_1 false _ ?side1 ?side2 ?side3 ?side4 A37.out).mono ?_); (case side1 => exact cz_ (Kd.R_reads' HO_164000.out).2.2); (case side2 => exact (Kd.R_reads' HO_164000.out).2.1); (case side3 => exact cz_ (Kd.R_reads' HO_164001.out).2.2); (case side4 => exact (Kd.R_reads' HO_164001.out).2.1); rintro e w53 ⟨rfl, hb⟩; refine ⟨_, rfl, ?_⟩; have n0_ := Aside0.mk (Kd.R_below (rz_ HO_4.out) hb); have n1_ := Aside0.mk (Kd.R_below (rz_ HO_164000.out) hb); have n2_ := Aside0.mk (Kd.R_below (rz_ HO_164001.out) hb); have n3_ := Aside0.mk (blk_below (bz_ BK151.out) hb); have n4_ := Aside0.mk (blk_below (bz_ BK152.out) hb); have n5_ := Aside0.mk (blk_below (bz_ BK163.out) hb); have n6_ := Aside0.mk (below_step (by repeat (first | (with_reducible first | exact HB.out | apply below_alloc | apply pw_below_drewN | apply below_drew1 | refine below_set ?_ GE151.out | refine below_set ?_ GE152.out | refine below_set ?_ GE163.out) | exact HB.out)) hb); clear HO_4; clear HO_164000; clear HO_164001; clear BK151; clear BK152; clear BK163; clear HB; have HO_4 := n0_; have HO_164000 := n1_; have HO_164001 := n2_; have BK151 := n3_; have BK152 := n4_; have BK163 := n5_; have HB := n6_; clear n0_ n1_ n2_ n3_ n4_ n5_ n6_; (try clear hb); (try clear hb2); (try clear hk); (try clear hi); have hnb54 := NB152_151.out; have hnc54 := NB151_152.out; have hcz55_0 : w53.cell? ⟨gb152, 0, none⟩ = some (.slice none 0 0) := (blk_cell BK152.out 0).trans rfl; have hcz55_1 : w53.cell? ⟨gb152, 1, none⟩ = some (.slice none 0 0) := (blk_cell BK152.out 1).trans rfl; have hfz55_0 := blk_frozen BK152.out 0; have hfz55_1 := blk_frozen BK152.out 1))
       refine bodyPost_ret (results_ct rfl _ _ gb152 33 #[.slice none 0 0, .slice none 0 0] (0, 0) _ rfl (by (with_reducible repeat (first | refine blk_drewN ?_ _ | refine blk_drew ?_ | refine blk_alloc ?_ _)); refine blk_put (cs := #[.slice none 0 0, .slice none 0 0]) ?_ 1 _ rfl; (with_reducible repeat (first | refine blk_drewN ?_ _ | refine blk_drew ?_ | refine blk_alloc ?_ _)); refine blk_put (cs := #[.slice none 0 0, .slice none 0 0]) ?_ 0 _ rfl; (with_reducible repeat (first | refine blk_drewN ?_ _ | refine blk_drew ?_ | refine blk_alloc ?_ _)); exact BK152.out) Try.underlying33 rfl (by kernel_rfl)) rfl ?_
       exact ⟨_, _, by first | rfl | (simp [errW_none, errW_some] <;> rfl) | (simp [*, errW_none, errW_some] <;> rfl), by first | exact Kd.R_nil _ _ _ _ _ | exact Kd.N_nil _ _ _ _ _ | exact Kd.V_nil _ _ _ _ _ | exact Kd.Q_nil _ _ _ _ _ | exact Kd.S_nil _ _ _ _ _, by first | exact Kd.R_nil _ _ _ _ _ | exact Kd.N_nil _ _ _ _ _ | exact Kd.V_nil _ _ _ _ _ | exact Kd.Q_nil _ _ _ _ _ | exact Kd.S_nil _ _ _ _ _, by repeat (first | (with_reducible first | exact HB.out | apply below_alloc | apply pw_below_drewN | apply below_drew1 | refine below_set ?_ GE151.out | refine below_set ?_ GE152.out | refine below_set ?_ GE163.out) | exact HB.out)⟩
  ·rw [if_neg c5] at H
   exact absurd H (by simp)
 ·replace c3 := Bool.eq_false_iff.mpr c3
  subst c3
  have H1 : (some (([] : List (S86)), ([] : List (S95)), false)) = some (r1, r2, r3) := by rw [if_neg (show ¬ (false = true) by decide)] at H; exact H
  clear H
  have H := H1
  clear H1
  simp only [Option.some.injEq, Prod.mk.injEq] at H
  obtain ⟨rfl, rfl, rfl⟩ := H
  go_enter Try.func29, Try.ntmps29
  go_wp2_with (first | ((with_reducible refine gate_dst (N := 1) rfl ?_); refine box_event ?hg (N := 1) ?hd (cs := #[.slice A0_0 l0_0.length c0_0, .slice A0_1 l0_1.length c0_1]) (t := 33) ?hr ?_; (case hd => rfl); (case hg => rfl); (case hr => first | (go_simp; done) | (go_simp; rfl)); intro gb151 hg w56 hbox hb; have n0_ := Aside0.mk (below_step (wz_ HB.out) hb); have n1_ := Aside0.mk (hbox); have n2_ := Aside0.mk ((by rw [hg]; exact (below_size (wz_ HB.out)) : w.heap.size ≤ gb151)); have n3_ := Aside0.mk ((by rw [hg]; exact (below_size (wz_ HB.out)) : w.heap.size ≤ gb151)); clear HB; have HB := n0_; have BK151 := n1_; have GW151 := n2_; have GE151 := n3_; clear n0_ n1_ n2_ n3_; clear hb hbox hg) | ((with_reducible refine gate_dst (N := 2) rfl ?_); refine box_event ?hg (N := 2) ?hd (cs := #[.slice none 0 0, .slice none 0 0]) (t := 33) ?hr ?_; (case hd => rfl); (case hg => rfl); (case hr => first | (go_simp; done) | (go_simp; rfl)); intro gb152 hg w57 hbox hb; have n0_ := Aside0.mk (blk_below (bz_ BK151.out) hb); have n1_ := Aside0.mk (below_step (by repeat (first | (with_reducible first | exact HB.out | apply below_alloc | apply pw_below_drewN | apply below_drew1 | refine below_set ?_ GE151.out) | exact HB.out)) hb); have n2_ := Aside0.mk (hbox); have n3_ := Aside0.mk ((by rw [hg]; exact (below_size (by repeat (first | (with_reducible first | exact HB.out | apply below_alloc | apply pw_below_drewN | apply below_drew1 | refine below_set ?_ GE151.out) | exact HB.out))) : w.heap.size ≤ gb152)); have n4_ := Aside0.mk ((by rw [hg]; exact (below_size (by repeat (first | (with_reducible first | exact HB.out | apply below_alloc | apply pw_below_drewN | apply below_drew1 | refine below_set ?_ GE151.out) | exact HB.out))) : w.heap.size ≤ gb152)); have n5_ := Aside0.mk ((by rw [hg]; exact Nat.ne_of_lt (blk_lt (g := gb151) (o := .cells #[.slice A0_0 l0_0.length c0_0, .slice A0_1 l0_1.length c0_1] 33 (0, 0)) (bz_ BK151.out)) : gb151 ≠ gb152)); have n6_ := Aside0.mk ((by rw [hg]; exact Nat.ne_of_gt (blk_lt (g := gb151) (o := .cells #[.slice A0_0 l0_0.length c0_0, .slice A0_1 l0_1.length c0_1] 33 (0, 0)) (bz_ BK151.out)) : gb152 ≠ gb151)); clear BK151; clear HB; have BK151 := n0_; have HB := n1_; have BK152 := n2_; have GW152 := n3_; have GE152 := n4_; have NB151_152 := n5_; have NB152_151 := n6_; clear n0_ n1_ n2_ n3_ n4_ n5_ n6_; clear hb hbox hg; have hnb58 := NB151_152.out; have hnc58 := NB152_151.out; have hcz59_0 : w57.cell? ⟨gb151, 0, none⟩ = some (.slice A0_0 l0_0.length c0_0) := (blk_cell BK151.out 0).trans rfl; have hcz59_1 : w57.cell? ⟨gb151, 1, none⟩ = some (.slice A0_1 l0_1.length c0_1) := (blk_cell BK151.out 1).trans rfl; have hfz59_0 := blk_frozen BK151.out 0; have hfz59_1 := blk_frozen BK151.out 1) | ((with_reducible refine gate_callee (f := 78) rfl ?_); refine goesL_ (some 9) rfl rfl Try.func78 (by kernel_rfl) rfl #[.agg #[.slice A0_0 l0_0.length c0_0, .slice A0_1 l0_1.length c0_1]] rfl (by (try simp only [List.map_toArray, List.map_cons, List.map_nil]); first | done | rfl | (simp only [List.length_drop, List.length_take]; rfl)) ?_; (with_reducible refine (spec_l5Good.calls k _ _ l0_0 _ _ l0_1 false _ ?side1 ?side2 ?side3 ?side4 A2.out).mono ?_); (case side1 => exact cz_ (Kd.C_below HR0_0.out HB.out)); (case side2 => exact HC0_0.out); (case side3 => exact cz_ (Kd.C_below HR0_1.out HB.out)); (case side4 => exact HC0_1.out); rintro e w60 ⟨rfl, hb⟩; refine ⟨_, rfl, ?_⟩; have n0_ := Aside0.mk (blk_below (bz_ BK151.out) hb); have n1_ := Aside0.mk (blk_below (bz_ BK152.out) hb); have n2_ := Aside0.mk (below_step (by repeat (first | (with_reducible first | exact HB.out | apply below_alloc | apply pw_below_drewN | apply below_drew1 | refine below_set ?_ GE151.out | refine below_set ?_ GE152.out) | exact HB.out)) hb); clear BK151; clear BK152; clear HB; have BK151 := n0_; have BK152 := n1_; have HB := n2_; clear n0_ n1_ n2_; (try clear hb); (try clear hb2); (try clear hk); (try clear hi); have hcz61_0 : w60.cell? ⟨gb152, 0, none⟩ = some (.slice none 0 0) := (blk_cell BK152.out 0).trans rfl; have hcz61_1 : w60.cell? ⟨gb152, 1, none⟩ = some (.slice none 0 0) := (blk_cell BK152.out 1).trans rfl; have hfz61_0 := blk_frozen BK152.out 0; have hfz61_1 := blk_frozen BK152.out 1))
  refine bodyPost_ret (results_ct rfl _ _ gb152 33 #[.slice none 0 0, .slice none 0 0] (0, 0) _ rfl (by (with_reducible repeat (first | refine blk_drewN ?_ _ | refine blk_drew ?_ | refine blk_alloc ?_ _)); refine blk_put (cs := #[.slice none 0 0, .slice none 0 0]) ?_ 1 _ rfl; (with_reducible repeat (first | refine blk_drewN ?_ _ | refine blk_drew ?_ | refine blk_alloc ?_ _)); refine blk_put (cs := #[.slice none 0 0, .slice none 0 0]) ?_ 0 _ rfl; (with_reducible repeat (first | refine blk_drewN ?_ _ | refine blk_drew ?_ | refine blk_alloc ?_ _)); exact BK152.out) Try.underlying33 rfl (by kernel_rfl)) rfl ?_
  exact ⟨_, _, by first | rfl | (simp [errW_none, errW_some] <;> rfl) | (simp [*, errW_none, errW_some] <;> rfl), by first | exact Kd.R_nil _ _ _ _ _ | exact Kd.N_nil _ _ _ _ _ | exact Kd.V_nil _ _ _ _ _ | exact Kd.Q_nil _ _ _ _ _ | exact Kd.S_nil _ _ _ _ _, by first | exact Kd.R_nil _ _ _ _ _ | exact Kd.N_nil _ _ _ _ _ | exact Kd.V_nil _ _ _ _ _ | exact Kd.Q_nil _ _ _ _ _ | exact Kd.S_nil _ _ _ _ _, by repeat (first | (with_reducible first | exact HB.out | apply below_alloc | apply pw_below_drewN | apply below_drew1 | refine below_set ?_ GE151.out | refine below_set ?_ GE152.out) | exact HB.out)⟩

end Go.Proofs.Ytdiejmhphhdcfaa.Q

-- Written by a program of this session (wip/xprint.py over the kit's printer).
import Derived.Test.YtdiejmhphhdcfaaQ0
import Derived.Test.YtdiejmhphhdcfaaQB0
import Derived.Test.YtdiejmhphhdcfaaQB1
import Derived.Test.YtdiejmhphhdcfaaQF34
import Derived.Test.YtdiejmhphhdcfaaQF35
import Derived.Test.YtdiejmhphhdcfaaQM0
import Derived.Test.YtdiejmhphhdcfaaQM1
namespace Go.Proofs.Ytdiejmhphhdcfaa.Q
open Go.RowKit Go.Proofs.YtdiejmhphhdcfaaW.PrintWords Go.Proofs.YtdiejmhphhdcfaaW.PrintLast
set_option linter.unusedVariables false
set_option linter.unusedSimpArgs false

/-! ### laws_FnExactMatrixLinks: function 7 -/
mutual
def laws_FnExactMatrixLinks.j0 : Nat → List (S95) → Bool → List (S95) → Bool → Bool → List (S127) → List (S129) → List (S86) → List (S95) → Option (Bool)
 | 0, _, _, _, _, _, _, _, _, _ => none
 | k + 1, x4, x5, x7, x8, x40, x152000, x152001, x170000, x170001 => if x40 = true then (some false) else ((laws_toRecord.f k x152000 x152001).bind fun bt175 => ((laws_eqRecord.f k x170000 x170001 bt175.1 bt175.2).bind fun t181 => (if t181 = true then ((laws_markRecord.f k x170000 x170001 1).bind fun bt182 => (if bt182.1 < 0 then (laws_FnExactMatrixLinks.j1 k x4 x5 x7 true x152000 x152001) else ((laws_eqRelationS.f k x7 x4).bind fun t185 => (if t185 = true then (laws_FnExactMatrixLinks.j1 k x4 x5 x7 (x8 != x5) x152000 x152001) else (laws_FnExactMatrixLinks.j1 k x4 x5 x7 true x152000 x152001))))) else (some false))))
def laws_FnExactMatrixLinks.j1 : Nat → List (S95) → Bool → List (S95) → Bool → List (S127) → List (S129) → Option (Bool)
 | 0, _, _, _, _, _, _ => none
 | k + 1, x4, x5, x7, x61, x152000, x152001 => if x61 = true then (some false) else ((laws_markRelationS.f k x7 1).bind fun bt186 => ((laws_heldRelationS.f k bt186.2 1).bind fun t188 => (if t188 < 0 then (some false) else (if t188 = bt186.1 then ((laws_toRecord.f k x152000 x152001).bind fun bt189 => ((impl_MatrixLinks.f bt189.1 bt189.2).bind fun bt195 => ((laws_eqRelationS.f k bt195.1 x4).bind fun t199 => (if t199 = true then (laws_FnExactMatrixLinks.j2 k bt186.2 bt186.1 (bt195.2 != x5)) else (laws_FnExactMatrixLinks.j2 k bt186.2 bt186.1 true))))) else (some false)))))
def laws_FnExactMatrixLinks.j2 : Nat → List (S95) → Int → Bool → Option (Bool)
 | 0, _, _, _ => none
 | k + 1, x7, x10, x87 => if x87 = true then (some false) else ((laws_heldRelationS.f k x7 1).bind fun t200 => (if t200 < 0 then (some false) else (if t200 = x10 then (some true) else (some false))))
end
def laws_FnExactMatrixLinks.f (k : Nat) (l0_0 : List (S127)) (l0_1 : List (S129)) : Option (Bool) := (laws_szRecord.f l0_0 l0_1 1048576).bind fun t152 => (if t152 < 0 then (some true) else ((laws_toRecord.f k l0_0 l0_1).bind fun bt153 => ((spec_MatrixLinks.f k bt153.1 bt153.2).bind fun bt159 => ((laws_toRecord.f k l0_0 l0_1).bind fun bt163 => ((impl_MatrixLinks.f bt163.1 bt163.2).bind fun bt170 => ((laws_eqRelationS.f k bt170.1 bt159.1).bind fun t174 => (if t174 = true then (laws_FnExactMatrixLinks.j0 k bt159.1 bt159.2 bt170.1 bt170.2 (bt170.2 != bt159.2) l0_0 l0_1 bt163.1 bt163.2) else (laws_FnExactMatrixLinks.j0 k bt159.1 bt159.2 bt170.1 bt170.2 true l0_0 l0_1 bt163.1 bt163.2))))))))
theorem laws_FnExactMatrixLinks.mono_l : ∀ k, (∀ y0 y1 y2 y3 y4 y5 y6 y7 y8, LeO (laws_FnExactMatrixLinks.j0 k y0 y1 y2 y3 y4 y5 y6 y7 y8) (laws_FnExactMatrixLinks.j0 (k + 1) y0 y1 y2 y3 y4 y5 y6 y7 y8)) ∧ (∀ y0 y1 y2 y3 y4 y5, LeO (laws_FnExactMatrixLinks.j1 k y0 y1 y2 y3 y4 y5) (laws_FnExactMatrixLinks.j1 (k + 1) y0 y1 y2 y3 y4 y5)) ∧ (∀ y0 y1 y2, LeO (laws_FnExactMatrixLinks.j2 k y0 y1 y2) (laws_FnExactMatrixLinks.j2 (k + 1) y0 y1 y2))
 | 0 => ⟨fun _ _ _ _ _ _ _ _ _ r h => by simp [laws_FnExactMatrixLinks.j0] at h, fun _ _ _ _ _ _ r h => by simp [laws_FnExactMatrixLinks.j1] at h, fun _ _ _ r h => by simp [laws_FnExactMatrixLinks.j2] at h⟩
 | k + 1 => by
  obtain ⟨ih0, ih1, ih2⟩ := laws_FnExactMatrixLinks.mono_l k
  refine ⟨?_, ?_, ?_⟩
  ·intro y0 y1 y2 y3 y4 y5 y6 y7 y8
   unfold laws_FnExactMatrixLinks.j0
   repeat' first
   | (with_reducible exact ih0 _ _ _ _ _ _ _ _ _)
   | (with_reducible exact ih1 _ _ _ _ _ _)
   | (with_reducible exact ih2 _ _ _)
   | (with_reducible exact laws_eqRecord.mono _ _ _ _ _)
   | (with_reducible exact laws_eqRelationS.mono _ _ _)
   | (with_reducible exact laws_heldRelationS.mono _ _ _)
   | (with_reducible exact laws_markRecord.mono _ _ _ _)
   | (with_reducible exact laws_markRelationS.mono _ _ _)
   | (with_reducible exact laws_toRecord.mono _ _ _)
   | (with_reducible exact spec_MatrixLinks.mono _ _ _)
   | (with_reducible exact LeO.refl _)
   | (with_reducible exact LeO.none _)
   | (with_reducible refine LeO.ite ?_ ?_)
   | (with_reducible refine LeO.bind ?_ (fun _ => ?_))
   | exact ih0 _ _ _ _ _ _ _ _ _
   | exact ih1 _ _ _ _ _ _
   | exact ih2 _ _ _
   | exact laws_eqRecord.mono _ _ _ _ _
   | exact laws_eqRelationS.mono _ _ _
   | exact laws_heldRelationS.mono _ _ _
   | exact laws_markRecord.mono _ _ _ _
   | exact laws_markRelationS.mono _ _ _
   | exact laws_toRecord.mono _ _ _
   | exact spec_MatrixLinks.mono _ _ _
   | exact LeO.none _
   | refine LeO.ite ?_ ?_
   | refine LeO.bind ?_ (fun _ => ?_)
  ·intro y0 y1 y2 y3 y4 y5
   unfold laws_FnExactMatrixLinks.j1
   repeat' first
   | (with_reducible exact ih0 _ _ _ _ _ _ _ _ _)
   | (with_reducible exact ih1 _ _ _ _ _ _)
   | (with_reducible exact ih2 _ _ _)
   | (with_reducible exact laws_eqRecord.mono _ _ _ _ _)
   | (with_reducible exact laws_eqRelationS.mono _ _ _)
   | (with_reducible exact laws_heldRelationS.mono _ _ _)
   | (with_reducible exact laws_markRecord.mono _ _ _ _)
   | (with_reducible exact laws_markRelationS.mono _ _ _)
   | (with_reducible exact laws_toRecord.mono _ _ _)
   | (with_reducible exact spec_MatrixLinks.mono _ _ _)
   | (with_reducible exact LeO.refl _)
   | (with_reducible exact LeO.none _)
   | (with_reducible refine LeO.ite ?_ ?_)
   | (with_reducible refine LeO.bind ?_ (fun _ => ?_))
   | exact ih0 _ _ _ _ _ _ _ _ _
   | exact ih1 _ _ _ _ _ _
   | exact ih2 _ _ _
   | exact laws_eqRecord.mono _ _ _ _ _
   | exact laws_eqRelationS.mono _ _ _
   | exact laws_heldRelationS.mono _ _ _
   | exact laws_markRecord.mono _ _ _ _
   | exact laws_markRelationS.mono _ _ _
   | exact laws_toRecord.mono _ _ _
   | exact spec_MatrixLinks.mono _ _ _
   | exact LeO.none _
   | refine LeO.ite ?_ ?_
   | refine LeO.bind ?_ (fun _ => ?_)
  ·intro y0 y1 y2
   unfold laws_FnExactMatrixLinks.j2
   repeat' first
   | (with_reducible exact ih0 _ _ _ _ _ _ _ _ _)
   | (with_reducible exact ih1 _ _ _ _ _ _)
   | (with_reducible exact ih2 _ _ _)
   | (with_reducible exact laws_eqRecord.mono _ _ _ _ _)
   | (with_reducible exact laws_eqRelationS.mono _ _ _)
   | (with_reducible exact laws_heldRelationS.mono _ _ _)
   | (with_reducible exact laws_markRecord.mono _ _ _ _)
   | (with_reducible exact laws_markRelationS.mono _ _ _)
   | (with_reducible exact laws_toRecord.mono _ _ _)
   | (with_reducible exact spec_MatrixLinks.mono _ _ _)
   | (with_reducible exact LeO.refl _)
   | (with_reducible exact LeO.none _)
   | (with_reducible refine LeO.ite ?_ ?_)
   | (with_reducible refine LeO.bind ?_ (fun _ => ?_))
   | exact ih0 _ _ _ _ _ _ _ _ _
   | exact ih1 _ _ _ _ _ _
   | exact ih2 _ _ _
   | exact laws_eqRecord.mono _ _ _ _ _
   | exact laws_eqRelationS.mono _ _ _
   | exact laws_heldRelationS.mono _ _ _
   | exact laws_markRecord.mono _ _ _ _
   | exact laws_markRelationS.mono _ _ _
   | exact laws_toRecord.mono _ _ _
   | exact spec_MatrixLinks.mono _ _ _
   | exact LeO.none _
   | refine LeO.ite ?_ ?_
   | refine LeO.bind ?_ (fun _ => ?_)
theorem laws_FnExactMatrixLinks.mono : ∀ a0 a1 k, LeO (laws_FnExactMatrixLinks.f k a0 a1) (laws_FnExactMatrixLinks.f (k + 1) a0 a1) := by
 intro a0 a1 k
 obtain ⟨ih0, ih1, ih2⟩ := laws_FnExactMatrixLinks.mono_l k
 unfold laws_FnExactMatrixLinks.f
 repeat' first
   | (with_reducible exact ih0 _ _ _ _ _ _ _ _ _)
   | (with_reducible exact ih1 _ _ _ _ _ _)
   | (with_reducible exact ih2 _ _ _)
   | (with_reducible exact laws_eqRecord.mono _ _ _ _ _)
   | (with_reducible exact laws_eqRelationS.mono _ _ _)
   | (with_reducible exact laws_heldRelationS.mono _ _ _)
   | (with_reducible exact laws_markRecord.mono _ _ _ _)
   | (with_reducible exact laws_markRelationS.mono _ _ _)
   | (with_reducible exact laws_toRecord.mono _ _ _)
   | (with_reducible exact spec_MatrixLinks.mono _ _ _)
   | (with_reducible exact LeO.refl _)
   | (with_reducible exact LeO.none _)
   | (with_reducible refine LeO.ite ?_ ?_)
   | (with_reducible refine LeO.bind ?_ (fun _ => ?_))
   | exact ih0 _ _ _ _ _ _ _ _ _
   | exact ih1 _ _ _ _ _ _
   | exact ih2 _ _ _
   | exact laws_eqRecord.mono _ _ _ _ _
   | exact laws_eqRelationS.mono _ _ _
   | exact laws_heldRelationS.mono _ _ _
   | exact laws_markRecord.mono _ _ _ _
   | exact laws_markRelationS.mono _ _ _
   | exact laws_toRecord.mono _ _ _
   | exact spec_MatrixLinks.mono _ _ _
   | exact LeO.none _
   | refine LeO.ite ?_ ?_
   | refine LeO.bind ?_ (fun _ => ?_)
set_option maxHeartbeats 8000000 in
set_option maxRecDepth 100000 in
theorem laws_FnExactMatrixLinks.calls (k : Nat) (A0_0 : Option Addr) (c0_0 : Nat) (l0_0 : List (S127)) (A0_1 : Option Addr) (c0_1 : Nat) (l0_1 : List (S129)) (r : Bool) (w : World) (hr0_0 : Kd.C k127 w A0_0 l0_0.length l0_0) (hc0_0 : l0_0.length ≤ c0_0) (hr0_1 : Kd.C k129 w A0_1 l0_1.length l0_1) (hc0_1 : l0_1.length ≤ c0_1) (h : laws_FnExactMatrixLinks.f k l0_0 l0_1 = some r) :
  Calls Try.prog 7 #[.agg #[.slice A0_0 l0_0.length c0_0, .slice A0_1 l0_1.length c0_1]] w fun e w' => e = .returned (.bool r) ∧ Below w.heap.size w w' := by
 have hu25 := Try.underlying25
 have hu33 := Try.underlying33
 have HR0_0 := Aside0.mk hr0_0
 have HC0_0 := Aside0.mk hc0_0
 clear hr0_0 hc0_0
 have HR0_1 := Aside0.mk hr0_1
 have HC0_1 := Aside0.mk hc0_1
 clear hr0_1 hc0_1
 have HB := Aside0.mk (Below.refl w.heap.size w)
 have H : ((laws_szRecord.f l0_0 l0_1 1048576).bind fun t152 => (if t152 < 0 then (some true) else ((laws_toRecord.f k l0_0 l0_1).bind fun bt153 => ((spec_MatrixLinks.f k bt153.1 bt153.2).bind fun bt159 => ((laws_toRecord.f k l0_0 l0_1).bind fun bt163 => ((impl_MatrixLinks.f bt163.1 bt163.2).bind fun bt170 => ((laws_eqRelationS.f k bt170.1 bt159.1).bind fun t174 => (if t174 = true then (laws_FnExactMatrixLinks.j0 k bt159.1 bt159.2 bt170.1 bt170.2 (bt170.2 != bt159.2) l0_0 l0_1 bt163.1 bt163.2) else (laws_FnExactMatrixLinks.j0 k bt159.1 bt159.2 bt170.1 bt170.2 true l0_0 l0_1 bt163.1 bt163.2))))))))) = some r := h
 clear h
 replace H := Option.bind_eq_some_iff.mp H
 obtain ⟨t152, A20, H⟩ := H
 replace H : (if t152 < 0 then (some true) else ((laws_toRecord.f k l0_0 l0_1).bind fun bt153 => ((spec_MatrixLinks.f k bt153.1 bt153.2).bind fun bt159 => ((laws_toRecord.f k l0_0 l0_1).bind fun bt163 => ((impl_MatrixLinks.f bt163.1 bt163.2).bind fun bt170 => ((laws_eqRelationS.f k bt170.1 bt159.1).bind fun t174 => (if t174 = true then (laws_FnExactMatrixLinks.j0 k bt159.1 bt159.2 bt170.1 bt170.2 (bt170.2 != bt159.2) l0_0 l0_1 bt163.1 bt163.2) else (laws_FnExactMatrixLinks.j0 k bt159.1 bt159.2 bt170.1 bt170.2 true l0_0 l0_1 bt163.1 bt163.2)))))))) = some r := H
 have A2 := Aside0.mk A20
 clear A20
 by_cases c3 : t152 < 0
 ·rw [if_pos c3] at H
  have c3b0 : decide (t152 < 0) = true := decide_eq_true c3
  clear c3
  obtain rfl := Option.some.inj H
  go_enter Try.func7, Try.ntmps7
  go_wp2_with (first | ((with_reducible refine gate_dst (N := 1) rfl ?_); refine box_event ?hg (N := 1) ?hd (cs := #[.slice A0_0 l0_0.length c0_0, .slice A0_1 l0_1.length c0_1]) (t := 25) ?hr ?_; (case hd => rfl); (case hg => rfl); (case hr => first | (go_simp; done) | (go_simp; rfl)); intro gb151 hg w4 hbox hb; have n0_ := Aside0.mk (below_step (wz_ HB.out) hb); have n1_ := Aside0.mk (hbox); have n2_ := Aside0.mk ((by rw [hg]; exact (below_size (wz_ HB.out)) : w.heap.size ≤ gb151)); have n3_ := Aside0.mk ((by rw [hg]; exact (below_size (wz_ HB.out)) : w.heap.size ≤ gb151)); clear HB; have HB := n0_; have BK151 := n1_; have GW151 := n2_; have GE151 := n3_; clear n0_ n1_ n2_ n3_; clear hb hbox hg; have hcz5_0 : w4.cell? ⟨gb151, 0, none⟩ = some (.slice A0_0 l0_0.length c0_0) := (blk_cell BK151.out 0).trans rfl; have hcz5_1 : w4.cell? ⟨gb151, 1, none⟩ = some (.slice A0_1 l0_1.length c0_1) := (blk_cell BK151.out 1).trans rfl; have hfz5_0 := blk_frozen BK151.out 0; have hfz5_1 := blk_frozen BK151.out 1) | ((with_reducible refine gate_callee (f := 15) rfl ?_); refine goesL_ (some 16) rfl rfl Try.func15 (by kernel_rfl) rfl #[.agg #[.slice A0_0 l0_0.length c0_0, .slice A0_1 l0_1.length c0_1], .int .i64 1048576] rfl (by (try simp only [List.map_toArray, List.map_cons, List.map_nil]); first | done | rfl | (simp only [List.length_drop, List.length_take]; rfl)) ?_; (with_reducible refine (laws_szRecord.calls _ _ l0_0 _ _ l0_1 1048576 t152 _ ?side1 ?side2 ?side3 ?side4 A2.out).mono ?_); (case side1 => exact cz_ (Kd.C_below HR0_0.out HB.out)); (case side2 => exact HC0_0.out); (case side3 => exact cz_ (Kd.C_below HR0_1.out HB.out)); (case side4 => exact HC0_1.out); rintro e w6 ⟨rfl, hb⟩; refine ⟨_, rfl, ?_⟩; have n0_ := Aside0.mk (blk_below (bz_ BK151.out) hb); have n1_ := Aside0.mk (below_step (by repeat (first | (with_reducible first | exact HB.out | apply below_alloc | apply pw_below_drewN | apply below_drew1 | refine below_set ?_ GE151.out) | exact HB.out)) hb); clear BK151; clear HB; have BK151 := n0_; have HB := n1_; clear n0_ n1_; (try clear hb); (try clear hb2); (try clear hk); (try clear hi)))
  go_ret
  exact ⟨by first | rfl | (simp [errW_none, errW_some] <;> rfl) | (simp [*, errW_none, errW_some] <;> rfl), by repeat (first | (with_reducible first | exact HB.out | apply below_alloc | apply pw_below_drewN | apply below_drew1 | refine below_set ?_ GE151.out) | exact HB.out)⟩
 ·rw [if_neg c3] at H
  have c3b0 : decide (t152 < 0) = false := decide_eq_false c3
  clear c3
  replace H := Option.bind_eq_some_iff.mp H
  obtain ⟨⟨t153, t156⟩, A70, H⟩ := H
  replace H : ((spec_MatrixLinks.f k t153 t156).bind fun bt159 => ((laws_toRecord.f k l0_0 l0_1).bind fun bt163 => ((impl_MatrixLinks.f bt163.1 bt163.2).bind fun bt170 => ((laws_eqRelationS.f k bt170.1 bt159.1).bind fun t174 => (if t174 = true then (laws_FnExactMatrixLinks.j0 k bt159.1 bt159.2 bt170.1 bt170.2 (bt170.2 != bt159.2) l0_0 l0_1 bt163.1 bt163.2) else (laws_FnExactMatrixLinks.j0 k bt159.1 bt159.2 bt170.1 bt170.2 true l0_0 l0_1 bt163.1 bt163.2)))))) = some r := H
  have A7 := Aside0.mk A70
  clear A70
  replace H := Option.bind_eq_some_iff.mp H
  obtain ⟨⟨t159, t162⟩, A80, H⟩ := H
  replace H : ((laws_toRecord.f k l0_0 l0_1).bind fun bt163 => ((impl_MatrixLinks.f bt163.1 bt163.2).bind fun bt170 => ((laws_eqRelationS.f k bt170.1 t159).bind fun t174 => (if t174 = true then (laws_FnExactMatrixLinks.j0 k t159 t162 bt170.1 bt170.2 (bt170.2 != t162) l0_0 l0_1 bt163.1 bt163.2) else (laws_FnExactMatrixLinks.j0 k t159 t162 bt170.1 bt170.2 true l0_0 l0_1 bt163.1 bt163.2))))) = some r := H
  have A8 := Aside0.mk A80
  clear A80
  replace H := Option.bind_eq_some_iff.mp H
  obtain ⟨⟨t163, t166⟩, A90, H⟩ := H
  replace H : ((impl_MatrixLinks.f t163 t166).bind fun bt170 => ((laws_eqRelationS.f k bt170.1 t159).bind fun t174 => (if t174 = true then (laws_FnExactMatrixLinks.j0 k t159 t162 bt170.1 bt170.2 (bt170.2 != t162) l0_0 l0_1 t163 t166) else (laws_FnExactMatrixLinks.j0 k t159 t162 bt170.1 bt170.2 true l0_0 l0_1 t163 t166)))) = some r := H
  have A9 := Aside0.mk A90
  clear A90
  replace H := Option.bind_eq_some_iff.mp H
  obtain ⟨⟨t170, t173⟩, A100, H⟩ := H
  replace H : ((laws_eqRelationS.f k t170 t159).bind fun t174 => (if t174 = true then (laws_FnExactMatrixLinks.j0 k t159 t162 t170 t173 (t173 != t162) l0_0 l0_1 t163 t166) else (laws_FnExactMatrixLinks.j0 k t159 t162 t170 t173 true l0_0 l0_1 t163 t166))) = some r := H
  have A10 := Aside0.mk A100
  clear A100
  have HC11 := Aside0.mk H
  clear H
  go_enter Try.func7, Try.ntmps7
  go_upto_region 8 with (first | ((with_reducible refine gate_dst (N := 1) rfl ?_); refine box_event ?hg (N := 1) ?hd (cs := #[.slice A0_0 l0_0.length c0_0, .slice A0_1 l0_1.length c0_1]) (t := 25) ?hr ?_; (case hd => rfl); (case hg => rfl); (case hr => first | (go_simp; done) | (go_simp; rfl)); intro gb151 hg w12 hbox hb; have n0_ := Aside0.mk (below_step (wz_ HB.out) hb); have n1_ := Aside0.mk (hbox); have n2_ := Aside0.mk ((by rw [hg]; exact (below_size (wz_ HB.out)) : w.heap.size ≤ gb151)); have n3_ := Aside0.mk ((by rw [hg]; exact (below_size (wz_ HB.out)) : w.heap.size ≤ gb151)); clear HB; have HB := n0_; have BK151 := n1_; have GW151 := n2_; have GE151 := n3_; clear n0_ n1_ n2_ n3_; clear hb hbox hg; have hcz13_0 : w12.cell? ⟨gb151, 0, none⟩ = some (.slice A0_0 l0_0.length c0_0) := (blk_cell BK151.out 0).trans rfl; have hcz13_1 : w12.cell? ⟨gb151, 1, none⟩ = some (.slice A0_1 l0_1.length c0_1) := (blk_cell BK151.out 1).trans rfl; have hfz13_0 := blk_frozen BK151.out 0; have hfz13_1 := blk_frozen BK151.out 1) | ((with_reducible refine gate_callee (f := 15) rfl ?_); refine goesL_ (some 16) rfl rfl Try.func15 (by kernel_rfl) rfl #[.agg #[.slice A0_0 l0_0.length c0_0, .slice A0_1 l0_1.length c0_1], .int .i64 1048576] rfl (by (try simp only [List.map_toArray, List.map_cons, List.map_nil]); first | done | rfl | (simp only [List.length_drop, List.length_take]; rfl)) ?_; (with_reducible refine (laws_szRecord.calls _ _ l0_0 _ _ l0_1 1048576 t152 _ ?side1 ?side2 ?side3 ?side4 A2.out).mono ?_); (case side1 => exact cz_ (Kd.C_below HR0_0.out HB.out)); (case side2 => exact HC0_0.out); (case side3 => exact cz_ (Kd.C_below HR0_1.out HB.out)); (case side4 => exact HC0_1.out); rintro e w14 ⟨rfl, hb⟩; refine ⟨_, rfl, ?_⟩; have n0_ := Aside0.mk (blk_below (bz_ BK151.out) hb); have n1_ := Aside0.mk (below_step (by repeat (first | (with_reducible first | exact HB.out | apply below_alloc | apply pw_below_drewN | apply below_drew1 | refine below_set ?_ GE151.out) | exact HB.out)) hb); clear BK151; clear HB; have BK151 := n0_; have HB := n1_; clear n0_ n1_; (try clear hb); (try clear hb2); (try clear hk); (try clear hi); have hcz15_0 : w14.cell? ⟨gb151, 0, none⟩ = some (.slice A0_0 l0_0.length c0_0) := (blk_cell BK151.out 0).trans rfl; have hcz15_1 : w14.cell? ⟨gb151, 1, none⟩ = some (.slice A0_1 l0_1.length c0_1) := (blk_cell BK151.out 1).trans rfl; have hfz15_0 := blk_frozen BK151.out 0; have hfz15_1 := blk_frozen BK151.out 1) | ((with_reducible refine gate_callee (f := 17) rfl ?_); refine goesL_ (some 21) rfl rfl Try.func17 (by kernel_rfl) rfl #[.agg #[.slice A0_0 l0_0.length c0_0, .slice A0_1 l0_1.length c0_1]] rfl (by (try simp only [List.map_toArray, List.map_cons, List.map_nil]); first | done | rfl | (simp only [List.length_drop, List.length_take]; rfl)) ?_; (with_reducible refine (laws_toRecord.calls k _ _ l0_0 _ _ l0_1 t153 t156 _ ?side1 ?side2 ?side3 ?side4 A7.out).mono ?_); (case side1 => exact cz_ (Kd.C_below HR0_0.out HB.out)); (case side2 => exact HC0_0.out); (case side3 => exact cz_ (Kd.C_below HR0_1.out HB.out)); (case side4 => exact HC0_1.out); rintro e w16 ⟨v154, v157, rfl, ho0, ho1, hb⟩; refine ⟨_, rfl, ?_⟩; have n0_ := Aside0.mk (Kd.R_lower ho0 (below_size (by repeat (first | (with_reducible first | exact HB.out | apply below_alloc | apply pw_below_drewN | apply below_drew1 | refine below_set ?_ GE151.out) | exact HB.out)))); have n1_ := Aside0.mk (Kd.R_lower ho1 (below_size (by repeat (first | (with_reducible first | exact HB.out | apply below_alloc | apply pw_below_drewN | apply below_drew1 | refine below_set ?_ GE151.out) | exact HB.out)))); have n2_ := Aside0.mk (blk_below (bz_ BK151.out) hb); have n3_ := Aside0.mk (below_step (by repeat (first | (with_reducible first | exact HB.out | apply below_alloc | apply pw_below_drewN | apply below_drew1 | refine below_set ?_ GE151.out) | exact HB.out)) hb); clear BK151; clear HB; have HO155 := n0_; have HO158 := n1_; have BK151 := n2_; have HB := n3_; clear n0_ n1_ n2_ n3_; (try clear hb); (try clear hb2); (try clear hk); (try clear hi); (try clear ho0); (try clear ho1); obtain ⟨Ao17, co17, eo17⟩ := Kd.R_slice HO155.out; subst eo17; obtain ⟨Ao18, co18, eo18⟩ := Kd.R_slice HO158.out; subst eo18) | ((with_reducible refine gate_callee (f := 34) rfl ?_); refine goesL_ (some 22) rfl rfl Try.func34 (by kernel_rfl) rfl #[.agg #[.slice Ao17 t153.length co17, .slice Ao18 t156.length co18]] rfl (by (try simp only [List.map_toArray, List.map_cons, List.map_nil]); first | done | rfl | (simp only [List.length_drop, List.length_take]; rfl)) ?_; (with_reducible refine (spec_MatrixLinks.calls k _ _ t153 _ _ t156 t159 t162 _ ?side1 ?side2 ?side3 ?side4 A8.out).mono ?_); (case side1 => exact cz_ (Kd.R_reads' HO155.out).2.2); (case side2 => exact (Kd.R_reads' HO155.out).2.1); (case side3 => exact cz_ (Kd.R_reads' HO158.out).2.2); (case side4 => exact (Kd.R_reads' HO158.out).2.1); rintro e w19 ⟨v160, rfl, ho0, hb⟩; refine ⟨_, rfl, ?_⟩; have n0_ := Aside0.mk (Kd.R_below (rz_ HO155.out) hb); have n1_ := Aside0.mk (Kd.R_elder' (rz_ HO158.out) (Kd.R_base ho0) hb); have n2_ := Aside0.mk (Kd.R_lower (Kd.R_new' ho0 (Kd.R_lt (rz_ HO158.out))) (below_size (by repeat (first | (with_reducible first | exact HB.out | apply below_alloc | apply pw_below_drewN | apply below_drew1 | refine below_set ?_ GE151.out) | exact HB.out)))); have n3_ := Aside0.mk (blk_below (bz_ BK151.out) hb); have n4_ := Aside0.mk (below_step (by repeat (first | (with_reducible first | exact HB.out | apply below_alloc | apply pw_below_drewN | apply below_drew1 | refine below_set ?_ GE151.out) | exact HB.out)) hb); clear HO155; clear HO158; clear BK151; clear HB; have HO155 := n0_; have HO158 := n1_; have HO161 := n2_; have BK151 := n3_; have HB := n4_; clear n0_ n1_ n2_ n3_ n4_; (try clear hb); (try clear hb2); (try clear hk); (try clear hi); (try clear ho0); have hcz20_0 : w19.cell? ⟨gb151, 0, none⟩ = some (.slice A0_0 l0_0.length c0_0) := (blk_cell BK151.out 0).trans rfl; have hcz20_1 : w19.cell? ⟨gb151, 1, none⟩ = some (.slice A0_1 l0_1.length c0_1) := (blk_cell BK151.out 1).trans rfl; have hfz20_0 := blk_frozen BK151.out 0; have hfz20_1 := blk_frozen BK151.out 1) | ((with_reducible refine gate_callee (f := 17) rfl ?_); refine goesL_ (some 26) rfl rfl Try.func17 (by kernel_rfl) rfl #[.agg #[.slice A0_0 l0_0.length c0_0, .slice A0_1 l0_1.length c0_1]] rfl (by (try simp only [List.map_toArray, List.map_cons, List.map_nil]); first | done | rfl | (simp only [List.length_drop, List.length_take]; rfl)) ?_; (with_reducible refine (laws_toRecord.calls k _ _ l0_0 _ _ l0_1 t163 t166 _ ?side1 ?side2 ?side3 ?side4 A9.out).mono ?_); (case side1 => exact cz_ (Kd.C_below HR0_0.out HB.out)); (case side2 => exact HC0_0.out); (case side3 => exact cz_ (Kd.C_below HR0_1.out HB.out)); (case side4 => exact HC0_1.out); rintro e w21 ⟨v164, v167, rfl, ho0, ho1, hb⟩; refine ⟨_, rfl, ?_⟩; have n0_ := Aside0.mk (Kd.R_elder' (rz_ HO155.out) (Kd.R_base ho0) hb); have n1_ := Aside0.mk (Kd.R_elder' (rz_ HO158.out) (Kd.R_base ho1) hb); have n2_ := Aside0.mk (Kd.R_elder' (rz_ HO161.out) (Kd.R_base ho1) hb); have n3_ := Aside0.mk (Kd.R_lower (Kd.R_new' ho0 (Kd.R_lt (rz_ HO155.out))) (below_size (by repeat (first | (with_reducible first | exact HB.out | apply below_alloc | apply pw_below_drewN | apply below_drew1 | refine below_set ?_ GE151.out) | exact HB.out)))); have n4_ := Aside0.mk (Kd.R_lower (Kd.R_new' (Kd.R_new' ho1 (Kd.R_lt (rz_ HO158.out))) (Kd.R_lt (rz_ HO161.out))) (below_size (by repeat (first | (with_reducible first | exact HB.out | apply below_alloc | apply pw_below_drewN | apply below_drew1 | refine below_set ?_ GE151.out) | exact HB.out)))); have n5_ := Aside0.mk (blk_below (bz_ BK151.out) hb); have n6_ := Aside0.mk (below_step (by repeat (first | (with_reducible first | exact HB.out | apply below_alloc | apply pw_below_drewN | apply below_drew1 | refine below_set ?_ GE151.out) | exact HB.out)) hb); clear HO155; clear HO158; clear HO161; clear BK151; clear HB; have HO155 := n0_; have HO158 := n1_; have HO161 := n2_; have HO165 := n3_; have HO168 := n4_; have BK151 := n5_; have HB := n6_; clear n0_ n1_ n2_ n3_ n4_ n5_ n6_; (try clear hb); (try clear hb2); (try clear hk); (try clear hi); (try clear ho0); (try clear ho1)) | ((with_reducible refine gate_dst (N := 6) rfl ?_); refine box_event ?hg (N := 6) ?hd (cs := #[.slice none 0 0, .slice none 0 0]) (t := 33) ?hr ?_; (case hd => rfl); (case hg => rfl); (case hr => first | (go_simp; done) | (go_simp; rfl)); intro gb169 hg w22 hbox hb; have n0_ := Aside0.mk (Kd.R_below (rz_ HO155.out) hb); have n1_ := Aside0.mk (Kd.R_below (rz_ HO158.out) hb); have n2_ := Aside0.mk (Kd.R_below (rz_ HO161.out) hb); have n3_ := Aside0.mk (Kd.R_below (rz_ HO165.out) hb); have n4_ := Aside0.mk (Kd.R_below (rz_ HO168.out) hb); have n5_ := Aside0.mk (blk_below (bz_ BK151.out) hb); have n6_ := Aside0.mk (below_step (by repeat (first | (with_reducible first | exact HB.out | apply below_alloc | apply pw_below_drewN | apply below_drew1 | refine below_set ?_ GE151.out) | exact HB.out)) hb); have n7_ := Aside0.mk (hbox); have n8_ := Aside0.mk ((by rw [hg]; exact (below_size (by repeat (first | (with_reducible first | exact HB.out | apply below_alloc | apply pw_below_drewN | apply below_drew1 | refine below_set ?_ GE151.out) | exact HB.out))) : w.heap.size ≤ gb169)); have n9_ := Aside0.mk ((by rw [hg]; exact (below_size (by repeat (first | (with_reducible first | exact HB.out | apply below_alloc | apply pw_below_drewN | apply below_drew1 | refine below_set ?_ GE151.out) | exact HB.out))) : w.heap.size ≤ gb169)); have n10_ := Aside0.mk ((by rw [hg]; exact Nat.ne_of_lt (blk_lt (g := gb151) (o := .cells #[.slice A0_0 l0_0.length c0_0, .slice A0_1 l0_1.length c0_1] 25 (0, 0)) (bz_ BK151.out)) : gb151 ≠ gb169)); have n11_ := Aside0.mk ((by rw [hg]; exact Nat.ne_of_gt (blk_lt (g := gb151) (o := .cells #[.slice A0_0 l0_0.length c0_0, .slice A0_1 l0_1.length c0_1] 25 (0, 0)) (bz_ BK151.out)) : gb169 ≠ gb151)); clear HO155; clear HO158; clear HO161; clear HO165; clear HO168; clear BK151; clear HB; have HO155 := n0_; have HO158 := n1_; have HO161 := n2_; have HO165 := n3_; have HO168 := n4_; have BK151 := n5_; have HB := n6_; have BK169 := n7_; have GW169 := n8_; have GE169 := n9_; have NB151_169 := n10_; have NB169_151 := n11_; clear n0_ n1_ n2_ n3_ n4_ n5_ n6_ n7_ n8_ n9_ n10_ n11_; clear hb hbox hg; obtain ⟨Ao23, co23, eo23⟩ := Kd.R_slice HO165.out; subst eo23; have hnb24 := NB169_151.out; have hnc24 := NB151_169.out; have hcz25_0 : w22.cell? ⟨gb169, 0, none⟩ = some (.slice none 0 0) := (blk_cell BK169.out 0).trans rfl; have hcz25_1 : w22.cell? ⟨gb169, 1, none⟩ = some (.slice none 0 0) := (blk_cell BK169.out 1).trans rfl; have hfz25_0 := blk_frozen BK169.out 0; have hfz25_1 := blk_frozen BK169.out 1; obtain ⟨Ao26, co26, eo26⟩ := Kd.R_slice HO168.out; subst eo26) | ((with_reducible refine gate_callee (f := 35) rfl ?_); refine goesL_ (some 29) rfl rfl Try.func35 (by kernel_rfl) rfl #[.agg #[.slice Ao23 t163.length co23, .slice Ao26 t166.length co26]] rfl (by (try simp only [List.map_toArray, List.map_cons, List.map_nil]); first | done | rfl | (simp only [List.length_drop, List.length_take]; rfl)) ?_; (with_reducible refine (impl_MatrixLinks.calls _ _ t163 _ _ t166 t170 t173 _ ?side1 ?side2 ?side3 ?side4 A10.out).mono ?_); (case side1 => refine (Kd.R_reads' (e := 86) (base := w.heap.size) (ok := fun k_ => (True ∧ some k_ ≠ (.slice Ao17 t153.length co17 : Value).ownBlock)) (n := t163.length) (c := co23) ?_).2.2; exact (rz_ (Kd.R_mono (Kd.R_far (p := ⟨gb169, 1, none⟩) (Kd.R_far (p := ⟨gb169, 0, none⟩) (Kd.R_types HO165.out BK169.out (by decide)) (fun _ hk => hk.2) (.slice Ao23 t163.length co23)) (fun _ hk => hk.2) (.slice Ao26 t166.length co26)) (fun _ h_ => h_.1)))); (case side2 => exact (Kd.R_reads' HO165.out).2.1); (case side3 => refine (Kd.R_reads' (e := 95) (base := w.heap.size) (ok := fun k_ => ((True ∧ some k_ ≠ (.slice Ao18 t156.length co18 : Value).ownBlock) ∧ some k_ ≠ (v160 : Value).ownBlock)) (n := t166.length) (c := co26) ?_).2.2; exact (rz_ (Kd.R_mono (Kd.R_far (p := ⟨gb169, 1, none⟩) (Kd.R_far (p := ⟨gb169, 0, none⟩) (Kd.R_types HO168.out BK169.out (by decide)) (fun _ hk => hk.2) (.slice Ao23 t163.length co23)) (fun _ hk => hk.2) (.slice Ao26 t166.length co26)) (fun _ h_ => h_.1)))); (case side4 => exact (Kd.R_reads' HO168.out).2.1); rintro e w27 ⟨v171, rfl, ho0, hb⟩; refine ⟨_, rfl, ?_⟩; have n0_ := Aside0.mk (Kd.R_below (rz_ (Kd.R_mono (Kd.R_far (p := ⟨gb169, 1, none⟩) (Kd.R_far (p := ⟨gb169, 0, none⟩) (Kd.R_types HO155.out BK169.out (by decide)) (fun _ hk => hk.2) (.slice Ao23 t163.length co23)) (fun _ hk => hk.2) (.slice Ao26 t166.length co26)) (fun _ h_ => h_.1))) hb); have n1_ := Aside0.mk (Kd.R_elder' (rz_ (Kd.R_mono (Kd.R_far (p := ⟨gb169, 1, none⟩) (Kd.R_far (p := ⟨gb169, 0, none⟩) (Kd.R_types HO158.out BK169.out (by decide)) (fun _ hk => hk.2) (.slice Ao23 t163.length co23)) (fun _ hk => hk.2) (.slice Ao26 t166.length co26)) (fun _ h_ => h_.1))) (Kd.R_base ho0) hb); have n2_ := Aside0.mk (Kd.R_elder' (rz_ (Kd.R_mono (Kd.R_far (p := ⟨gb169, 1, none⟩) (Kd.R_far (p := ⟨gb169, 0, none⟩) (Kd.R_types HO161.out BK169.out (by decide)) (fun _ hk => hk.2) (.slice Ao23 t163.length co23)) (fun _ hk => hk.2) (.slice Ao26 t166.length co26)) (fun _ h_ => h_.1))) (Kd.R_base ho0) hb); have n3_ := Aside0.mk (Kd.R_below (rz_ (Kd.R_mono (Kd.R_far (p := ⟨gb169, 1, none⟩) (Kd.R_far (p := ⟨gb169, 0, none⟩) (Kd.R_types HO165.out BK169.out (by decide)) (fun _ hk => hk.2) (.slice Ao23 t163.length co23)) (fun _ hk => hk.2) (.slice Ao26 t166.length co26)) (fun _ h_ => h_.1))) hb); have n4_ := Aside0.mk (Kd.R_elder' (rz_ (Kd.R_mono (Kd.R_far (p := ⟨gb169, 1, none⟩) (Kd.R_far (p := ⟨gb169, 0, none⟩) (Kd.R_types HO168.out BK169.out (by decide)) (fun _ hk => hk.2) (.slice Ao23 t163.length co23)) (fun _ hk => hk.2) (.slice Ao26 t166.length co26)) (fun _ h_ => h_.1))) (Kd.R_base ho0) hb); have n5_ := Aside0.mk (Kd.R_lower (Kd.R_new' (Kd.R_new' (Kd.R_new' ho0 (Kd.R_lt (rz_ (Kd.R_mono (Kd.R_far (p := ⟨gb169, 1, none⟩) (Kd.R_far (p := ⟨gb169, 0, none⟩) (Kd.R_types HO158.out BK169.out (by decide)) (fun _ hk => hk.2) (.slice Ao23 t163.length co23)) (fun _ hk => hk.2) (.slice Ao26 t166.length co26)) (fun _ h_ => h_.1))))) (Kd.R_lt (rz_ (Kd.R_mono (Kd.R_far (p := ⟨gb169, 1, none⟩) (Kd.R_far (p := ⟨gb169, 0, none⟩) (Kd.R_types HO161.out BK169.out (by decide)) (fun _ hk => hk.2) (.slice Ao23 t163.length co23)) (fun _ hk => hk.2) (.slice Ao26 t166.length co26)) (fun _ h_ => h_.1))))) (Kd.R_lt (rz_ (Kd.R_mono (Kd.R_far (p := ⟨gb169, 1, none⟩) (Kd.R_far (p := ⟨gb169, 0, none⟩) (Kd.R_types HO168.out BK169.out (by decide)) (fun _ hk => hk.2) (.slice Ao23 t163.length co23)) (fun _ hk => hk.2) (.slice Ao26 t166.length co26)) (fun _ h_ => h_.1))))) (below_size (by repeat (first | (with_reducible first | exact HB.out | apply below_alloc | apply pw_below_drewN | apply below_drew1 | refine below_set ?_ GE151.out | refine below_set ?_ GE169.out) | exact HB.out)))); have n6_ := Aside0.mk (blk_below (g := gb151) (o := .cells #[.slice A0_0 l0_0.length c0_0, .slice A0_1 l0_1.length c0_1] 25 (0, 0)) (by (with_reducible repeat (first | refine blk_drewN ?_ _ | refine blk_drew ?_ | refine blk_alloc ?_ _)); refine blk_far ?_ NB151_169.out _; (with_reducible repeat (first | refine blk_drewN ?_ _ | refine blk_drew ?_ | refine blk_alloc ?_ _)); refine blk_far ?_ NB151_169.out _; (with_reducible repeat (first | refine blk_drewN ?_ _ | refine blk_drew ?_ | refine blk_alloc ?_ _)); exact BK151.out) hb); have n7_ := Aside0.mk (blk_below (g := gb169) (o := .cells #[.slice Ao23 t163.length co23, .slice Ao26 t166.length co26] 33 (0, 0)) (by (with_reducible repeat (first | refine blk_drewN ?_ _ | refine blk_drew ?_ | refine blk_alloc ?_ _)); refine blk_put (cs := #[.slice Ao23 t163.length co23, .slice none 0 0]) ?_ 1 _ rfl; (with_reducible repeat (first | refine blk_drewN ?_ _ | refine blk_drew ?_ | refine blk_alloc ?_ _)); refine blk_put (cs := #[.slice none 0 0, .slice none 0 0]) ?_ 0 _ rfl; (with_reducible repeat (first | refine blk_drewN ?_ _ | refine blk_drew ?_ | refine blk_alloc ?_ _)); exact BK169.out) hb); have n8_ := Aside0.mk (below_step (by repeat (first | (with_reducible first | exact HB.out | apply below_alloc | apply pw_below_drewN | apply below_drew1 | refine below_set ?_ GE151.out | refine below_set ?_ GE169.out) | exact HB.out)) hb); clear HO155; clear HO158; clear HO161; clear HO165; clear HO168; clear BK151; clear BK169; clear HB; have HO155 := n0_; have HO158 := n1_; have HO161 := n2_; have HO165 := n3_; have HO168 := n4_; have HO172 := n5_; have BK151 := n6_; have BK169 := n7_; have HB := n8_; clear n0_ n1_ n2_ n3_ n4_ n5_ n6_ n7_ n8_; (try clear hb); (try clear hb2); (try clear hk); (try clear hi); (try clear ho0)))
  (try simp only [Act.put, List.setIfInBounds_toArray, List.set_cons_zero, List.set_cons_succ])
  go_cut [40] (fun v40 wc => ∃ (kq : Nat) (x40_10 : Bool), v40 = .bool x40_10 ∧ Aside0 (laws_FnExactMatrixLinks.j0 kq t159 t162 t170 t173 x40_10 l0_0 l0_1 t163 t166 = some r) ∧ Aside0 (kq ≤ k) ∧ Aside0 (Kd.R k95 95 wc w.heap.size (fun k_ => some k_ ≠ (v171 : Value).ownBlock ∧ some k_ ≠ ((.slice Ao26 t166.length co26) : Value).ownBlock) v160 t159) ∧ Aside0 (Kd.R k95 95 wc w.heap.size (fun k_ => some k_ ≠ (v160 : Value).ownBlock ∧ some k_ ≠ ((.slice Ao26 t166.length co26) : Value).ownBlock) v171 t170) ∧ Aside0 (Kd.R k86 86 wc w.heap.size (fun _ => True) (.slice Ao23 t163.length co23) t163) ∧ Aside0 (Kd.R k95 95 wc w.heap.size (fun k_ => some k_ ≠ (v160 : Value).ownBlock ∧ some k_ ≠ (v171 : Value).ownBlock) (.slice Ao26 t166.length co26) t166) ∧ Aside0 (wc.heap[gb151]? = some (.cells #[(.slice A0_0 l0_0.length c0_0), (.slice A0_1 l0_1.length c0_1)] 25 (0, 0))) ∧ Aside0 (wc.heap[gb169]? = some (.cells #[(.slice Ao23 t163.length co23), (.slice Ao26 t166.length co26)] 33 (0, 0))) ∧ Aside0 (Below w.heap.size w wc))
  case first =>
   have H := HC11.out
   clear HC11
   replace H := Option.bind_eq_some_iff.mp H
   obtain ⟨t174, A280, H⟩ := H
   replace H : (if t174 = true then (laws_FnExactMatrixLinks.j0 k t159 t162 t170 t173 (t173 != t162) l0_0 l0_1 t163 t166) else (laws_FnExactMatrixLinks.j0 k t159 t162 t170 t173 true l0_0 l0_1 t163 t166)) = some r := H
   have A28 := Aside0.mk A280
   clear A280
   by_cases c29 : t174 = true
   ·subst c29
    have H1 : (laws_FnExactMatrixLinks.j0 k t159 t162 t170 t173 (t173 != t162) l0_0 l0_1 t163 t166) = some r := by rw [if_pos rfl] at H; exact H
    clear H
    have H := H1
    clear H1
    have H' := Aside0.mk H
    clear H
    obtain ⟨Ao30, co30, eo30⟩ := Kd.R_slice HO172.out
    subst eo30
    obtain ⟨Ao31, co31, eo31⟩ := Kd.R_slice HO161.out
    subst eo31
    go_wp2_with (first | ((with_reducible refine gate_callee (f := 36) rfl ?_); refine goesL_ (some 34) rfl rfl Try.func36 (by kernel_rfl) rfl #[.slice Ao30 t170.length co30, .slice Ao31 t159.length co31] rfl (by (try simp only [List.map_toArray, List.map_cons, List.map_nil]); first | done | rfl | (simp only [List.length_drop, List.length_take]; rfl)) ?_; (with_reducible refine (laws_eqRelationS.calls k _ _ t170 _ _ t159 true _ ?side1 ?side2 ?side3 ?side4 A28.out).mono ?_); (case side1 => exact cz_ (Kd.R_reads' HO172.out).2.2); (case side2 => exact (Kd.R_reads' HO172.out).2.1); (case side3 => exact cz_ (Kd.R_reads' HO161.out).2.2); (case side4 => exact (Kd.R_reads' HO161.out).2.1); rintro e w32 ⟨rfl, hb⟩; refine ⟨_, rfl, ?_⟩; have n0_ := Aside0.mk (Kd.R_below (rz_ HO155.out) hb); have n1_ := Aside0.mk (Kd.R_below (rz_ HO158.out) hb); have n2_ := Aside0.mk (Kd.R_below (rz_ HO161.out) hb); have n3_ := Aside0.mk (Kd.R_below (rz_ HO165.out) hb); have n4_ := Aside0.mk (Kd.R_below (rz_ HO168.out) hb); have n5_ := Aside0.mk (Kd.R_below (rz_ HO172.out) hb); have n6_ := Aside0.mk (blk_below (bz_ BK151.out) hb); have n7_ := Aside0.mk (blk_below (bz_ BK169.out) hb); have n8_ := Aside0.mk (below_step (by repeat (first | (with_reducible first | exact HB.out | apply below_alloc | apply pw_below_drewN | apply below_drew1 | refine below_set ?_ GE151.out | refine below_set ?_ GE169.out) | exact HB.out)) hb); clear HO155; clear HO158; clear HO161; clear HO165; clear HO168; clear HO172; clear BK151; clear BK169; clear HB; have HO155 := n0_; have HO158 := n1_; have HO161 := n2_; have HO165 := n3_; have HO168 := n4_; have HO172 := n5_; have BK151 := n6_; have BK169 := n7_; have HB := n8_; clear n0_ n1_ n2_ n3_ n4_ n5_ n6_ n7_ n8_; (try clear hb); (try clear hb2); (try clear hk); (try clear hi)))
    go_meet
    case rel => exact ⟨_, ((t173 != t162)), (by first | rfl | (simp; done) | (simp [*]; done)), H', ⟨by first | omega | exact Nat.le_refl _⟩, ⟨rz_ (Kd.R_mono HO161.out (fun _ hk => ⟨hk.2, hk.1.2⟩))⟩, ⟨rz_ (Kd.R_mono HO172.out (fun _ hk => ⟨hk.1.2, hk.2⟩))⟩, ⟨rz_ (Kd.R_mono HO165.out (fun _ hk => trivial))⟩, ⟨rz_ (Kd.R_mono HO168.out (fun _ hk => ⟨hk.1.2, hk.2⟩))⟩, ⟨bz_ BK151.out⟩, ⟨bz_ BK169.out⟩, ⟨by repeat (first | (with_reducible first | exact HB.out | apply below_alloc | apply pw_below_drewN | apply below_drew1 | refine below_set ?_ GE151.out | refine below_set ?_ GE169.out) | exact HB.out)⟩⟩
   ·replace c29 := Bool.eq_false_iff.mpr c29
    subst c29
    have H1 : (laws_FnExactMatrixLinks.j0 k t159 t162 t170 t173 true l0_0 l0_1 t163 t166) = some r := by rw [if_neg (show ¬ (false = true) by decide)] at H; exact H
    clear H
    have H := H1
    clear H1
    have H' := Aside0.mk H
    clear H
    obtain ⟨Ao33, co33, eo33⟩ := Kd.R_slice HO172.out
    subst eo33
    obtain ⟨Ao34, co34, eo34⟩ := Kd.R_slice HO161.out
    subst eo34
    go_wp2_with (first | ((with_reducible refine gate_callee (f := 36) rfl ?_); refine goesL_ (some 34) rfl rfl Try.func36 (by kernel_rfl) rfl #[.slice Ao33 t170.length co33, .slice Ao34 t159.length co34] rfl (by (try simp only [List.map_toArray, List.map_cons, List.map_nil]); first | done | rfl | (simp only [List.length_drop, List.length_take]; rfl)) ?_; (with_reducible refine (laws_eqRelationS.calls k _ _ t170 _ _ t159 false _ ?side1 ?side2 ?side3 ?side4 A28.out).mono ?_); (case side1 => exact cz_ (Kd.R_reads' HO172.out).2.2); (case side2 => exact (Kd.R_reads' HO172.out).2.1); (case side3 => exact cz_ (Kd.R_reads' HO161.out).2.2); (case side4 => exact (Kd.R_reads' HO161.out).2.1); rintro e w35 ⟨rfl, hb⟩; refine ⟨_, rfl, ?_⟩; have n0_ := Aside0.mk (Kd.R_below (rz_ HO155.out) hb); have n1_ := Aside0.mk (Kd.R_below (rz_ HO158.out) hb); have n2_ := Aside0.mk (Kd.R_below (rz_ HO161.out) hb); have n3_ := Aside0.mk (Kd.R_below (rz_ HO165.out) hb); have n4_ := Aside0.mk (Kd.R_below (rz_ HO168.out) hb); have n5_ := Aside0.mk (Kd.R_below (rz_ HO172.out) hb); have n6_ := Aside0.mk (blk_below (bz_ BK151.out) hb); have n7_ := Aside0.mk (blk_below (bz_ BK169.out) hb); have n8_ := Aside0.mk (below_step (by repeat (first | (with_reducible first | exact HB.out | apply below_alloc | apply pw_below_drewN | apply below_drew1 | refine below_set ?_ GE151.out | refine below_set ?_ GE169.out) | exact HB.out)) hb); clear HO155; clear HO158; clear HO161; clear HO165; clear HO168; clear HO172; clear BK151; clear BK169; clear HB; have HO155 := n0_; have HO158 := n1_; have HO161 := n2_; have HO165 := n3_; have HO168 := n4_; have HO172 := n5_; have BK151 := n6_; have BK169 := n7_; have HB := n8_; clear n0_ n1_ n2_ n3_ n4_ n5_ n6_ n7_ n8_; (try clear hb); (try clear hb2); (try clear hk); (try clear hi)))
    go_meet
    case rel => exact ⟨_, (true), (by first | rfl | (simp; done) | (simp [*]; done)), H', ⟨by first | omega | exact Nat.le_refl _⟩, ⟨rz_ (Kd.R_mono HO161.out (fun _ hk => ⟨hk.2, hk.1.2⟩))⟩, ⟨rz_ (Kd.R_mono HO172.out (fun _ hk => ⟨hk.1.2, hk.2⟩))⟩, ⟨rz_ (Kd.R_mono HO165.out (fun _ hk => trivial))⟩, ⟨rz_ (Kd.R_mono HO168.out (fun _ hk => ⟨hk.1.2, hk.2⟩))⟩, ⟨bz_ BK151.out⟩, ⟨bz_ BK169.out⟩, ⟨by repeat (first | (with_reducible first | exact HB.out | apply below_alloc | apply pw_below_drewN | apply below_drew1 | refine below_set ?_ GE151.out | refine below_set ?_ GE169.out) | exact HB.out)⟩⟩
  case rest =>
   clear HC11
   try clear c1
   try clear c2
   try clear p2
   try clear c3
   try clear c3b0
   try clear c7
   try clear c15
   try clear c17
   try clear c24
   try clear c29
   try clear c34
   try clear c35
   try clear hcz13_0
   try clear hcz13_1
   try clear hcz15_0
   try clear hcz15_1
   try clear hcz20_0
   try clear hcz20_1
   try clear hcz25_0
   try clear hcz25_1
   try clear hcz5_0
   try clear hcz5_1
   try clear hfz13_0
   try clear hfz13_1
   try clear hfz15_0
   try clear hfz15_1
   try clear hfz20_0
   try clear hfz20_1
   try clear hfz25_0
   try clear hfz25_1
   try clear hfz5_0
   try clear hfz5_1
   obtain ⟨kq, x40_10, rfl, HA, HJ10, HO_4, HO_7, HO_170000, HO_170001, BK151, BK169, HB⟩ := hcut
   cases kq with
   | zero => exact absurd HA.out (by simp [laws_FnExactMatrixLinks.j0])
   | succ kj10 =>
    have H := HA.out
    clear HA
    simp only [laws_FnExactMatrixLinks.j0] at H
    by_cases c36 : x40_10 = true
    ·subst c36
     have H1 : (some false) = some r := by rw [if_pos rfl] at H; exact H
     clear H
     have H := H1
     clear H1
     obtain rfl := Option.some.inj H
     go_wp2
     go_ret
     exact ⟨by first | rfl | (simp [errW_none, errW_some] <;> rfl) | (simp [*, errW_none, errW_some] <;> rfl), by repeat (first | (with_reducible first | exact HB.out | apply below_alloc | apply pw_below_drewN | apply below_drew1 | refine below_set ?_ GE151.out | refine below_set ?_ GE169.out) | exact HB.out)⟩
    ·replace c36 := Bool.eq_false_iff.mpr c36
     subst c36
     have H1 : ((laws_toRecord.f kj10 l0_0 l0_1).bind fun bt175 => ((laws_eqRecord.f kj10 t163 t166 bt175.1 bt175.2).bind fun t181 => (if t181 = true then ((laws_markRecord.f kj10 t163 t166 1).bind fun bt182 => (if bt182.1 < 0 then (laws_FnExactMatrixLinks.j1 kj10 t159 t162 t170 true l0_0 l0_1) else ((laws_eqRelationS.f kj10 t170 t159).bind fun t185 => (if t185 = true then (laws_FnExactMatrixLinks.j1 kj10 t159 t162 t170 (t173 != t162) l0_0 l0_1) else (laws_FnExactMatrixLinks.j1 kj10 t159 t162 t170 true l0_0 l0_1))))) else (some false)))) = some r := by rw [if_neg (show ¬ (false = true) by decide)] at H; exact H
     clear H
     have H := H1
     clear H1
     replace H := Option.bind_eq_some_iff.mp H
     obtain ⟨⟨t175, t178⟩, A370, H⟩ := H
     replace H : ((laws_eqRecord.f kj10 t163 t166 t175 t178).bind fun t181 => (if t181 = true then ((laws_markRecord.f kj10 t163 t166 1).bind fun bt182 => (if bt182.1 < 0 then (laws_FnExactMatrixLinks.j1 kj10 t159 t162 t170 true l0_0 l0_1) else ((laws_eqRelationS.f kj10 t170 t159).bind fun t185 => (if t185 = true then (laws_FnExactMatrixLinks.j1 kj10 t159 t162 t170 (t173 != t162) l0_0 l0_1) else (laws_FnExactMatrixLinks.j1 kj10 t159 t162 t170 true l0_0 l0_1))))) else (some false))) = some r := H
     have A37 := Aside0.mk A370
     clear A370
     replace H := Option.bind_eq_some_iff.mp H
     obtain ⟨t181, A380, H⟩ := H
     replace H : (if t181 = true then ((laws_markRecord.f kj10 t163 t166 1).bind fun bt182 => (if bt182.1 < 0 then (laws_FnExactMatrixLinks.j1 kj10 t159 t162 t170 true l0_0 l0_1) else ((laws_eqRelationS.f kj10 t170 t159).bind fun t185 => (if t185 = true then (laws_FnExactMatrixLinks.j1 kj10 t159 t162 t170 (t173 != t162) l0_0 l0_1) else (laws_FnExactMatrixLinks.j1 kj10 t159 t162 t170 true l0_0 l0_1))))) else (some false)) = some r := H
     have A38 := Aside0.mk A380
     clear A380
     by_cases c39 : t181 = true
     ·subst c39
      have H1 : ((laws_markRecord.f kj10 t163 t166 1).bind fun bt182 => (if bt182.1 < 0 then (laws_FnExactMatrixLinks.j1 kj10 t159 t162 t170 true l0_0 l0_1) else ((laws_eqRelationS.f kj10 t170 t159).bind fun t185 => (if t185 = true then (laws_FnExactMatrixLinks.j1 kj10 t159 t162 t170 (t173 != t162) l0_0 l0_1) else (laws_FnExactMatrixLinks.j1 kj10 t159 t162 t170 true l0_0 l0_1))))) = some r := by rw [if_pos rfl] at H; exact H
      clear H
      have H := H1
      clear H1
      replace H := Option.bind_eq_some_iff.mp H
      obtain ⟨⟨t182, t183, t184⟩, A400, H⟩ := H
      replace H : (if t182 < 0 then (laws_FnExactMatrixLinks.j1 kj10 t159 t162 t170 true l0_0 l0_1) else ((laws_eqRelationS.f kj10 t170 t159).bind fun t185 => (if t185 = true then (laws_FnExactMatrixLinks.j1 kj10 t159 t162 t170 (t173 != t162) l0_0 l0_1) else (laws_FnExactMatrixLinks.j1 kj10 t159 t162 t170 true l0_0 l0_1)))) = some r := H
      have A40 := Aside0.mk A400
      clear A400
      have HC41 := Aside0.mk H
      clear H
      try go_wp2
      have n0_ := Aside0.mk (Kd.R_drew HO_4.out)
      have n1_ := Aside0.mk (Kd.R_drew HO_7.out)
      have n2_ := Aside0.mk (Kd.R_drew HO_170000.out)
      have n3_ := Aside0.mk (Kd.R_drew HO_170001.out)
      have n4_ := Aside0.mk (blk_drew BK151.out)
      have n5_ := Aside0.mk (blk_drew BK169.out)
      have n6_ := Aside0.mk (below_drew1 HB.out)
      clear HO_4
      clear HO_7
      clear HO_170000
      clear HO_170001
      clear BK151
      clear BK169
      clear HB
      have HO_4 := n0_
      have HO_7 := n1_
      have HO_170000 := n2_
      have HO_170001 := n3_
      have BK151 := n4_
      have BK169 := n5_
      have HB := n6_
      clear n0_ n1_ n2_ n3_ n4_ n5_ n6_
      refine start_ (n := 5) (S := fun w' => w'.cell? ⟨gb169, 0, none⟩ = some (.slice Ao23 t163.length co23) ∧ w'.cell? ⟨gb169, 1, none⟩ = some (.slice Ao26 t166.length co26) ∧ w'.cell? ⟨gb151, 0, none⟩ = some (.slice A0_0 l0_0.length c0_0) ∧ w'.cell? ⟨gb151, 1, none⟩ = some (.slice A0_1 l0_1.length c0_1)) (ds := []) #[false, false, false, false, false] (by kernel_rfl) rfl rfl ⟨(blk_cell BK169.out 0).trans rfl, (blk_cell BK169.out 1).trans rfl, (blk_cell BK151.out 0).trans rfl, (blk_cell BK151.out 1).trans rfl⟩ (fun hHeld => ?_)
      generalize wc.drew = w42 at HO_4 HO_7 HO_170000 HO_170001 BK151 BK169 HB hHeld ⊢
      refine take_ (i := 0) (N := some 41) (v := ?_) (a' := ?_) #[true, false, false, false, false] rfl rfl (by kernel_rfl) (fun _ _ _ h => h) (Or.inl ⟨by rfl, ?_⟩) hHeld ?_ ?_
      rotate_left
      ·rintro w' ⟨s0, s1, s2, s3⟩
       go_simp
       with_reducible rfl
      rotate_left
      ·simp only [Act.put, List.setIfInBounds_toArray, List.set_cons_zero, List.set_cons_succ, i64_w, i32_w]
       rfl
      refine take_ (i := 1) (N := some 42) (v := ?_) (a' := ?_) #[true, true, false, false, false] rfl rfl (by kernel_rfl) (fun _ _ _ h => h) (Or.inl ⟨by rfl, ?_⟩) hHeld ?_ ?_
      rotate_left
      ·rintro w' ⟨s0, s1, s2, s3⟩
       go_simp
       with_reducible rfl
      rotate_left
      ·simp only [Act.put, List.setIfInBounds_toArray, List.set_cons_zero, List.set_cons_succ, i64_w, i32_w]
       rfl
      refine one_ (i := 2) (N := some 43) (bl 3 5) rfl rfl (by kernel_rfl) (by decide) (fun K hK => ?_)
      refine goes_ Try.func17 (by kernel_rfl) rfl #[.agg #[.slice A0_0 l0_0.length c0_0, .slice A0_1 l0_1.length c0_1]] (by rfl) rfl rfl (by (try simp only [List.map_toArray, List.map_cons, List.map_nil]); first | done | rfl | (simp only [List.length_drop, List.length_take]; rfl)) ?_
      with_reducible refine (laws_toRecord.calls kj10 _ _ l0_0 _ _ l0_1 t175 t178 _ ?side1 ?side2 ?side3 ?side4 A37.out).mono ?_
      (case side1 => exact cz_ (Kd.C_below HR0_0.out HB.out))
      (case side2 => exact HC0_0.out)
      (case side3 => exact cz_ (Kd.C_below HR0_1.out HB.out))
      (case side4 => exact HC0_1.out)
      rintro e w43 ⟨v176, v179, rfl, ho0, ho1, hb⟩
      refine ⟨_, rfl, ?_⟩
      have n0_ := Aside0.mk (Kd.R_elder' (rz_ HO_4.out) (Kd.R_base ho1) hb)
      have n1_ := Aside0.mk (Kd.R_elder' (rz_ HO_7.out) (Kd.R_base ho1) hb)
      have n2_ := Aside0.mk (Kd.R_elder' (rz_ HO_170000.out) (Kd.R_base ho0) hb)
      have n3_ := Aside0.mk (Kd.R_elder' (rz_ HO_170001.out) (Kd.R_base ho1) hb)
      have n4_ := Aside0.mk (Kd.R_lower (Kd.R_new' ho0 (Kd.R_lt (rz_ HO_170000.out))) (below_size (by repeat (first | (with_reducible first | exact HB.out | apply below_alloc | apply pw_below_drewN | apply below_drew1 | refine below_set ?_ GE151.out | refine below_set ?_ GE169.out) | exact HB.out))))
      have n5_ := Aside0.mk (Kd.R_lower (Kd.R_new' (Kd.R_new' (Kd.R_new' ho1 (Kd.R_lt (rz_ HO_4.out))) (Kd.R_lt (rz_ HO_7.out))) (Kd.R_lt (rz_ HO_170001.out))) (below_size (by repeat (first | (with_reducible first | exact HB.out | apply below_alloc | apply pw_below_drewN | apply below_drew1 | refine below_set ?_ GE151.out | refine below_set ?_ GE169.out) | exact HB.out))))
      have n6_ := Aside0.mk (blk_below (bz_ BK151.out) hb)
      have n7_ := Aside0.mk (blk_below (bz_ BK169.out) hb)
      have n8_ := Aside0.mk (below_step (by repeat (first | (with_reducible first | exact HB.out | apply below_alloc | apply pw_below_drewN | apply below_drew1 | refine below_set ?_ GE151.out | refine below_set ?_ GE169.out) | exact HB.out)) hb)
      clear HO_4
      clear HO_7
      clear HO_170000
      clear HO_170001
      clear BK151
      clear BK169
      clear HB
      have HO_4 := n0_
      have HO_7 := n1_
      have HO_170000 := n2_
      have HO_170001 := n3_
      have HO177 := n4_
      have HO180 := n5_
      have BK151 := n6_
      have BK169 := n7_
      have HB := n8_
      clear n0_ n1_ n2_ n3_ n4_ n5_ n6_ n7_ n8_
      (try clear hb)
      (try clear hb2)
      (try clear hk)
      (try clear hi)
      (try clear ho0)
      (try clear ho1)
      obtain ⟨Ao44, co44, eo44⟩ := Kd.R_slice HO177.out
      (first | subst eo44 | (injection eo44 with f1_ f2_ f3_; have f4_ := f1_.symm; have f5_ := f3_.symm; clear f1_ f2_ f3_; subst f4_; subst f5_))
      obtain ⟨Ao45, co45, eo45⟩ := Kd.R_slice HO180.out
      (first | subst eo45 | (injection eo45 with f1_ f2_ f3_; have f4_ := f1_.symm; have f5_ := f3_.symm; clear f1_ f2_ f3_; subst f4_; subst f5_))
      refine hK.out _ _ ⟨(blk_cell BK169.out 0).trans rfl, (blk_cell BK169.out 1).trans rfl, (blk_cell BK151.out 0).trans rfl, (blk_cell BK151.out 1).trans rfl⟩ (fun hHeld => ?_)
      clear hK K
      refine norm_ (a' := ?_) ?_ ?_
      rotate_left
      ·show Act.put _ (some 43) _ = _
       simp only [Act.put, List.setIfInBounds_toArray, List.set_cons_zero, List.set_cons_succ, i64_w, i32_w]
       rfl
      refine one_ (i := 3) (N := some 44) (bl 4 5) rfl rfl (by kernel_rfl) (by decide) (fun K hK => ?_)
      refine goes_ Try.func20 (by kernel_rfl) rfl #[.agg #[.slice Ao23 t163.length co23, .slice Ao26 t166.length co26], .agg #[.slice Ao44 t175.length co44, .slice Ao45 t178.length co45]] (by rfl) rfl rfl (by (try simp only [List.map_toArray, List.map_cons, List.map_nil]); first | done | rfl | (simp only [List.length_drop, List.length_take]; rfl)) ?_
      with_reducible refine (laws_eqRecord.calls kj10 _ _ t163 _ _ t166 _ _ t175 _ _ t178 true _ ?side1 ?side2 ?side3 ?side4 ?side5 ?side6 ?side7 ?side8 A38.out).mono ?_
      (case side1 => exact cz_ (Kd.R_reads' HO_170000.out).2.2)
      (case side2 => exact (Kd.R_reads' HO_170000.out).2.1)
      (case side3 => exact cz_ (Kd.R_reads' HO_170001.out).2.2)
      (case side4 => exact (Kd.R_reads' HO_170001.out).2.1)
      (case side5 => exact cz_ (Kd.R_reads' HO177.out).2.2)
      (case side6 => exact (Kd.R_reads' HO177.out).2.1)
      (case side7 => exact cz_ (Kd.R_reads' HO180.out).2.2)
      (case side8 => exact (Kd.R_reads' HO180.out).2.1)
      rintro e w46 ⟨rfl, hb⟩
      refine ⟨_, rfl, ?_⟩
      have n0_ := Aside0.mk (Kd.R_below (rz_ HO_4.out) hb)
      have n1_ := Aside0.mk (Kd.R_below (rz_ HO_7.out) hb)
      have n2_ := Aside0.mk (Kd.R_below (rz_ HO_170000.out) hb)
      have n3_ := Aside0.mk (Kd.R_below (rz_ HO_170001.out) hb)
      have n4_ := Aside0.mk (Kd.R_below (rz_ HO177.out) hb)
      have n5_ := Aside0.mk (Kd.R_below (rz_ HO180.out) hb)
      have n6_ := Aside0.mk (blk_below (bz_ BK151.out) hb)
      have n7_ := Aside0.mk (blk_below (bz_ BK169.out) hb)
      have n8_ := Aside0.mk (below_step (by repeat (first | (with_reducible first | exact HB.out | apply below_alloc | apply pw_below_drewN | apply below_drew1 | refine below_set ?_ GE151.out | refine below_set ?_ GE169.out) | exact HB.out)) hb)
      clear HO_4
      clear HO_7
      clear HO_170000
      clear HO_170001
      clear HO177
      clear HO180
      clear BK151
      clear BK169
      clear HB
      have HO_4 := n0_
      have HO_7 := n1_
      have HO_170000 := n2_
      have HO_170001 := n3_
      have HO177 := n4_
      have HO180 := n5_
      have BK151 := n6_
      have BK169 := n7_
      have HB := n8_
      clear n0_ n1_ n2_ n3_ n4_ n5_ n6_ n7_ n8_
      (try clear hb)
      (try clear hb2)
      (try clear hk)
      (try clear hi)
      refine hK.out _ _ ⟨(blk_cell BK169.out 0).trans rfl, (blk_cell BK169.out 1).trans rfl, (blk_cell BK151.out 0).trans rfl, (blk_cell BK151.out 1).trans rfl⟩ (fun hHeld => ?_)
      clear hK K
      refine norm_ (a' := ?_) ?_ ?_
      rotate_left
      ·show Act.put _ (some 44) _ = _
       simp only [Act.put, List.setIfInBounds_toArray, List.set_cons_zero, List.set_cons_succ, i64_w, i32_w]
       rfl
      refine pure_ (i := 4) (N := some 45) (v := ?_) (a' := ?_) #[true, true, true, true, true] rfl rfl (by kernel_rfl) (fun _ _ _ h => h) (Or.inl ⟨by rfl, ?_⟩) ?_ ?_
      rotate_left
      ·intro w'
       go_simp
       with_reducible rfl
      rotate_left
      ·simp only [Act.put, List.setIfInBounds_toArray, List.set_cons_zero, List.set_cons_succ, i64_w, i32_w]
       rfl
      refine done_ (by kernel_rfl) ?_
      have hnb47 := NB169_151.out
      have hnc47 := NB151_169.out
      have hcz48_0 : w46.cell? ⟨gb169, 0, none⟩ = some (.slice Ao23 t163.length co23) := (blk_cell BK169.out 0).trans rfl
      have hcz48_1 : w46.cell? ⟨gb169, 1, none⟩ = some (.slice Ao26 t166.length co26) := (blk_cell BK169.out 1).trans rfl
      have hfz48_0 := blk_frozen BK169.out 0
      have hfz48_1 := blk_frozen BK169.out 1
      go_upto_region 14 with (first | ((with_reducible refine gate_callee (f := 21) rfl ?_); refine goesL_ (some 48) rfl rfl Try.func21 (by kernel_rfl) rfl #[.agg #[.slice Ao23 t163.length co23, .slice Ao26 t166.length co26], .int .i64 1] rfl (by (try simp only [List.map_toArray, List.map_cons, List.map_nil]); first | done | rfl | (simp only [List.length_drop, List.length_take]; rfl)) ?_; (with_reducible refine (laws_markRecord.calls kj10 (fun k_ => some k_ = (.slice Ao23 t163.length co23 : Value).ownBlock) (.slice Ao23 t163.length co23) t163 (fun k_ => some k_ = (.slice Ao26 t166.length co26 : Value).ownBlock) (.slice Ao26 t166.length co26) t166 1 t182 t183 t184 w _ ?side1 ?side2 ?side3 A40.out).mono ?_); (case side1 => repeat (first | (with_reducible first | exact HB.out | apply below_alloc | apply pw_below_drewN | apply below_drew1 | refine below_set ?_ GE151.out | refine below_set ?_ GE169.out) | exact HB.out)); (case side2 => exact Kd.R_tight rfl HO_170000.out); (case side3 => exact Kd.R_tight rfl HO_170001.out); rintro e w49 ⟨rfl, hy0, hy1, hb, hkp⟩; refine ⟨_, rfl, ?_⟩; have n0_ := Aside0.mk (Kd.R_mono (ok' := fun k_ => some k_ ≠ (v171 : Value).ownBlock ∧ some k_ ≠ (.slice Ao26 t166.length co26 : Value).ownBlock ∧ some k_ ≠ (.slice Ao45 t178.length co45 : Value).ownBlock) (Kd.R_keptB ((Kd.R_apart' HO_4.out (Kd.R_typed HO_170000.out) (by decide))) hkp (fun k_ hk_ hs_ => Or.elim hs_ (fun e_ => (hk_.2) e_) (fun e_ => (hk_.1.1.2) e_))) (fun k_ hk_ => ⟨hk_.1.1.1.1, hk_.1.1.1.2, hk_.1.1.2⟩)); have n1_ := Aside0.mk (Kd.R_mono (ok' := fun k_ => some k_ ≠ (v160 : Value).ownBlock ∧ some k_ ≠ (.slice Ao26 t166.length co26 : Value).ownBlock ∧ some k_ ≠ (.slice Ao45 t178.length co45 : Value).ownBlock) (Kd.R_keptB ((Kd.R_apart' HO_7.out (Kd.R_typed HO_170000.out) (by decide))) hkp (fun k_ hk_ hs_ => Or.elim hs_ (fun e_ => (hk_.2) e_) (fun e_ => (hk_.1.1.2) e_))) (fun k_ hk_ => ⟨hk_.1.1.1.1, hk_.1.1.1.2, hk_.1.1.2⟩)); have n2_ := Aside0.mk (Kd.R_reok rfl hy0 (fun k_ e_ => HO_170000.out.1 k_ e_)); have n3_ := Aside0.mk (Kd.R_reok rfl hy1 (fun k_ e_ => HO_170001.out.1 k_ e_)); have n4_ := Aside0.mk (blk_kept (bz_ BK151.out) hkp (fun hs_ => Or.elim hs_ (fun e_ => (fun e_ => (Kd.R_ne HO_170000.out BK151.out (by decide)) e_) e_) (fun e_ => (fun e_ => (Kd.R_ne HO_170001.out BK151.out (by decide)) e_) e_))); have n5_ := Aside0.mk (blk_kept (bz_ BK169.out) hkp (fun hs_ => Or.elim hs_ (fun e_ => (fun e_ => (Kd.R_ne HO_170000.out BK169.out (by decide)) e_) e_) (fun e_ => (fun e_ => (Kd.R_ne HO_170001.out BK169.out (by decide)) e_) e_))); have n6_ := Aside0.mk (Kd.R_mono (ok' := fun k_ => some k_ ≠ (.slice Ao23 t163.length co23 : Value).ownBlock) (Kd.R_keptB ((Kd.R_apart' HO177.out (Kd.R_typed HO_170001.out) (by decide))) hkp (fun k_ hk_ hs_ => Or.elim hs_ (fun e_ => (hk_.1.2) e_) (fun e_ => (hk_.2) e_))) (fun k_ hk_ => hk_.1.1.2)); have n7_ := Aside0.mk (Kd.R_mono (ok' := fun k_ => some k_ ≠ (v160 : Value).ownBlock ∧ some k_ ≠ (v171 : Value).ownBlock ∧ some k_ ≠ (.slice Ao26 t166.length co26 : Value).ownBlock) (Kd.R_keptB ((Kd.R_apart' HO180.out (Kd.R_typed HO_170000.out) (by decide))) hkp (fun k_ hk_ hs_ => Or.elim hs_ (fun e_ => (hk_.2) e_) (fun e_ => (hk_.1.2) e_))) (fun k_ hk_ => ⟨hk_.1.1.1.1.2, hk_.1.1.1.2, hk_.1.1.2⟩)); have n8_ := Aside0.mk (hb); clear HO_4; clear HO_7; clear HO_170000; clear HO_170001; clear BK151; clear BK169; clear HO177; clear HO180; clear HB; have HO_4 := n0_; have HO_7 := n1_; have HO_170000 := n2_; have HO_170001 := n3_; have BK151 := n4_; have BK169 := n5_; have HO177 := n6_; have HO180 := n7_; have HB := n8_; clear n0_ n1_ n2_ n3_ n4_ n5_ n6_ n7_ n8_; (try clear hb); (try clear hkp); (try clear hy0); (try clear hy1)))
      (try simp only [Act.put, List.setIfInBounds_toArray, List.set_cons_zero, List.set_cons_succ])
      go_cut [61] (fun v61 wc => ∃ (kq : Nat) (x61_40 : Bool), v61 = .bool x61_40 ∧ Aside0 (laws_FnExactMatrixLinks.j1 kq t159 t162 t170 x61_40 l0_0 l0_1 = some r) ∧ Aside0 (kq ≤ kj10) ∧ Aside0 (Kd.R k95 95 wc w.heap.size (fun k_ => some k_ ≠ (v171 : Value).ownBlock ∧ some k_ ≠ ((.slice Ao26 t166.length co26) : Value).ownBlock) v160 t159) ∧ Aside0 (Kd.R k95 95 wc w.heap.size (fun k_ => some k_ ≠ (v160 : Value).ownBlock ∧ some k_ ≠ ((.slice Ao26 t166.length co26) : Value).ownBlock) v171 t170) ∧ Aside0 (Kd.R k86 86 wc w.heap.size (fun _ => True) (.slice Ao23 t163.length co23) t183) ∧ Aside0 (Kd.R k95 95 wc w.heap.size (fun k_ => some k_ ≠ (v160 : Value).ownBlock ∧ some k_ ≠ (v171 : Value).ownBlock) (.slice Ao26 t166.length co26) t184) ∧ Aside0 (wc.heap[gb151]? = some (.cells #[(.slice A0_0 l0_0.length c0_0), (.slice A0_1 l0_1.length c0_1)] 25 (0, 0))) ∧ Aside0 (wc.heap[gb169]? = some (.cells #[(.slice Ao23 t163.length co23), (.slice Ao26 t166.length co26)] 33 (0, 0))) ∧ Aside0 (Below w.heap.size w wc))
      case first =>
       have H := HC41.out
       clear HC41
       by_cases c50 : t182 < 0
       ·rw [if_pos c50] at H
        have c50b0 : decide (t182 < 0) = true := decide_eq_true c50
        clear c50
        (first | rw [c50b0] | (simp only [i64_w, i32_w]; rw [c50b0]) | skip)
        have H' := Aside0.mk H
        clear H
        go_wp2
        go_meet
        case rel => exact ⟨_, (true), (by first | rfl | (simp; done) | (simp [*]; done)), H', ⟨by have := HJ10.out; first | omega | exact Nat.le_refl _⟩, ⟨rz_ (Kd.R_mono HO_4.out (fun _ hk => ⟨hk.1, hk.2.1⟩))⟩, ⟨rz_ (Kd.R_mono HO_7.out (fun _ hk => ⟨hk.1, hk.2.1⟩))⟩, ⟨rz_ (Kd.R_mono HO_170000.out (fun _ hk => trivial))⟩, ⟨rz_ (Kd.R_mono HO_170001.out (fun _ hk => ⟨hk.1.1, hk.1.2⟩))⟩, ⟨bz_ BK151.out⟩, ⟨bz_ BK169.out⟩, ⟨by repeat (first | (with_reducible first | exact HB.out | apply below_alloc | apply pw_below_drewN | apply below_drew1 | refine below_set ?_ GE151.out | refine below_set ?_ GE169.out) | exact HB.out)⟩⟩
       ·rw [if_neg c50] at H
        have c50b0 : decide (t182 < 0) = false := decide_eq_false c50
        clear c50
        (first | rw [c50b0] | (simp only [i64_w, i32_w]; rw [c50b0]) | skip)
        replace H := Option.bind_eq_some_iff.mp H
        obtain ⟨t185, A510, H⟩ := H
        replace H : (if t185 = true then (laws_FnExactMatrixLinks.j1 kj10 t159 t162 t170 (t173 != t162) l0_0 l0_1) else (laws_FnExactMatrixLinks.j1 kj10 t159 t162 t170 true l0_0 l0_1)) = some r := H
        have A51 := Aside0.mk A510
        clear A510
        by_cases c52 : t185 = true
        ·subst c52
         have H1 : (laws_FnExactMatrixLinks.j1 kj10 t159 t162 t170 (t173 != t162) l0_0 l0_1) = some r := by rw [if_pos rfl] at H; exact H
         clear H
         have H := H1
         clear H1
         have H' := Aside0.mk H
         clear H
         obtain ⟨Ao53, co53, eo53⟩ := Kd.R_slice HO_7.out
         subst eo53
         obtain ⟨Ao54, co54, eo54⟩ := Kd.R_slice HO_4.out
         subst eo54
         go_wp2_with (first | (go_at_call 36; (with_reducible refine (laws_eqRelationS.calls kj10 _ _ t170 _ _ t159 true _ ?side1 ?side2 ?side3 ?side4 A51.out).mono ?_); (case side1 => exact cz_ (Kd.R_reads' HO_7.out).2.2); (case side2 => exact (Kd.R_reads' HO_7.out).2.1); (case side3 => exact cz_ (Kd.R_reads' HO_4.out).2.2); (case side4 => exact (Kd.R_reads' HO_4.out).2.1); rintro e w55 ⟨rfl, hb⟩; have n0_ := Aside0.mk (Kd.R_below (rz_ HO_4.out) hb); have n1_ := Aside0.mk (Kd.R_below (rz_ HO_7.out) hb); have n2_ := Aside0.mk (Kd.R_below (rz_ HO_170000.out) hb); have n3_ := Aside0.mk (Kd.R_below (rz_ HO_170001.out) hb); have n4_ := Aside0.mk (Kd.R_below (rz_ HO177.out) hb); have n5_ := Aside0.mk (Kd.R_below (rz_ HO180.out) hb); have n6_ := Aside0.mk (blk_below (bz_ BK151.out) hb); have n7_ := Aside0.mk (blk_below (bz_ BK169.out) hb); have n8_ := Aside0.mk (below_step (by repeat (first | (with_reducible first | exact HB.out | apply below_alloc | apply pw_below_drewN | apply below_drew1 | refine below_set ?_ GE151.out | refine below_set ?_ GE169.out) | exact HB.out)) hb); clear HO_4; clear HO_7; clear HO_170000; clear HO_170001; clear HO177; clear HO180; clear BK151; clear BK169; clear HB; have HO_4 := n0_; have HO_7 := n1_; have HO_170000 := n2_; have HO_170001 := n3_; have HO177 := n4_; have HO180 := n5_; have BK151 := n6_; have BK169 := n7_; have HB := n8_; clear n0_ n1_ n2_ n3_ n4_ n5_ n6_ n7_ n8_; (try clear hb); (try clear hb2); (try clear hk); (try clear hi)))
         go_meet
         case rel => exact ⟨_, ((t173 != t162)), (by first | rfl | (simp; done) | (simp [*]; done)), H', ⟨by have := HJ10.out; first | omega | exact Nat.le_refl _⟩, ⟨rz_ (Kd.R_mono HO_4.out (fun _ hk => ⟨hk.1, hk.2.1⟩))⟩, ⟨rz_ (Kd.R_mono HO_7.out (fun _ hk => ⟨hk.1, hk.2.1⟩))⟩, ⟨rz_ (Kd.R_mono HO_170000.out (fun _ hk => trivial))⟩, ⟨rz_ (Kd.R_mono HO_170001.out (fun _ hk => ⟨hk.1.1, hk.1.2⟩))⟩, ⟨bz_ BK151.out⟩, ⟨bz_ BK169.out⟩, ⟨by repeat (first | (with_reducible first | exact HB.out | apply below_alloc | apply pw_below_drewN | apply below_drew1 | refine below_set ?_ GE151.out | refine below_set ?_ GE169.out) | exact HB.out)⟩⟩
        ·replace c52 := Bool.eq_false_iff.mpr c52
         subst c52
         have H1 : (laws_FnExactMatrixLinks.j1 kj10 t159 t162 t170 true l0_0 l0_1) = some r := by rw [if_neg (show ¬ (false = true) by decide)] at H; exact H
         clear H
         have H := H1
         clear H1
         have H' := Aside0.mk H
         clear H
         obtain ⟨Ao56, co56, eo56⟩ := Kd.R_slice HO_7.out
         subst eo56
         obtain ⟨Ao57, co57, eo57⟩ := Kd.R_slice HO_4.out
         subst eo57
         go_wp2_with (first | (go_at_call 36; (with_reducible refine (laws_eqRelationS.calls kj10 _ _ t170 _ _ t159 false _ ?side1 ?side2 ?side3 ?side4 A51.out).mono ?_); (case side1 => exact cz_ (Kd.R_reads' HO_7.out).2.2); (case side2 => exact (Kd.R_reads' HO_7.out).2.1); (case side3 => exact cz_ (Kd.R_reads' HO_4.out).2.2); (case side4 => exact (Kd.R_reads' HO_4.out).2.1); rintro e w58 ⟨rfl, hb⟩; have n0_ := Aside0.mk (Kd.R_below (rz_ HO_4.out) hb); have n1_ := Aside0.mk (Kd.R_below (rz_ HO_7.out) hb); have n2_ := Aside0.mk (Kd.R_below (rz_ HO_170000.out) hb); have n3_ := Aside0.mk (Kd.R_below (rz_ HO_170001.out) hb); have n4_ := Aside0.mk (Kd.R_below (rz_ HO177.out) hb); have n5_ := Aside0.mk (Kd.R_below (rz_ HO180.out) hb); have n6_ := Aside0.mk (blk_below (bz_ BK151.out) hb); have n7_ := Aside0.mk (blk_below (bz_ BK169.out) hb); have n8_ := Aside0.mk (below_step (by repeat (first | (with_reducible first | exact HB.out | apply below_alloc | apply pw_below_drewN | apply below_drew1 | refine below_set ?_ GE151.out | refine below_set ?_ GE169.out) | exact HB.out)) hb); clear HO_4; clear HO_7; clear HO_170000; clear HO_170001; clear HO177; clear HO180; clear BK151; clear BK169; clear HB; have HO_4 := n0_; have HO_7 := n1_; have HO_170000 := n2_; have HO_170001 := n3_; have HO177 := n4_; have HO180 := n5_; have BK151 := n6_; have BK169 := n7_; have HB := n8_; clear n0_ n1_ n2_ n3_ n4_ n5_ n6_ n7_ n8_; (try clear hb); (try clear hb2); (try clear hk); (try clear hi)))
         go_meet
         case rel => exact ⟨_, (true), (by first | rfl | (simp; done) | (simp [*]; done)), H', ⟨by have := HJ10.out; first | omega | exact Nat.le_refl _⟩, ⟨rz_ (Kd.R_mono HO_4.out (fun _ hk => ⟨hk.1, hk.2.1⟩))⟩, ⟨rz_ (Kd.R_mono HO_7.out (fun _ hk => ⟨hk.1, hk.2.1⟩))⟩, ⟨rz_ (Kd.R_mono HO_170000.out (fun _ hk => trivial))⟩, ⟨rz_ (Kd.R_mono HO_170001.out (fun _ hk => ⟨hk.1.1, hk.1.2⟩))⟩, ⟨bz_ BK151.out⟩, ⟨bz_ BK169.out⟩, ⟨by repeat (first | (with_reducible first | exact HB.out | apply below_alloc | apply pw_below_drewN | apply below_drew1 | refine below_set ?_ GE151.out | refine below_set ?_ GE169.out) | exact HB.out)⟩⟩
      case rest =>
       clear HC41
       try clear c1
       try clear c2
       try clear p2
       try clear c3
       try clear c3b0
       try clear c4
       try clear c5
       try clear c7
       try clear c15
       try clear c17
       try clear c20
       try clear c21
       try clear c24
       try clear c29
       try clear c34
       try clear c35
       try clear c36
       try clear c39
       try clear c47
       try clear c50
       try clear c50b0
       try clear c52
       try clear hcz13_0
       try clear hcz13_1
       try clear hcz15_0
       try clear hcz15_1
       try clear hcz20_0
       try clear hcz20_1
       try clear hcz25_0
       try clear hcz25_1
       try clear hcz48_0
       try clear hcz48_1
       try clear hcz5_0
       try clear hcz5_1
       try clear hfz13_0
       try clear hfz13_1
       try clear hfz15_0
       try clear hfz15_1
       try clear hfz20_0
       try clear hfz20_1
       try clear hfz25_0
       try clear hfz25_1
       try clear hfz48_0
       try clear hfz48_1
       try clear hfz5_0
       try clear hfz5_1
       try clear p2
       obtain ⟨kq, x61_40, rfl, HA, HJ40, HO_4, HO_7, HO_170000, HO_170001, BK151, BK169, HB⟩ := hcut
       have hl170000_40 := (Kd.R_reads' HO_170000.out).1
       rw [hl170000_40] at HO_170000
       (try simp only [hl170000_40])
       (try simp only [hl170000_40] at BK151)
       (try simp only [hl170000_40] at BK169)
       (try simp only [hl170000_40] at HO_4)
       (try simp only [hl170000_40] at HO_7)
       (try simp only [hl170000_40] at HO_170001)
       have hl170001_40 := (Kd.R_reads' HO_170001.out).1
       rw [hl170001_40] at HO_170001
       (try simp only [hl170001_40])
       (try simp only [hl170001_40] at BK151)
       (try simp only [hl170001_40] at BK169)
       (try simp only [hl170001_40] at HO_4)
       (try simp only [hl170001_40] at HO_7)
       (try simp only [hl170001_40] at HO_170000)
       cases kq with
       | zero => exact absurd HA.out (by simp [laws_FnExactMatrixLinks.j1])
       | succ kj40 =>
        have H := HA.out
        clear HA
        simp only [laws_FnExactMatrixLinks.j1] at H
        by_cases c59 : x61_40 = true
        ·subst c59
         have H1 : (some false) = some r := by rw [if_pos rfl] at H; exact H
         clear H
         have H := H1
         clear H1
         obtain rfl := Option.some.inj H
         go_wp2
         go_ret
         exact ⟨by first | rfl | (simp [errW_none, errW_some] <;> rfl) | (simp [*, errW_none, errW_some] <;> rfl), by repeat (first | (with_reducible first | exact HB.out | apply below_alloc | apply pw_below_drewN | apply below_drew1 | refine below_set ?_ GE151.out | refine below_set ?_ GE169.out) | exact HB.out)⟩
        ·replace c59 := Bool.eq_false_iff.mpr c59
         subst c59
         have H1 : ((laws_markRelationS.f kj40 t170 1).bind fun bt186 => ((laws_heldRelationS.f kj40 bt186.2 1).bind fun t188 => (if t188 < 0 then (some false) else (if t188 = bt186.1 then ((laws_toRecord.f kj40 l0_0 l0_1).bind fun bt189 => ((impl_MatrixLinks.f bt189.1 bt189.2).bind fun bt195 => ((laws_eqRelationS.f kj40 bt195.1 t159).bind fun t199 => (if t199 = true then (laws_FnExactMatrixLinks.j2 kj40 bt186.2 bt186.1 (bt195.2 != t162)) else (laws_FnExactMatrixLinks.j2 kj40 bt186.2 bt186.1 true))))) else (some false))))) = some r := by rw [if_neg (show ¬ (false = true) by decide)] at H; exact H
         clear H
         have H := H1
         clear H1
         replace H := Option.bind_eq_some_iff.mp H
         obtain ⟨⟨t186, t187⟩, A600, H⟩ := H
         replace H : ((laws_heldRelationS.f kj40 t187 1).bind fun t188 => (if t188 < 0 then (some false) else (if t188 = t186 then ((laws_toRecord.f kj40 l0_0 l0_1).bind fun bt189 => ((impl_MatrixLinks.f bt189.1 bt189.2).bind fun bt195 => ((laws_eqRelationS.f kj40 bt195.1 t159).bind fun t199 => (if t199 = true then (laws_FnExactMatrixLinks.j2 kj40 t187 t186 (bt195.2 != t162)) else (laws_FnExactMatrixLinks.j2 kj40 t187 t186 true))))) else (some false)))) = some r := H
         have A60 := Aside0.mk A600
         clear A600
         replace H := Option.bind_eq_some_iff.mp H
         obtain ⟨t188, A610, H⟩ := H
         replace H : (if t188 < 0 then (some false) else (if t188 = t186 then ((laws_toRecord.f kj40 l0_0 l0_1).bind fun bt189 => ((impl_MatrixLinks.f bt189.1 bt189.2).bind fun bt195 => ((laws_eqRelationS.f kj40 bt195.1 t159).bind fun t199 => (if t199 = true then (laws_FnExactMatrixLinks.j2 kj40 t187 t186 (bt195.2 != t162)) else (laws_FnExactMatrixLinks.j2 kj40 t187 t186 true))))) else (some false))) = some r := H
         have A61 := Aside0.mk A610
         clear A610
         by_cases c62 : t188 < 0
         ·rw [if_pos c62] at H
          have c62b0 : decide (t188 < 0) = true := decide_eq_true c62
          clear c62
          obtain rfl := Option.some.inj H
          obtain ⟨Ao63, co63, eo63⟩ := Kd.R_slice HO_7.out
          subst eo63
          go_wp2_with (first | ((with_reducible refine gate_callee (f := 37) rfl ?_); refine goesL_ (some 64) rfl rfl Try.func37 (by kernel_rfl) rfl #[.slice Ao63 t170.length co63, .int .i64 1] rfl (by (try simp only [List.map_toArray, List.map_cons, List.map_nil]); first | done | rfl | (simp only [List.length_drop, List.length_take]; rfl)) ?_; (with_reducible refine (laws_markRelationS.calls kj40 (fun k_ => some k_ = (.slice Ao63 t170.length co63 : Value).ownBlock) (.slice Ao63 t170.length co63) t170 1 t186 t187 w _ ?side1 ?side2 A60.out).mono ?_); (case side1 => repeat (first | (with_reducible first | exact HB.out | apply below_alloc | apply pw_below_drewN | apply below_drew1 | refine below_set ?_ GE151.out | refine below_set ?_ GE169.out) | exact HB.out)); (case side2 => exact Kd.R_tight rfl HO_7.out); rintro e w64 ⟨rfl, hy0, hb, hkp⟩; refine ⟨_, rfl, ?_⟩; have n0_ := Aside0.mk (Kd.R_mono (ok' := fun k_ => some k_ ≠ (.slice Ao63 t170.length co63 : Value).ownBlock ∧ some k_ ≠ (.slice Ao26 t184.length co26 : Value).ownBlock) (Kd.R_keptB (HO_4.out) hkp (fun k_ hk_ hs_ => (hk_.1) hs_)) (fun k_ hk_ => ⟨hk_.1.1, hk_.1.2⟩)); have n1_ := Aside0.mk (Kd.R_reok rfl hy0 (fun k_ e_ => HO_7.out.1 k_ e_)); have n2_ := Aside0.mk (Kd.R_mono (ok' := fun k_ => True) (Kd.R_keptB ((Kd.R_apart' HO_170000.out (Kd.R_typed HO_7.out) (by decide))) hkp (fun k_ hk_ hs_ => (hk_.2) hs_)) (fun k_ hk_ => trivial)); have n3_ := Aside0.mk (Kd.R_mono (ok' := fun k_ => some k_ ≠ (v160 : Value).ownBlock ∧ some k_ ≠ (.slice Ao63 t170.length co63 : Value).ownBlock) (Kd.R_keptB (HO_170001.out) hkp (fun k_ hk_ hs_ => (hk_.2) hs_)) (fun k_ hk_ => ⟨hk_.1.1, hk_.1.2⟩)); have n4_ := Aside0.mk (blk_kept (bz_ BK151.out) hkp (fun hs_ => (fun e_ => (Kd.R_ne HO_7.out BK151.out (by decide)) e_) hs_)); have n5_ := Aside0.mk (blk_kept (bz_ BK169.out) hkp (fun hs_ => (fun e_ => (Kd.R_ne HO_7.out BK169.out (by decide)) e_) hs_)); have n6_ := Aside0.mk (hb); clear HO_4; clear HO_7; clear HO_170000; clear HO_170001; clear BK151; clear BK169; clear HB; have HO_4 := n0_; have HO_7 := n1_; have HO_170000 := n2_; have HO_170001 := n3_; have BK151 := n4_; have BK169 := n5_; have HB := n6_; clear n0_ n1_ n2_ n3_ n4_ n5_ n6_; (try clear hb); (try clear hkp); (try clear hy0)) | ((with_reducible refine gate_callee (f := 38) rfl ?_); refine goesL_ (some 67) rfl rfl Try.func38 (by kernel_rfl) rfl #[.slice Ao63 t187.length co63, .int .i64 1] rfl (by (try simp only [List.map_toArray, List.map_cons, List.map_nil]); first | done | (rw [show t187.length = t170.length from (Kd.R_reads' HO_7.out).1.symm] <;> rfl) | rfl | (simp only [List.length_drop, List.length_take]; rfl)) ?_; (with_reducible refine (laws_heldRelationS.calls kj40 _ _ t187 1 t188 _ ?side1 ?side2 A61.out).mono ?_); (case side1 => exact cz_ (Kd.R_reads' HO_7.out).2.2); (case side2 => rw [show t187.length = t170.length from (Kd.R_reads' HO_7.out).1.symm]; exact (Kd.R_reads' HO_7.out).2.1); rintro e w' ⟨rfl, ⟨nd, rfl⟩⟩; refine ⟨_, rfl, ?_⟩))
          go_ret
          exact ⟨by first | rfl | (simp [errW_none, errW_some] <;> rfl) | (simp [*, errW_none, errW_some] <;> rfl), by repeat (first | (with_reducible first | exact HB.out | apply below_alloc | apply pw_below_drewN | apply below_drew1 | refine below_set ?_ GE151.out | refine below_set ?_ GE169.out) | exact HB.out)⟩
         ·rw [if_neg c62] at H
          have c62b0 : decide (t188 < 0) = false := decide_eq_false c62
          clear c62
          by_cases c65 : t188 = t186
          ·rw [if_pos c65] at H
           have c65b0 : (t188 == t186) = true := beq_iff_eq.mpr c65
           have c65b1 : (t188 != t186) = false := bne_eq_false_iff_eq.mpr c65
           clear c65
           replace H := Option.bind_eq_some_iff.mp H
           obtain ⟨⟨t189, t192⟩, A660, H⟩ := H
           replace H : ((impl_MatrixLinks.f t189 t192).bind fun bt195 => ((laws_eqRelationS.f kj40 bt195.1 t159).bind fun t199 => (if t199 = true then (laws_FnExactMatrixLinks.j2 kj40 t187 t186 (bt195.2 != t162)) else (laws_FnExactMatrixLinks.j2 kj40 t187 t186 true)))) = some r := H
           have A66 := Aside0.mk A660
           clear A660
           replace H := Option.bind_eq_some_iff.mp H
           obtain ⟨⟨t195, t198⟩, A670, H⟩ := H
           replace H : ((laws_eqRelationS.f kj40 t195 t159).bind fun t199 => (if t199 = true then (laws_FnExactMatrixLinks.j2 kj40 t187 t186 (t198 != t162)) else (laws_FnExactMatrixLinks.j2 kj40 t187 t186 true))) = some r := H
           have A67 := Aside0.mk A670
           clear A670
           have HC68 := Aside0.mk H
           clear H
           obtain ⟨Ao69, co69, eo69⟩ := Kd.R_slice HO_7.out
           subst eo69
           go_upto_region 25 with (first | ((with_reducible refine gate_callee (f := 37) rfl ?_); refine goesL_ (some 64) rfl rfl Try.func37 (by kernel_rfl) rfl #[.slice Ao69 t170.length co69, .int .i64 1] rfl (by (try simp only [List.map_toArray, List.map_cons, List.map_nil]); first | done | rfl | (simp only [List.length_drop, List.length_take]; rfl)) ?_; (with_reducible refine (laws_markRelationS.calls kj40 (fun k_ => some k_ = (.slice Ao69 t170.length co69 : Value).ownBlock) (.slice Ao69 t170.length co69) t170 1 t186 t187 w _ ?side1 ?side2 A60.out).mono ?_); (case side1 => repeat (first | (with_reducible first | exact HB.out | apply below_alloc | apply pw_below_drewN | apply below_drew1 | refine below_set ?_ GE151.out | refine below_set ?_ GE169.out) | exact HB.out)); (case side2 => exact Kd.R_tight rfl HO_7.out); rintro e w70 ⟨rfl, hy0, hb, hkp⟩; refine ⟨_, rfl, ?_⟩; have n0_ := Aside0.mk (Kd.R_mono (ok' := fun k_ => some k_ ≠ (.slice Ao69 t170.length co69 : Value).ownBlock ∧ some k_ ≠ (.slice Ao26 t184.length co26 : Value).ownBlock) (Kd.R_keptB (HO_4.out) hkp (fun k_ hk_ hs_ => (hk_.1) hs_)) (fun k_ hk_ => ⟨hk_.1.1, hk_.1.2⟩)); have n1_ := Aside0.mk (Kd.R_reok rfl hy0 (fun k_ e_ => HO_7.out.1 k_ e_)); have n2_ := Aside0.mk (Kd.R_mono (ok' := fun k_ => True) (Kd.R_keptB ((Kd.R_apart' HO_170000.out (Kd.R_typed HO_7.out) (by decide))) hkp (fun k_ hk_ hs_ => (hk_.2) hs_)) (fun k_ hk_ => trivial)); have n3_ := Aside0.mk (Kd.R_mono (ok' := fun k_ => some k_ ≠ (v160 : Value).ownBlock ∧ some k_ ≠ (.slice Ao69 t170.length co69 : Value).ownBlock) (Kd.R_keptB (HO_170001.out) hkp (fun k_ hk_ hs_ => (hk_.2) hs_)) (fun k_ hk_ => ⟨hk_.1.1, hk_.1.2⟩)); have n4_ := Aside0.mk (blk_kept (bz_ BK151.out) hkp (fun hs_ => (fun e_ => (Kd.R_ne HO_7.out BK151.out (by decide)) e_) hs_)); have n5_ := Aside0.mk (blk_kept (bz_ BK169.out) hkp (fun hs_ => (fun e_ => (Kd.R_ne HO_7.out BK169.out (by decide)) e_) hs_)); have n6_ := Aside0.mk (hb); clear HO_4; clear HO_7; clear HO_170000; clear HO_170001; clear BK151; clear BK169; clear HB; have HO_4 := n0_; have HO_7 := n1_; have HO_170000 := n2_; have HO_170001 := n3_; have BK151 := n4_; have BK169 := n5_; have HB := n6_; clear n0_ n1_ n2_ n3_ n4_ n5_ n6_; (try clear hb); (try clear hkp); (try clear hy0)) | ((with_reducible refine gate_callee (f := 38) rfl ?_); refine goesL_ (some 67) rfl rfl Try.func38 (by kernel_rfl) rfl #[.slice Ao69 t187.length co69, .int .i64 1] rfl (by (try simp only [List.map_toArray, List.map_cons, List.map_nil]); first | done | (rw [show t187.length = t170.length from (Kd.R_reads' HO_7.out).1.symm] <;> rfl) | rfl | (simp only [List.length_drop, List.length_take]; rfl)) ?_; (with_reducible refine (laws_heldRelationS.calls kj40 _ _ t187 1 t188 _ ?side1 ?side2 A61.out).mono ?_); (case side1 => exact cz_ (Kd.R_reads' HO_7.out).2.2); (case side2 => rw [show t187.length = t170.length from (Kd.R_reads' HO_7.out).1.symm]; exact (Kd.R_reads' HO_7.out).2.1); rintro e w' ⟨rfl, ⟨nd, rfl⟩⟩; refine ⟨_, rfl, ?_⟩; have hnb71 := NB151_169.out; have hnc71 := NB169_151.out; have hcz72_0 : w70.cell? ⟨gb151, 0, none⟩ = some (.slice A0_0 l0_0.length c0_0) := (blk_cell BK151.out 0).trans rfl; have hcz72_1 : w70.cell? ⟨gb151, 1, none⟩ = some (.slice A0_1 l0_1.length c0_1) := (blk_cell BK151.out 1).trans rfl; have hfz72_0 := blk_frozen BK151.out 0; have hfz72_1 := blk_frozen BK151.out 1) | ((with_reducible refine gate_callee (f := 17) rfl ?_); refine goesL_ (some 75) rfl rfl Try.func17 (by kernel_rfl) rfl #[.agg #[.slice A0_0 l0_0.length c0_0, .slice A0_1 l0_1.length c0_1]] rfl (by (try simp only [List.map_toArray, List.map_cons, List.map_nil]); first | done | rfl | (simp only [List.length_drop, List.length_take]; rfl)) ?_; (with_reducible refine (laws_toRecord.calls kj40 _ _ l0_0 _ _ l0_1 t189 t192 _ ?side1 ?side2 ?side3 ?side4 A66.out).mono ?_); (case side1 => repeat (first | exact (Kd.C_below HR0_0.out (by repeat (first | (with_reducible first | exact HB.out | apply below_alloc | apply pw_below_drewN | apply below_drew1 | refine below_set ?_ GE151.out | refine below_set ?_ GE169.out) | exact HB.out))) | (with_reducible refine Kd.C_alloc ?_ _) | (with_reducible refine Kd.C_drewN ?_ _) | (with_reducible refine Kd.C_drew ?_))); (case side2 => exact HC0_0.out); (case side3 => repeat (first | exact (Kd.C_below HR0_1.out (by repeat (first | (with_reducible first | exact HB.out | apply below_alloc | apply pw_below_drewN | apply below_drew1 | refine below_set ?_ GE151.out | refine below_set ?_ GE169.out) | exact HB.out))) | (with_reducible refine Kd.C_alloc ?_ _) | (with_reducible refine Kd.C_drewN ?_ _) | (with_reducible refine Kd.C_drew ?_))); (case side4 => exact HC0_1.out); rintro e w73 ⟨v190, v193, rfl, ho0, ho1, hb⟩; refine ⟨_, rfl, ?_⟩; have n0_ := Aside0.mk (Kd.R_elder' (rz_ HO_4.out) (Kd.R_base ho1) hb); have n1_ := Aside0.mk (Kd.R_elder' (rz_ HO_7.out) (Kd.R_base ho1) hb); have n2_ := Aside0.mk (Kd.R_elder' (rz_ HO_170000.out) (Kd.R_base ho0) hb); have n3_ := Aside0.mk (Kd.R_elder' (rz_ HO_170001.out) (Kd.R_base ho1) hb); have n4_ := Aside0.mk (Kd.R_lower (Kd.R_new' ho0 (Kd.R_lt (rz_ HO_170000.out))) (below_size (by repeat (first | (with_reducible first | exact HB.out | apply below_alloc | apply pw_below_drewN | apply below_drew1 | refine below_set ?_ GE151.out | refine below_set ?_ GE169.out) | exact HB.out)))); have n5_ := Aside0.mk (Kd.R_lower (Kd.R_new' (Kd.R_new' (Kd.R_new' ho1 (Kd.R_lt (rz_ HO_4.out))) (Kd.R_lt (rz_ HO_7.out))) (Kd.R_lt (rz_ HO_170001.out))) (below_size (by repeat (first | (with_reducible first | exact HB.out | apply below_alloc | apply pw_below_drewN | apply below_drew1 | refine below_set ?_ GE151.out | refine below_set ?_ GE169.out) | exact HB.out)))); have n6_ := Aside0.mk (blk_below (bz_ BK151.out) hb); have n7_ := Aside0.mk (blk_below (bz_ BK169.out) hb); have n8_ := Aside0.mk (below_step (by repeat (first | (with_reducible first | exact HB.out | apply below_alloc | apply pw_below_drewN | apply below_drew1 | refine below_set ?_ GE151.out | refine below_set ?_ GE169.out) | exact HB.out)) hb); clear HO_4; clear HO_7; clear HO_170000; clear HO_170001; clear BK151; clear BK169; clear HB; have HO_4 := n0_; have HO_7 := n1_; have HO_170000 := n2_; have HO_170001 := n3_; have HO191 := n4_; have HO194 := n5_; have BK151 := n6_; have BK169 := n7_; have HB := n8_; clear n0_ n1_ n2_ n3_ n4_ n5_ n6_ n7_ n8_; (try clear hb); (try clear hb2); (try clear hk); (try clear hi); (try clear ho0); (try clear ho1); obtain ⟨Ao74, co74, eo74⟩ := Kd.R_slice HO191.out; subst eo74; obtain ⟨Ao75, co75, eo75⟩ := Kd.R_slice HO194.out; subst eo75) | ((with_reducible refine gate_callee (f := 35) rfl ?_); refine goesL_ (some 76) rfl rfl Try.func35 (by kernel_rfl) rfl #[.agg #[.slice Ao74 t189.length co74, .slice Ao75 t192.length co75]] rfl (by (try simp only [List.map_toArray, List.map_cons, List.map_nil]); first | done | rfl | (simp only [List.length_drop, List.length_take]; rfl)) ?_; (with_reducible refine (impl_MatrixLinks.calls _ _ t189 _ _ t192 t195 t198 _ ?side1 ?side2 ?side3 ?side4 A67.out).mono ?_); (case side1 => exact cz_ (Kd.R_reads' HO191.out).2.2); (case side2 => exact (Kd.R_reads' HO191.out).2.1); (case side3 => exact cz_ (Kd.R_reads' HO194.out).2.2); (case side4 => exact (Kd.R_reads' HO194.out).2.1); rintro e w76 ⟨v196, rfl, ho0, hb⟩; refine ⟨_, rfl, ?_⟩; have n0_ := Aside0.mk (Kd.R_elder' (rz_ HO_4.out) (Kd.R_base ho0) hb); have n1_ := Aside0.mk (Kd.R_elder' (rz_ HO_7.out) (Kd.R_base ho0) hb); have n2_ := Aside0.mk (Kd.R_below (rz_ HO_170000.out) hb); have n3_ := Aside0.mk (Kd.R_elder' (rz_ HO_170001.out) (Kd.R_base ho0) hb); have n4_ := Aside0.mk (Kd.R_below (rz_ HO191.out) hb); have n5_ := Aside0.mk (Kd.R_elder' (rz_ HO194.out) (Kd.R_base ho0) hb); have n6_ := Aside0.mk (Kd.R_lower (Kd.R_new' (Kd.R_new' (Kd.R_new' (Kd.R_new' ho0 (Kd.R_lt (rz_ HO_4.out))) (Kd.R_lt (rz_ HO_7.out))) (Kd.R_lt (rz_ HO_170001.out))) (Kd.R_lt (rz_ HO194.out))) (below_size (by repeat (first | (with_reducible first | exact HB.out | apply below_alloc | apply pw_below_drewN | apply below_drew1 | refine below_set ?_ GE151.out | refine below_set ?_ GE169.out) | exact HB.out)))); have n7_ := Aside0.mk (blk_below (bz_ BK151.out) hb); have n8_ := Aside0.mk (blk_below (bz_ BK169.out) hb); have n9_ := Aside0.mk (below_step (by repeat (first | (with_reducible first | exact HB.out | apply below_alloc | apply pw_below_drewN | apply below_drew1 | refine below_set ?_ GE151.out | refine below_set ?_ GE169.out) | exact HB.out)) hb); clear HO_4; clear HO_7; clear HO_170000; clear HO_170001; clear HO191; clear HO194; clear BK151; clear BK169; clear HB; have HO_4 := n0_; have HO_7 := n1_; have HO_170000 := n2_; have HO_170001 := n3_; have HO191 := n4_; have HO194 := n5_; have HO197 := n6_; have BK151 := n7_; have BK169 := n8_; have HB := n9_; clear n0_ n1_ n2_ n3_ n4_ n5_ n6_ n7_ n8_ n9_; (try clear hb); (try clear hb2); (try clear hk); (try clear hi); (try clear ho0)))
           (try simp only [Act.put, List.setIfInBounds_toArray, List.set_cons_zero, List.set_cons_succ])
           go_cut [87] (fun v87 wc => ∃ (kq : Nat) (x87_67 : Bool), v87 = .bool x87_67 ∧ Aside0 (laws_FnExactMatrixLinks.j2 kq t187 t186 x87_67 = some r) ∧ Aside0 (kq ≤ kj40) ∧ Aside0 (Kd.R k95 95 wc w.heap.size (fun k_ => some k_ ≠ ((.slice Ao26 t184.length co26) : Value).ownBlock) (.slice Ao69 t170.length co69) t187) ∧ Aside0 (Kd.R k86 86 wc w.heap.size (fun _ => True) (.slice Ao23 t183.length co23) t183) ∧ Aside0 (Kd.R k95 95 wc w.heap.size (fun k_ => some k_ ≠ ((.slice Ao69 t170.length co69) : Value).ownBlock) (.slice Ao26 t184.length co26) t184) ∧ Aside0 (wc.heap[gb151]? = some (.cells #[(.slice A0_0 l0_0.length c0_0), (.slice A0_1 l0_1.length c0_1)] 25 (0, 0))) ∧ Aside0 (wc.heap[gb169]? = some (.cells #[(.slice Ao23 t183.length co23), (.slice Ao26 t184.length co26)] 33 (0, 0))) ∧ Aside0 (Below w.heap.size w wc))
           case first =>
            have H := HC68.out
            clear HC68
            replace H := Option.bind_eq_some_iff.mp H
            obtain ⟨t199, A770, H⟩ := H
            replace H : (if t199 = true then (laws_FnExactMatrixLinks.j2 kj40 t187 t186 (t198 != t162)) else (laws_FnExactMatrixLinks.j2 kj40 t187 t186 true)) = some r := H
            have A77 := Aside0.mk A770
            clear A770
            by_cases c78 : t199 = true
            ·subst c78
             have H1 : (laws_FnExactMatrixLinks.j2 kj40 t187 t186 (t198 != t162)) = some r := by rw [if_pos rfl] at H; exact H
             clear H
             have H := H1
             clear H1
             have H' := Aside0.mk H
             clear H
             obtain ⟨Ao79, co79, eo79⟩ := Kd.R_slice HO197.out
             subst eo79
             obtain ⟨Ao80, co80, eo80⟩ := Kd.R_slice HO_4.out
             subst eo80
             go_wp2_with (first | ((with_reducible refine gate_callee (f := 36) rfl ?_); refine goesL_ (some 81) rfl rfl Try.func36 (by kernel_rfl) rfl #[.slice Ao79 t195.length co79, .slice Ao80 t159.length co80] rfl (by (try simp only [List.map_toArray, List.map_cons, List.map_nil]); first | done | rfl | (simp only [List.length_drop, List.length_take]; rfl)) ?_; (with_reducible refine (laws_eqRelationS.calls kj40 _ _ t195 _ _ t159 true _ ?side1 ?side2 ?side3 ?side4 A77.out).mono ?_); (case side1 => exact cz_ (Kd.R_reads' HO197.out).2.2); (case side2 => exact (Kd.R_reads' HO197.out).2.1); (case side3 => exact cz_ (Kd.R_reads' HO_4.out).2.2); (case side4 => exact (Kd.R_reads' HO_4.out).2.1); rintro e w81 ⟨rfl, hb⟩; refine ⟨_, rfl, ?_⟩; have n0_ := Aside0.mk (Kd.R_below (rz_ HO_4.out) hb); have n1_ := Aside0.mk (Kd.R_below (rz_ HO_7.out) hb); have n2_ := Aside0.mk (Kd.R_below (rz_ HO_170000.out) hb); have n3_ := Aside0.mk (Kd.R_below (rz_ HO_170001.out) hb); have n4_ := Aside0.mk (Kd.R_below (rz_ HO191.out) hb); have n5_ := Aside0.mk (Kd.R_below (rz_ HO194.out) hb); have n6_ := Aside0.mk (Kd.R_below (rz_ HO197.out) hb); have n7_ := Aside0.mk (blk_below (bz_ BK151.out) hb); have n8_ := Aside0.mk (blk_below (bz_ BK169.out) hb); have n9_ := Aside0.mk (below_step (by repeat (first | (with_reducible first | exact HB.out | apply below_alloc | apply pw_below_drewN | apply below_drew1 | refine below_set ?_ GE151.out | refine below_set ?_ GE169.out) | exact HB.out)) hb); clear HO_4; clear HO_7; clear HO_170000; clear HO_170001; clear HO191; clear HO194; clear HO197; clear BK151; clear BK169; clear HB; have HO_4 := n0_; have HO_7 := n1_; have HO_170000 := n2_; have HO_170001 := n3_; have HO191 := n4_; have HO194 := n5_; have HO197 := n6_; have BK151 := n7_; have BK169 := n8_; have HB := n9_; clear n0_ n1_ n2_ n3_ n4_ n5_ n6_ n7_ n8_ n9_; (try clear hb); (try clear hb2); (try clear hk); (try clear hi)))
             go_meet
             case rel => exact ⟨_, ((t198 != t162)), (by first | rfl | (simp; done) | (simp [*]; done)), H', ⟨by have := HJ10.out; have := HJ40.out; first | omega | exact Nat.le_refl _⟩, ⟨by (try simp only [hl170000_40]); (try simp only [hl170001_40]); (with_reducible repeat (first | apply Kd.R_alloc | apply Kd.R_drewN | apply Kd.R_drew)); exact Kd.R_mono HO_7.out (fun _ hk => hk.1.1.2)⟩, ⟨by (try simp only [hl170000_40]); (try simp only [hl170001_40]); (with_reducible repeat (first | apply Kd.R_alloc | apply Kd.R_drewN | apply Kd.R_drew)); exact Kd.R_mono HO_170000.out (fun _ hk => trivial)⟩, ⟨by (try simp only [hl170000_40]); (try simp only [hl170001_40]); (with_reducible repeat (first | apply Kd.R_alloc | apply Kd.R_drewN | apply Kd.R_drew)); exact Kd.R_mono HO_170001.out (fun _ hk => hk.1.1.2)⟩, ⟨by (try simp only [hl170000_40]); (try simp only [hl170001_40]); (with_reducible repeat (first | refine blk_drewN ?_ _ | refine blk_drew ?_ | refine blk_alloc ?_ _)); exact BK151.out⟩, ⟨by (try simp only [hl170000_40]); (try simp only [hl170001_40]); (with_reducible repeat (first | refine blk_drewN ?_ _ | refine blk_drew ?_ | refine blk_alloc ?_ _)); exact BK169.out⟩, ⟨by repeat (first | (with_reducible first | exact HB.out | apply below_alloc | apply pw_below_drewN | apply below_drew1 | refine below_set ?_ GE151.out | refine below_set ?_ GE169.out) | exact HB.out)⟩⟩
            ·replace c78 := Bool.eq_false_iff.mpr c78
             subst c78
             have H1 : (laws_FnExactMatrixLinks.j2 kj40 t187 t186 true) = some r := by rw [if_neg (show ¬ (false = true) by decide)] at H; exact H
             clear H
             have H := H1
             clear H1
             have H' := Aside0.mk H
             clear H
             obtain ⟨Ao82, co82, eo82⟩ := Kd.R_slice HO197.out
             subst eo82
             obtain ⟨Ao83, co83, eo83⟩ := Kd.R_slice HO_4.out
             subst eo83
             go_wp2_with (first | ((with_reducible refine gate_callee (f := 36) rfl ?_); refine goesL_ (some 81) rfl rfl Try.func36 (by kernel_rfl) rfl #[.slice Ao82 t195.length co82, .slice Ao83 t159.length co83] rfl (by (try simp only [List.map_toArray, List.map_cons, List.map_nil]); first | done | rfl | (simp only [List.length_drop, List.length_take]; rfl)) ?_; (with_reducible refine (laws_eqRelationS.calls kj40 _ _ t195 _ _ t159 false _ ?side1 ?side2 ?side3 ?side4 A77.out).mono ?_); (case side1 => exact cz_ (Kd.R_reads' HO197.out).2.2); (case side2 => exact (Kd.R_reads' HO197.out).2.1); (case side3 => exact cz_ (Kd.R_reads' HO_4.out).2.2); (case side4 => exact (Kd.R_reads' HO_4.out).2.1); rintro e w84 ⟨rfl, hb⟩; refine ⟨_, rfl, ?_⟩; have n0_ := Aside0.mk (Kd.R_below (rz_ HO_4.out) hb); have n1_ := Aside0.mk (Kd.R_below (rz_ HO_7.out) hb); have n2_ := Aside0.mk (Kd.R_below (rz_ HO_170000.out) hb); have n3_ := Aside0.mk (Kd.R_below (rz_ HO_170001.out) hb); have n4_ := Aside0.mk (Kd.R_below (rz_ HO191.out) hb); have n5_ := Aside0.mk (Kd.R_below (rz_ HO194.out) hb); have n6_ := Aside0.mk (Kd.R_below (rz_ HO197.out) hb); have n7_ := Aside0.mk (blk_below (bz_ BK151.out) hb); have n8_ := Aside0.mk (blk_below (bz_ BK169.out) hb); have n9_ := Aside0.mk (below_step (by repeat (first | (with_reducible first | exact HB.out | apply below_alloc | apply pw_below_drewN | apply below_drew1 | refine below_set ?_ GE151.out | refine below_set ?_ GE169.out) | exact HB.out)) hb); clear HO_4; clear HO_7; clear HO_170000; clear HO_170001; clear HO191; clear HO194; clear HO197; clear BK151; clear BK169; clear HB; have HO_4 := n0_; have HO_7 := n1_; have HO_170000 := n2_; have HO_170001 := n3_; have HO191 := n4_; have HO194 := n5_; have HO197 := n6_; have BK151 := n7_; have BK169 := n8_; have HB := n9_; clear n0_ n1_ n2_ n3_ n4_ n5_ n6_ n7_ n8_ n9_; (try clear hb); (try clear hb2); (try clear hk); (try clear hi)))
             go_meet
             case rel => exact ⟨_, (true), (by first | rfl | (simp; done) | (simp [*]; done)), H', ⟨by have := HJ10.out; have := HJ40.out; first | omega | exact Nat.le_refl _⟩, ⟨by (try simp only [hl170000_40]); (try simp only [hl170001_40]); (with_reducible repeat (first | apply Kd.R_alloc | apply Kd.R_drewN | apply Kd.R_drew)); exact Kd.R_mono HO_7.out (fun _ hk => hk.1.1.2)⟩, ⟨by (try simp only [hl170000_40]); (try simp only [hl170001_40]); (with_reducible repeat (first | apply Kd.R_alloc | apply Kd.R_drewN | apply Kd.R_drew)); exact Kd.R_mono HO_170000.out (fun _ hk => trivial)⟩, ⟨by (try simp only [hl170000_40]); (try simp only [hl170001_40]); (with_reducible repeat (first | apply Kd.R_alloc | apply Kd.R_drewN | apply Kd.R_drew)); exact Kd.R_mono HO_170001.out (fun _ hk => hk.1.1.2)⟩, ⟨by (try simp only [hl170000_40]); (try simp only [hl170001_40]); (with_reducible repeat (first | refine blk_drewN ?_ _ | refine blk_drew ?_ | refine blk_alloc ?_ _)); exact BK151.out⟩, ⟨by (try simp only [hl170000_40]); (try simp only [hl170001_40]); (with_reducible repeat (first | refine blk_drewN ?_ _ | refine blk_drew ?_ | refine blk_alloc ?_ _)); exact BK169.out⟩, ⟨by repeat (first | (with_reducible first | exact HB.out | apply below_alloc | apply pw_below_drewN | apply below_drew1 | refine below_set ?_ GE151.out | refine below_set ?_ GE169.out) | exact HB.out)⟩⟩
           case rest =>
            clear HC68
            try clear c1
            try clear c2
            try clear p2
            try clear c3
            try clear c3b0
            try clear c4
            try clear c5
            try clear c6
            try clear c7
            try clear c15
            try clear c17
            try clear c20
            try clear c21
            try clear c24
            try clear c29
            try clear c34
            try clear c35
            try clear c36
            try clear c37
            try clear c38
            try clear c39
            try clear c47
            try clear c50
            try clear c50b0
            try clear c52
            try clear c59
            try clear c62
            try clear c62b0
            try clear c65
            try clear c65b0
            try clear c65b1
            try clear c71
            try clear c78
            try clear hcz13_0
            try clear hcz13_1
            try clear hcz15_0
            try clear hcz15_1
            try clear hcz20_0
            try clear hcz20_1
            try clear hcz25_0
            try clear hcz25_1
            try clear hcz48_0
            try clear hcz48_1
            try clear hcz5_0
            try clear hcz5_1
            try clear hcz72_0
            try clear hcz72_1
            try clear hfz13_0
            try clear hfz13_1
            try clear hfz15_0
            try clear hfz15_1
            try clear hfz20_0
            try clear hfz20_1
            try clear hfz25_0
            try clear hfz25_1
            try clear hfz48_0
            try clear hfz48_1
            try clear hfz5_0
            try clear hfz5_1
            try clear hfz72_0
            try clear hfz72_1
            try clear p2
            obtain ⟨kq, x87_67, rfl, HA, HJ67, HO_7, HO_170000, HO_170001, BK151, BK169, HB⟩ := hcut
            have hl7_67 := (Kd.R_reads' HO_7.out).1
            rw [hl7_67] at HO_7
            (try simp only [hl7_67])
            (try simp only [hl7_67] at BK151)
            (try simp only [hl7_67] at BK169)
            (try simp only [hl7_67] at HO_170000)
            (try simp only [hl7_67] at HO_170001)
            cases kq with
            | zero => exact absurd HA.out (by simp [laws_FnExactMatrixLinks.j2])
            | succ kj67 =>
             have H := HA.out
             clear HA
             simp only [laws_FnExactMatrixLinks.j2] at H
             by_cases c85 : x87_67 = true
             ·subst c85
              have H1 : (some false) = some r := by rw [if_pos rfl] at H; exact H
              clear H
              have H := H1
              clear H1
              obtain rfl := Option.some.inj H
              go_wp2
              go_ret
              exact ⟨by first | rfl | (simp [errW_none, errW_some] <;> rfl) | (simp [*, errW_none, errW_some] <;> rfl), by repeat (first | (with_reducible first | exact HB.out | apply below_alloc | apply pw_below_drewN | apply below_drew1 | refine below_set ?_ GE151.out | refine below_set ?_ GE169.out) | exact HB.out)⟩
             ·replace c85 := Bool.eq_false_iff.mpr c85
              subst c85
              have H1 : ((laws_heldRelationS.f kj67 t187 1).bind fun t200 => (if t200 < 0 then (some false) else (if t200 = t186 then (some true) else (some false)))) = some r := by rw [if_neg (show ¬ (false = true) by decide)] at H; exact H
              clear H
              have H := H1
              clear H1
              replace H := Option.bind_eq_some_iff.mp H
              obtain ⟨t200, A860, H⟩ := H
              replace H : (if t200 < 0 then (some false) else (if t200 = t186 then (some true) else (some false))) = some r := H
              have A86 := Aside0.mk A860
              clear A860
              by_cases c87 : t200 < 0
              ·rw [if_pos c87] at H
               have c87b0 : decide (t200 < 0) = true := decide_eq_true c87
               clear c87
               obtain rfl := Option.some.inj H
               go_wp2_with (first | ((with_reducible refine gate_callee (f := 38) rfl ?_); refine goesL_ (some 90) rfl rfl Try.func38 (by kernel_rfl) rfl #[.slice Ao69 t187.length co69, .int .i64 1] rfl (by (try simp only [List.map_toArray, List.map_cons, List.map_nil]); first | done | rfl | (simp only [List.length_drop, List.length_take]; rfl)) ?_; (with_reducible refine (laws_heldRelationS.calls kj67 _ _ t187 1 t200 _ ?side1 ?side2 A86.out).mono ?_); (case side1 => exact cz_ (Kd.R_reads' HO_7.out).2.2); (case side2 => exact (Kd.R_reads' HO_7.out).2.1); rintro e w' ⟨rfl, ⟨nd, rfl⟩⟩; refine ⟨_, rfl, ?_⟩))
               go_ret
               exact ⟨by first | rfl | (simp [errW_none, errW_some] <;> rfl) | (simp [*, errW_none, errW_some] <;> rfl), by repeat (first | (with_reducible first | exact HB.out | apply below_alloc | apply pw_below_drewN | apply below_drew1 | refine below_set ?_ GE151.out | refine below_set ?_ GE169.out) | exact HB.out)⟩
              ·rw [if_neg c87] at H
               have c87b0 : decide (t200 < 0) = false := decide_eq_false c87
               clear c87
               by_cases c88 : t200 = t186
               ·rw [if_pos c88] at H
                have c88b0 : (t200 == t186) = true := beq_iff_eq.mpr c88
                have c88b1 : (t200 != t186) = false := bne_eq_false_iff_eq.mpr c88
                clear c88
                obtain rfl := Option.some.inj H
                go_wp2_with (first | ((with_reducible refine gate_callee (f := 38) rfl ?_); refine goesL_ (some 90) rfl rfl Try.func38 (by kernel_rfl) rfl #[.slice Ao69 t187.length co69, .int .i64 1] rfl (by (try simp only [List.map_toArray, List.map_cons, List.map_nil]); first | done | rfl | (simp only [List.length_drop, List.length_take]; rfl)) ?_; (with_reducible refine (laws_heldRelationS.calls kj67 _ _ t187 1 t200 _ ?side1 ?side2 A86.out).mono ?_); (case side1 => exact cz_ (Kd.R_reads' HO_7.out).2.2); (case side2 => exact (Kd.R_reads' HO_7.out).2.1); rintro e w' ⟨rfl, ⟨nd, rfl⟩⟩; refine ⟨_, rfl, ?_⟩))
                go_ret
                exact ⟨by first | rfl | (simp [errW_none, errW_some] <;> rfl) | (simp [*, errW_none, errW_some] <;> rfl), by repeat (first | (with_reducible first | exact HB.out | apply below_alloc | apply pw_below_drewN | apply below_drew1 | refine below_set ?_ GE151.out | refine below_set ?_ GE169.out) | exact HB.out)⟩
               ·rw [if_neg c88] at H
                have c88b0 : (t200 == t186) = false := beq_eq_false_iff_ne.mpr c88
                have c88b1 : (t200 != t186) = true := bne_iff_ne.mpr c88
                obtain rfl := Option.some.inj H
                go_wp2_with (first | ((with_reducible refine gate_callee (f := 38) rfl ?_); refine goesL_ (some 90) rfl rfl Try.func38 (by kernel_rfl) rfl #[.slice Ao69 t187.length co69, .int .i64 1] rfl (by (try simp only [List.map_toArray, List.map_cons, List.map_nil]); first | done | rfl | (simp only [List.length_drop, List.length_take]; rfl)) ?_; (with_reducible refine (laws_heldRelationS.calls kj67 _ _ t187 1 t200 _ ?side1 ?side2 A86.out).mono ?_); (case side1 => exact cz_ (Kd.R_reads' HO_7.out).2.2); (case side2 => exact (Kd.R_reads' HO_7.out).2.1); rintro e w' ⟨rfl, ⟨nd, rfl⟩⟩; refine ⟨_, rfl, ?_⟩))
                go_ret
                exact ⟨by first | rfl | (simp [errW_none, errW_some] <;> rfl) | (simp [*, errW_none, errW_some] <;> rfl), by repeat (first | (with_reducible first | exact HB.out | apply below_alloc | apply pw_below_drewN | apply below_drew1 | refine below_set ?_ GE151.out | refine below_set ?_ GE169.out) | exact HB.out)⟩
          ·rw [if_neg c65] at H
           have c65b0 : (t188 == t186) = false := beq_eq_false_iff_ne.mpr c65
           have c65b1 : (t188 != t186) = true := bne_iff_ne.mpr c65
           obtain rfl := Option.some.inj H
           obtain ⟨Ao89, co89, eo89⟩ := Kd.R_slice HO_7.out
           subst eo89
           go_wp2_with (first | ((with_reducible refine gate_callee (f := 37) rfl ?_); refine goesL_ (some 64) rfl rfl Try.func37 (by kernel_rfl) rfl #[.slice Ao89 t170.length co89, .int .i64 1] rfl (by (try simp only [List.map_toArray, List.map_cons, List.map_nil]); first | done | rfl | (simp only [List.length_drop, List.length_take]; rfl)) ?_; (with_reducible refine (laws_markRelationS.calls kj40 (fun k_ => some k_ = (.slice Ao89 t170.length co89 : Value).ownBlock) (.slice Ao89 t170.length co89) t170 1 t186 t187 w _ ?side1 ?side2 A60.out).mono ?_); (case side1 => repeat (first | (with_reducible first | exact HB.out | apply below_alloc | apply pw_below_drewN | apply below_drew1 | refine below_set ?_ GE151.out | refine below_set ?_ GE169.out) | exact HB.out)); (case side2 => exact Kd.R_tight rfl HO_7.out); rintro e w90 ⟨rfl, hy0, hb, hkp⟩; refine ⟨_, rfl, ?_⟩; have n0_ := Aside0.mk (Kd.R_mono (ok' := fun k_ => some k_ ≠ (.slice Ao89 t170.length co89 : Value).ownBlock ∧ some k_ ≠ (.slice Ao26 t184.length co26 : Value).ownBlock) (Kd.R_keptB (HO_4.out) hkp (fun k_ hk_ hs_ => (hk_.1) hs_)) (fun k_ hk_ => ⟨hk_.1.1, hk_.1.2⟩)); have n1_ := Aside0.mk (Kd.R_reok rfl hy0 (fun k_ e_ => HO_7.out.1 k_ e_)); have n2_ := Aside0.mk (Kd.R_mono (ok' := fun k_ => True) (Kd.R_keptB ((Kd.R_apart' HO_170000.out (Kd.R_typed HO_7.out) (by decide))) hkp (fun k_ hk_ hs_ => (hk_.2) hs_)) (fun k_ hk_ => trivial)); have n3_ := Aside0.mk (Kd.R_mono (ok' := fun k_ => some k_ ≠ (v160 : Value).ownBlock ∧ some k_ ≠ (.slice Ao89 t170.length co89 : Value).ownBlock) (Kd.R_keptB (HO_170001.out) hkp (fun k_ hk_ hs_ => (hk_.2) hs_)) (fun k_ hk_ => ⟨hk_.1.1, hk_.1.2⟩)); have n4_ := Aside0.mk (blk_kept (bz_ BK151.out) hkp (fun hs_ => (fun e_ => (Kd.R_ne HO_7.out BK151.out (by decide)) e_) hs_)); have n5_ := Aside0.mk (blk_kept (bz_ BK169.out) hkp (fun hs_ => (fun e_ => (Kd.R_ne HO_7.out BK169.out (by decide)) e_) hs_)); have n6_ := Aside0.mk (hb); clear HO_4; clear HO_7; clear HO_170000; clear HO_170001; clear BK151; clear BK169; clear HB; have HO_4 := n0_; have HO_7 := n1_; have HO_170000 := n2_; have HO_170001 := n3_; have BK151 := n4_; have BK169 := n5_; have HB := n6_; clear n0_ n1_ n2_ n3_ n4_ n5_ n6_; (try clear hb); (try clear hkp); (try clear hy0)) | ((with_reducible refine gate_callee (f := 38) rfl ?_); refine goesL_ (some 67) rfl rfl Try.func38 (by kernel_rfl) rfl #[.slice Ao89 t187.length co89, .int .i64 1] rfl (by (try simp only [List.map_toArray, List.map_cons, List.map_nil]); first | done | (rw [show t187.length = t170.length from (Kd.R_reads' HO_7.out).1.symm] <;> rfl) | rfl | (simp only [List.length_drop, List.length_take]; rfl)) ?_; (with_reducible refine (laws_heldRelationS.calls kj40 _ _ t187 1 t188 _ ?side1 ?side2 A61.out).mono ?_); (case side1 => exact cz_ (Kd.R_reads' HO_7.out).2.2); (case side2 => rw [show t187.length = t170.length from (Kd.R_reads' HO_7.out).1.symm]; exact (Kd.R_reads' HO_7.out).2.1); rintro e w' ⟨rfl, ⟨nd, rfl⟩⟩; refine ⟨_, rfl, ?_⟩))
           go_ret
           exact ⟨by first | rfl | (simp [errW_none, errW_some] <;> rfl) | (simp [*, errW_none, errW_some] <;> rfl), by repeat (first | (with_reducible first | exact HB.out | apply below_alloc | apply pw_below_drewN | apply below_drew1 | refine below_set ?_ GE151.out | refine below_set ?_ GE169.out) | exact HB.out)⟩
     ·replace c39 := Bool.eq_false_iff.mpr c39
      subst c39
      have H1 : (some false) = some r := by rw [if_neg (show ¬ (false = true) by decide)] at H; exact H
      clear H
      have H := H1
      clear H1
      obtain rfl := Option.some.inj H
      try go_wp2
      have n0_ := Aside0.mk (Kd.R_drew HO_4.out)
      have n1_ := Aside0.mk (Kd.R_drew HO_7.out)
      have n2_ := Aside0.mk (Kd.R_drew HO_170000.out)
      have n3_ := Aside0.mk (Kd.R_drew HO_170001.out)
      have n4_ := Aside0.mk (blk_drew BK151.out)
      have n5_ := Aside0.mk (blk_drew BK169.out)
      have n6_ := Aside0.mk (below_drew1 HB.out)
      clear HO_4
      clear HO_7
      clear HO_170000
      clear HO_170001
      clear BK151
      clear BK169
      clear HB
      have HO_4 := n0_
      have HO_7 := n1_
      have HO_170000 := n2_
      have HO_170001 := n3_
      have BK151 := n4_
      have BK169 := n5_
      have HB := n6_
      clear n0_ n1_ n2_ n3_ n4_ n5_ n6_
      refine start_ (n := 5) (S := fun w' => w'.cell? ⟨gb169, 0, none⟩ = some (.slice Ao23 t163.length co23) ∧ w'.cell? ⟨gb169, 1, none⟩ = some (.slice Ao26 t166.length co26) ∧ w'.cell? ⟨gb151, 0, none⟩ = some (.slice A0_0 l0_0.length c0_0) ∧ w'.cell? ⟨gb151, 1, none⟩ = some (.slice A0_1 l0_1.length c0_1)) (ds := []) #[false, false, false, false, false] (by kernel_rfl) rfl rfl ⟨(blk_cell BK169.out 0).trans rfl, (blk_cell BK169.out 1).trans rfl, (blk_cell BK151.out 0).trans rfl, (blk_cell BK151.out 1).trans rfl⟩ (fun hHeld => ?_)
      generalize wc.drew = w91 at HO_4 HO_7 HO_170000 HO_170001 BK151 BK169 HB hHeld ⊢
      refine take_ (i := 0) (N := some 41) (v := ?_) (a' := ?_) #[true, false, false, false, false] rfl rfl (by kernel_rfl) (fun _ _ _ h => h) (Or.inl ⟨by rfl, ?_⟩) hHeld ?_ ?_
      rotate_left
      ·rintro w' ⟨s0, s1, s2, s3⟩
       go_simp
       with_reducible rfl
      rotate_left
      ·simp only [Act.put, List.setIfInBounds_toArray, List.set_cons_zero, List.set_cons_succ, i64_w, i32_w]
       rfl
      refine take_ (i := 1) (N := some 42) (v := ?_) (a' := ?_) #[true, true, false, false, false] rfl rfl (by kernel_rfl) (fun _ _ _ h => h) (Or.inl ⟨by rfl, ?_⟩) hHeld ?_ ?_
      rotate_left
      ·rintro w' ⟨s0, s1, s2, s3⟩
       go_simp
       with_reducible rfl
      rotate_left
      ·simp only [Act.put, List.setIfInBounds_toArray, List.set_cons_zero, List.set_cons_succ, i64_w, i32_w]
       rfl
      refine one_ (i := 2) (N := some 43) (bl 3 5) rfl rfl (by kernel_rfl) (by decide) (fun K hK => ?_)
      refine goes_ Try.func17 (by kernel_rfl) rfl #[.agg #[.slice A0_0 l0_0.length c0_0, .slice A0_1 l0_1.length c0_1]] (by rfl) rfl rfl (by (try simp only [List.map_toArray, List.map_cons, List.map_nil]); first | done | rfl | (simp only [List.length_drop, List.length_take]; rfl)) ?_
      with_reducible refine (laws_toRecord.calls kj10 _ _ l0_0 _ _ l0_1 t175 t178 _ ?side1 ?side2 ?side3 ?side4 A37.out).mono ?_
      (case side1 => exact cz_ (Kd.C_below HR0_0.out HB.out))
      (case side2 => exact HC0_0.out)
      (case side3 => exact cz_ (Kd.C_below HR0_1.out HB.out))
      (case side4 => exact HC0_1.out)
      rintro e w92 ⟨v176, v179, rfl, ho0, ho1, hb⟩
      refine ⟨_, rfl, ?_⟩
      have n0_ := Aside0.mk (Kd.R_elder' (rz_ HO_4.out) (Kd.R_base ho1) hb)
      have n1_ := Aside0.mk (Kd.R_elder' (rz_ HO_7.out) (Kd.R_base ho1) hb)
      have n2_ := Aside0.mk (Kd.R_elder' (rz_ HO_170000.out) (Kd.R_base ho0) hb)
      have n3_ := Aside0.mk (Kd.R_elder' (rz_ HO_170001.out) (Kd.R_base ho1) hb)
      have n4_ := Aside0.mk (Kd.R_lower (Kd.R_new' ho0 (Kd.R_lt (rz_ HO_170000.out))) (below_size (by repeat (first | (with_reducible first | exact HB.out | apply below_alloc | apply pw_below_drewN | apply below_drew1 | refine below_set ?_ GE151.out | refine below_set ?_ GE169.out) | exact HB.out))))
      have n5_ := Aside0.mk (Kd.R_lower (Kd.R_new' (Kd.R_new' (Kd.R_new' ho1 (Kd.R_lt (rz_ HO_4.out))) (Kd.R_lt (rz_ HO_7.out))) (Kd.R_lt (rz_ HO_170001.out))) (below_size (by repeat (first | (with_reducible first | exact HB.out | apply below_alloc | apply pw_below_drewN | apply below_drew1 | refine below_set ?_ GE151.out | refine below_set ?_ GE169.out) | exact HB.out))))
      have n6_ := Aside0.mk (blk_below (bz_ BK151.out) hb)
      have n7_ := Aside0.mk (blk_below (bz_ BK169.out) hb)
      have n8_ := Aside0.mk (below_step (by repeat (first | (with_reducible first | exact HB.out | apply below_alloc | apply pw_below_drewN | apply below_drew1 | refine below_set ?_ GE151.out | refine below_set ?_ GE169.out) | exact HB.out)) hb)
      clear HO_4
      clear HO_7
      clear HO_170000
      clear HO_170001
      clear BK151
      clear BK169
      clear HB
      have HO_4 := n0_
      have HO_7 := n1_
      have HO_170000 := n2_
      have HO_170001 := n3_
      have HO177 := n4_
      have HO180 := n5_
      have BK151 := n6_
      have BK169 := n7_
      have HB := n8_
      clear n0_ n1_ n2_ n3_ n4_ n5_ n6_ n7_ n8_
      (try clear hb)
      (try clear hb2)
      (try clear hk)
      (try clear hi)
      (try clear ho0)
      (try clear ho1)
      obtain ⟨Ao93, co93, eo93⟩ := Kd.R_slice HO177.out
      (first | subst eo93 | (injection eo93 with f1_ f2_ f3_; have f4_ := f1_.symm; have f5_ := f3_.symm; clear f1_ f2_ f3_; subst f4_; subst f5_))
      obtain ⟨Ao94, co94, eo94⟩ := Kd.R_slice HO180.out
      (first | subst eo94 | (injection eo94 with f1_ f2_ f3_; have f4_ := f1_.symm; have f5_ := f3_.symm; clear f1_ f2_ f3_; subst f4_; subst f5_))
      refine hK.out _ _ ⟨(blk_cell BK169.out 0).trans rfl, (blk_cell BK169.out 1).trans rfl, (blk_cell BK151.out 0).trans rfl, (blk_cell BK151.out 1).trans rfl⟩ (fun hHeld => ?_)
      clear hK K
      refine norm_ (a' := ?_) ?_ ?_
      rotate_left
      ·show Act.put _ (some 43) _ = _
       simp only [Act.put, List.setIfInBounds_toArray, List.set_cons_zero, List.set_cons_succ, i64_w, i32_w]
       rfl
      refine one_ (i := 3) (N := some 44) (bl 4 5) rfl rfl (by kernel_rfl) (by decide) (fun K hK => ?_)
      refine goes_ Try.func20 (by kernel_rfl) rfl #[.agg #[.slice Ao23 t163.length co23, .slice Ao26 t166.length co26], .agg #[.slice Ao93 t175.length co93, .slice Ao94 t178.length co94]] (by rfl) rfl rfl (by (try simp only [List.map_toArray, List.map_cons, List.map_nil]); first | done | rfl | (simp only [List.length_drop, List.length_take]; rfl)) ?_
      with_reducible refine (laws_eqRecord.calls kj10 _ _ t163 _ _ t166 _ _ t175 _ _ t178 false _ ?side1 ?side2 ?side3 ?side4 ?side5 ?side6 ?side7 ?side8 A38.out).mono ?_
      (case side1 => exact cz_ (Kd.R_reads' HO_170000.out).2.2)
      (case side2 => exact (Kd.R_reads' HO_170000.out).2.1)
      (case side3 => exact cz_ (Kd.R_reads' HO_170001.out).2.2)
      (case side4 => exact (Kd.R_reads' HO_170001.out).2.1)
      (case side5 => exact cz_ (Kd.R_reads' HO177.out).2.2)
      (case side6 => exact (Kd.R_reads' HO177.out).2.1)
      (case side7 => exact cz_ (Kd.R_reads' HO180.out).2.2)
      (case side8 => exact (Kd.R_reads' HO180.out).2.1)
      rintro e w95 ⟨rfl, hb⟩
      refine ⟨_, rfl, ?_⟩
      have n0_ := Aside0.mk (Kd.R_below (rz_ HO_4.out) hb)
      have n1_ := Aside0.mk (Kd.R_below (rz_ HO_7.out) hb)
      have n2_ := Aside0.mk (Kd.R_below (rz_ HO_170000.out) hb)
      have n3_ := Aside0.mk (Kd.R_below (rz_ HO_170001.out) hb)
      have n4_ := Aside0.mk (Kd.R_below (rz_ HO177.out) hb)
      have n5_ := Aside0.mk (Kd.R_below (rz_ HO180.out) hb)
      have n6_ := Aside0.mk (blk_below (bz_ BK151.out) hb)
      have n7_ := Aside0.mk (blk_below (bz_ BK169.out) hb)
      have n8_ := Aside0.mk (below_step (by repeat (first | (with_reducible first | exact HB.out | apply below_alloc | apply pw_below_drewN | apply below_drew1 | refine below_set ?_ GE151.out | refine below_set ?_ GE169.out) | exact HB.out)) hb)
      clear HO_4
      clear HO_7
      clear HO_170000
      clear HO_170001
      clear HO177
      clear HO180
      clear BK151
      clear BK169
      clear HB
      have HO_4 := n0_
      have HO_7 := n1_
      have HO_170000 := n2_
      have HO_170001 := n3_
      have HO177 := n4_
      have HO180 := n5_
      have BK151 := n6_
      have BK169 := n7_
      have HB := n8_
      clear n0_ n1_ n2_ n3_ n4_ n5_ n6_ n7_ n8_
      (try clear hb)
      (try clear hb2)
      (try clear hk)
      (try clear hi)
      refine hK.out _ _ ⟨(blk_cell BK169.out 0).trans rfl, (blk_cell BK169.out 1).trans rfl, (blk_cell BK151.out 0).trans rfl, (blk_cell BK151.out 1).trans rfl⟩ (fun hHeld => ?_)
      clear hK K
      refine norm_ (a' := ?_) ?_ ?_
      rotate_left
      ·show Act.put _ (some 44) _ = _
       simp only [Act.put, List.setIfInBounds_toArray, List.set_cons_zero, List.set_cons_succ, i64_w, i32_w]
       rfl
      refine pure_ (i := 4) (N := some 45) (v := ?_) (a' := ?_) #[true, true, true, true, true] rfl rfl (by kernel_rfl) (fun _ _ _ h => h) (Or.inl ⟨by rfl, ?_⟩) ?_ ?_
      rotate_left
      ·intro w'
       go_simp
       with_reducible rfl
      rotate_left
      ·simp only [Act.put, List.setIfInBounds_toArray, List.set_cons_zero, List.set_cons_succ, i64_w, i32_w]
       rfl
      refine done_ (by kernel_rfl) ?_
      try go_wp2
      go_ret
      exact ⟨by first | rfl | (simp [errW_none, errW_some] <;> rfl) | (simp [*, errW_none, errW_some] <;> rfl), by repeat (first | (with_reducible first | exact HB.out | apply below_alloc | apply pw_below_drewN | apply below_drew1 | refine below_set ?_ GE151.out | refine below_set ?_ GE169.out) | exact HB.out)⟩

end Go.Proofs.Ytdiejmhphhdcfaa.Q

-- Written by a program of this session (wip/xprint.py over the kit's printer).
import Derived.Test.YtdiejmhphhdcfaaQ0
import Derived.Test.YtdiejmhphhdcfaaQB0
import Derived.Test.YtdiejmhphhdcfaaQB1
import Derived.Test.YtdiejmhphhdcfaaQF29
import Derived.Test.YtdiejmhphhdcfaaQF30
import Derived.Test.YtdiejmhphhdcfaaQM0
import Derived.Test.YtdiejmhphhdcfaaQM1
namespace Go.Proofs.Ytdiejmhphhdcfaa.Q
open Go.RowKit Go.Proofs.YtdiejmhphhdcfaaW.PrintWords Go.Proofs.YtdiejmhphhdcfaaW.PrintLast
set_option linter.unusedVariables false
set_option linter.unusedSimpArgs false

/-! ### laws_FnExactCloseRecord: function 5 -/
mutual
def laws_FnExactCloseRecord.j0 : Nat → Bool → Bool → Bool → List (S127) → List (S129) → List (S86) → List (S95) → List (S86) → List (S95) → List (S86) → List (S95) → Option (Bool)
 | 0, _, _, _, _, _, _, _, _, _, _, _ => none
 | k + 1, x5, x8, x40, x152000, x152001, x167000, x167001, x174000, x174001, x182000, x182001 => if x40 = true then (some false) else ((laws_toRecord.f k x152000 x152001).bind fun bt183 => ((laws_eqRecord.f k x174000 x174001 bt183.1 bt183.2).bind fun t189 => (if t189 = true then ((laws_markRecord.f k x174000 x174001 1).bind fun bt190 => (if bt190.1 < 0 then (laws_FnExactCloseRecord.j1 k x5 true x152000 x152001 x167000 x167001 x182000 x182001) else ((laws_eqRecord.f k x182000 x182001 x167000 x167001).bind fun t193 => (if t193 = true then (laws_FnExactCloseRecord.j1 k x5 (x8 != x5) x152000 x152001 x167000 x167001 x182000 x182001) else (laws_FnExactCloseRecord.j1 k x5 true x152000 x152001 x167000 x167001 x182000 x182001))))) else (some false))))
def laws_FnExactCloseRecord.j1 : Nat → Bool → Bool → List (S127) → List (S129) → List (S86) → List (S95) → List (S86) → List (S95) → Option (Bool)
 | 0, _, _, _, _, _, _, _, _ => none
 | k + 1, x5, x61, x152000, x152001, x167000, x167001, x182000, x182001 => if x61 = true then (some false) else ((laws_markRecord.f k x182000 x182001 1).bind fun bt194 => ((laws_heldRecord.f k bt194.2.1 bt194.2.2 1).bind fun t197 => (if t197 < 0 then (some false) else (if t197 = bt194.1 then ((laws_toRecord.f k x152000 x152001).bind fun bt198 => ((impl_CloseRecord.f bt198.1 bt198.2).bind fun bt204 => ((laws_eqRecord.f k bt204.1 bt204.2.1 x167000 x167001).bind fun t212 => (if t212 = true then (laws_FnExactCloseRecord.j2 k bt194.1 (bt204.2.2 != x5) bt194.2.1 bt194.2.2) else (laws_FnExactCloseRecord.j2 k bt194.1 true bt194.2.1 bt194.2.2))))) else (some false)))))
def laws_FnExactCloseRecord.j2 : Nat → Int → Bool → List (S86) → List (S95) → Option (Bool)
 | 0, _, _, _, _ => none
 | k + 1, x10, x87, x182000, x182001 => if x87 = true then (some false) else ((laws_heldRecord.f k x182000 x182001 1).bind fun t213 => (if t213 < 0 then (some false) else (if t213 = x10 then (some true) else (some false))))
end
def laws_FnExactCloseRecord.f (k : Nat) (l0_0 : List (S127)) (l0_1 : List (S129)) : Option (Bool) := (laws_szRecord.f l0_0 l0_1 1048576).bind fun t152 => (if t152 < 0 then (some true) else ((laws_toRecord.f k l0_0 l0_1).bind fun bt153 => ((spec_CloseRecord.f k bt153.1 bt153.2).bind fun bt159 => ((laws_toRecord.f k l0_0 l0_1).bind fun bt167 => ((impl_CloseRecord.f bt167.1 bt167.2).bind fun bt174 => ((laws_eqRecord.f k bt174.1 bt174.2.1 bt159.1 bt159.2.1).bind fun t182 => (if t182 = true then (laws_FnExactCloseRecord.j0 k bt159.2.2 bt174.2.2 (bt174.2.2 != bt159.2.2) l0_0 l0_1 bt159.1 bt159.2.1 bt167.1 bt167.2 bt174.1 bt174.2.1) else (laws_FnExactCloseRecord.j0 k bt159.2.2 bt174.2.2 true l0_0 l0_1 bt159.1 bt159.2.1 bt167.1 bt167.2 bt174.1 bt174.2.1))))))))
theorem laws_FnExactCloseRecord.mono_l : ∀ k, (∀ y0 y1 y2 y3 y4 y5 y6 y7 y8 y9 y10, LeO (laws_FnExactCloseRecord.j0 k y0 y1 y2 y3 y4 y5 y6 y7 y8 y9 y10) (laws_FnExactCloseRecord.j0 (k + 1) y0 y1 y2 y3 y4 y5 y6 y7 y8 y9 y10)) ∧ (∀ y0 y1 y2 y3 y4 y5 y6 y7, LeO (laws_FnExactCloseRecord.j1 k y0 y1 y2 y3 y4 y5 y6 y7) (laws_FnExactCloseRecord.j1 (k + 1) y0 y1 y2 y3 y4 y5 y6 y7)) ∧ (∀ y0 y1 y2 y3, LeO (laws_FnExactCloseRecord.j2 k y0 y1 y2 y3) (laws_FnExactCloseRecord.j2 (k + 1) y0 y1 y2 y3))
 | 0 => ⟨fun _ _ _ _ _ _ _ _ _ _ _ r h => by simp [laws_FnExactCloseRecord.j0] at h, fun _ _ _ _ _ _ _ _ r h => by simp [laws_FnExactCloseRecord.j1] at h, fun _ _ _ _ r h => by simp [laws_FnExactCloseRecord.j2] at h⟩
 | k + 1 => by
  obtain ⟨ih0, ih1, ih2⟩ := laws_FnExactCloseRecord.mono_l k
  refine ⟨?_, ?_, ?_⟩
  ·intro y0 y1 y2 y3 y4 y5 y6 y7 y8 y9 y10
   unfold laws_FnExactCloseRecord.j0
   repeat' first
   | (with_reducible exact ih0 _ _ _ _ _ _ _ _ _ _ _)
   | (with_reducible exact ih1 _ _ _ _ _ _ _ _)
   | (with_reducible exact ih2 _ _ _ _)
   | (with_reducible exact laws_eqRecord.mono _ _ _ _ _)
   | (with_reducible exact laws_heldRecord.mono _ _ _ _)
   | (with_reducible exact laws_markRecord.mono _ _ _ _)
   | (with_reducible exact laws_toRecord.mono _ _ _)
   | (with_reducible exact spec_CloseRecord.mono _ _ _)
   | (with_reducible exact LeO.refl _)
   | (with_reducible exact LeO.none _)
   | (with_reducible refine LeO.ite ?_ ?_)
   | (with_reducible refine LeO.bind ?_ (fun _ => ?_))
   | exact ih0 _ _ _ _ _ _ _ _ _ _ _
   | exact ih1 _ _ _ _ _ _ _ _
   | exact ih2 _ _ _ _
   | exact laws_eqRecord.mono _ _ _ _ _
   | exact laws_heldRecord.mono _ _ _ _
   | exact laws_markRecord.mono _ _ _ _
   | exact laws_toRecord.mono _ _ _
   | exact spec_CloseRecord.mono _ _ _
   | exact LeO.none _
   | refine LeO.ite ?_ ?_
   | refine LeO.bind ?_ (fun _ => ?_)
  ·intro y0 y1 y2 y3 y4 y5 y6 y7
   unfold laws_FnExactCloseRecord.j1
   repeat' first
   | (with_reducible exact ih0 _ _ _ _ _ _ _ _ _ _ _)
   | (with_reducible exact ih1 _ _ _ _ _ _ _ _)
   | (with_reducible exact ih2 _ _ _ _)
   | (with_reducible exact laws_eqRecord.mono _ _ _ _ _)
   | (with_reducible exact laws_heldRecord.mono _ _ _ _)
   | (with_reducible exact laws_markRecord.mono _ _ _ _)
   | (with_reducible exact laws_toRecord.mono _ _ _)
   | (with_reducible exact spec_CloseRecord.mono _ _ _)
   | (with_reducible exact LeO.refl _)
   | (with_reducible exact LeO.none _)
   | (with_reducible refine LeO.ite ?_ ?_)
   | (with_reducible refine LeO.bind ?_ (fun _ => ?_))
   | exact ih0 _ _ _ _ _ _ _ _ _ _ _
   | exact ih1 _ _ _ _ _ _ _ _
   | exact ih2 _ _ _ _
   | exact laws_eqRecord.mono _ _ _ _ _
   | exact laws_heldRecord.mono _ _ _ _
   | exact laws_markRecord.mono _ _ _ _
   | exact laws_toRecord.mono _ _ _
   | exact spec_CloseRecord.mono _ _ _
   | exact LeO.none _
   | refine LeO.ite ?_ ?_
   | refine LeO.bind ?_ (fun _ => ?_)
  ·intro y0 y1 y2 y3
   unfold laws_FnExactCloseRecord.j2
   repeat' first
   | (with_reducible exact ih0 _ _ _ _ _ _ _ _ _ _ _)
   | (with_reducible exact ih1 _ _ _ _ _ _ _ _)
   | (with_reducible exact ih2 _ _ _ _)
   | (with_reducible exact laws_eqRecord.mono _ _ _ _ _)
   | (with_reducible exact laws_heldRecord.mono _ _ _ _)
   | (with_reducible exact laws_markRecord.mono _ _ _ _)
   | (with_reducible exact laws_toRecord.mono _ _ _)
   | (with_reducible exact spec_CloseRecord.mono _ _ _)
   | (with_reducible exact LeO.refl _)
   | (with_reducible exact LeO.none _)
   | (with_reducible refine LeO.ite ?_ ?_)
   | (with_reducible refine LeO.bind ?_ (fun _ => ?_))
   | exact ih0 _ _ _ _ _ _ _ _ _ _ _
   | exact ih1 _ _ _ _ _ _ _ _
   | exact ih2 _ _ _ _
   | exact laws_eqRecord.mono _ _ _ _ _
   | exact laws_heldRecord.mono _ _ _ _
   | exact laws_markRecord.mono _ _ _ _
   | exact laws_toRecord.mono _ _ _
   | exact spec_CloseRecord.mono _ _ _
   | exact LeO.none _
   | refine LeO.ite ?_ ?_
   | refine LeO.bind ?_ (fun _ => ?_)
theorem laws_FnExactCloseRecord.mono : ∀ a0 a1 k, LeO (laws_FnExactCloseRecord.f k a0 a1) (laws_FnExactCloseRecord.f (k + 1) a0 a1) := by
 intro a0 a1 k
 obtain ⟨ih0, ih1, ih2⟩ := laws_FnExactCloseRecord.mono_l k
 unfold laws_FnExactCloseRecord.f
 repeat' first
   | (with_reducible exact ih0 _ _ _ _ _ _ _ _ _ _ _)
   | (with_reducible exact ih1 _ _ _ _ _ _ _ _)
   | (with_reducible exact ih2 _ _ _ _)
   | (with_reducible exact laws_eqRecord.mono _ _ _ _ _)
   | (with_reducible exact laws_heldRecord.mono _ _ _ _)
   | (with_reducible exact laws_markRecord.mono _ _ _ _)
   | (with_reducible exact laws_toRecord.mono _ _ _)
   | (with_reducible exact spec_CloseRecord.mono _ _ _)
   | (with_reducible exact LeO.refl _)
   | (with_reducible exact LeO.none _)
   | (with_reducible refine LeO.ite ?_ ?_)
   | (with_reducible refine LeO.bind ?_ (fun _ => ?_))
   | exact ih0 _ _ _ _ _ _ _ _ _ _ _
   | exact ih1 _ _ _ _ _ _ _ _
   | exact ih2 _ _ _ _
   | exact laws_eqRecord.mono _ _ _ _ _
   | exact laws_heldRecord.mono _ _ _ _
   | exact laws_markRecord.mono _ _ _ _
   | exact laws_toRecord.mono _ _ _
   | exact spec_CloseRecord.mono _ _ _
   | exact LeO.none _
   | refine LeO.ite ?_ ?_
   | refine LeO.bind ?_ (fun _ => ?_)
set_option maxHeartbeats 8000000 in
set_option maxRecDepth 100000 in
theorem laws_FnExactCloseRecord.calls (k : Nat) (A0_0 : Option Addr) (c0_0 : Nat) (l0_0 : List (S127)) (A0_1 : Option Addr) (c0_1 : Nat) (l0_1 : List (S129)) (r : Bool) (w : World) (hr0_0 : Kd.C k127 w A0_0 l0_0.length l0_0) (hc0_0 : l0_0.length ≤ c0_0) (hr0_1 : Kd.C k129 w A0_1 l0_1.length l0_1) (hc0_1 : l0_1.length ≤ c0_1) (h : laws_FnExactCloseRecord.f k l0_0 l0_1 = some r) :
  Calls Try.prog 5 #[.agg #[.slice A0_0 l0_0.length c0_0, .slice A0_1 l0_1.length c0_1]] w fun e w' => e = .returned (.bool r) ∧ Below w.heap.size w w' := by
 have hu25 := Try.underlying25
 have hu33 := Try.underlying33
 have HR0_0 := Aside0.mk hr0_0
 have HC0_0 := Aside0.mk hc0_0
 clear hr0_0 hc0_0
 have HR0_1 := Aside0.mk hr0_1
 have HC0_1 := Aside0.mk hc0_1
 clear hr0_1 hc0_1
 have HB := Aside0.mk (Below.refl w.heap.size w)
 have H : ((laws_szRecord.f l0_0 l0_1 1048576).bind fun t152 => (if t152 < 0 then (some true) else ((laws_toRecord.f k l0_0 l0_1).bind fun bt153 => ((spec_CloseRecord.f k bt153.1 bt153.2).bind fun bt159 => ((laws_toRecord.f k l0_0 l0_1).bind fun bt167 => ((impl_CloseRecord.f bt167.1 bt167.2).bind fun bt174 => ((laws_eqRecord.f k bt174.1 bt174.2.1 bt159.1 bt159.2.1).bind fun t182 => (if t182 = true then (laws_FnExactCloseRecord.j0 k bt159.2.2 bt174.2.2 (bt174.2.2 != bt159.2.2) l0_0 l0_1 bt159.1 bt159.2.1 bt167.1 bt167.2 bt174.1 bt174.2.1) else (laws_FnExactCloseRecord.j0 k bt159.2.2 bt174.2.2 true l0_0 l0_1 bt159.1 bt159.2.1 bt167.1 bt167.2 bt174.1 bt174.2.1))))))))) = some r := h
 clear h
 replace H := Option.bind_eq_some_iff.mp H
 obtain ⟨t152, A20, H⟩ := H
 replace H : (if t152 < 0 then (some true) else ((laws_toRecord.f k l0_0 l0_1).bind fun bt153 => ((spec_CloseRecord.f k bt153.1 bt153.2).bind fun bt159 => ((laws_toRecord.f k l0_0 l0_1).bind fun bt167 => ((impl_CloseRecord.f bt167.1 bt167.2).bind fun bt174 => ((laws_eqRecord.f k bt174.1 bt174.2.1 bt159.1 bt159.2.1).bind fun t182 => (if t182 = true then (laws_FnExactCloseRecord.j0 k bt159.2.2 bt174.2.2 (bt174.2.2 != bt159.2.2) l0_0 l0_1 bt159.1 bt159.2.1 bt167.1 bt167.2 bt174.1 bt174.2.1) else (laws_FnExactCloseRecord.j0 k bt159.2.2 bt174.2.2 true l0_0 l0_1 bt159.1 bt159.2.1 bt167.1 bt167.2 bt174.1 bt174.2.1)))))))) = some r := H
 have A2 := Aside0.mk A20
 clear A20
 by_cases c3 : t152 < 0
 ·rw [if_pos c3] at H
  have c3b0 : decide (t152 < 0) = true := decide_eq_true c3
  clear c3
  obtain rfl := Option.some.inj H
  go_enter Try.func5, Try.ntmps5
  go_wp2_with (first | ((with_reducible refine gate_dst (N := 1) rfl ?_); refine box_event ?hg (N := 1) ?hd (cs := #[.slice A0_0 l0_0.length c0_0, .slice A0_1 l0_1.length c0_1]) (t := 25) ?hr ?_; (case hd => rfl); (case hg => rfl); (case hr => first | (go_simp; done) | (go_simp; rfl)); intro gb151 hg w4 hbox hb; have n0_ := Aside0.mk (below_step (wz_ HB.out) hb); have n1_ := Aside0.mk (hbox); have n2_ := Aside0.mk ((by rw [hg]; exact (below_size (wz_ HB.out)) : w.heap.size ≤ gb151)); have n3_ := Aside0.mk ((by rw [hg]; exact (below_size (wz_ HB.out)) : w.heap.size ≤ gb151)); clear HB; have HB := n0_; have BK151 := n1_; have GW151 := n2_; have GE151 := n3_; clear n0_ n1_ n2_ n3_; clear hb hbox hg; have hcz5_0 : w4.cell? ⟨gb151, 0, none⟩ = some (.slice A0_0 l0_0.length c0_0) := (blk_cell BK151.out 0).trans rfl; have hcz5_1 : w4.cell? ⟨gb151, 1, none⟩ = some (.slice A0_1 l0_1.length c0_1) := (blk_cell BK151.out 1).trans rfl; have hfz5_0 := blk_frozen BK151.out 0; have hfz5_1 := blk_frozen BK151.out 1) | ((with_reducible refine gate_callee (f := 15) rfl ?_); refine goesL_ (some 16) rfl rfl Try.func15 (by kernel_rfl) rfl #[.agg #[.slice A0_0 l0_0.length c0_0, .slice A0_1 l0_1.length c0_1], .int .i64 1048576] rfl (by (try simp only [List.map_toArray, List.map_cons, List.map_nil]); first | done | rfl | (simp only [List.length_drop, List.length_take]; rfl)) ?_; (with_reducible refine (laws_szRecord.calls _ _ l0_0 _ _ l0_1 1048576 t152 _ ?side1 ?side2 ?side3 ?side4 A2.out).mono ?_); (case side1 => exact cz_ (Kd.C_below HR0_0.out HB.out)); (case side2 => exact HC0_0.out); (case side3 => exact cz_ (Kd.C_below HR0_1.out HB.out)); (case side4 => exact HC0_1.out); rintro e w6 ⟨rfl, hb⟩; refine ⟨_, rfl, ?_⟩; have n0_ := Aside0.mk (blk_below (bz_ BK151.out) hb); have n1_ := Aside0.mk (below_step (by repeat (first | (with_reducible first | exact HB.out | apply below_alloc | apply pw_below_drewN | apply below_drew1 | refine below_set ?_ GE151.out) | exact HB.out)) hb); clear BK151; clear HB; have BK151 := n0_; have HB := n1_; clear n0_ n1_; (try clear hb); (try clear hb2); (try clear hk); (try clear hi)))
  go_ret
  exact ⟨by first | rfl | (simp [errW_none, errW_some] <;> rfl) | (simp [*, errW_none, errW_some] <;> rfl), by repeat (first | (with_reducible first | exact HB.out | apply below_alloc | apply pw_below_drewN | apply below_drew1 | refine below_set ?_ GE151.out) | exact HB.out)⟩
 ·rw [if_neg c3] at H
  have c3b0 : decide (t152 < 0) = false := decide_eq_false c3
  clear c3
  replace H := Option.bind_eq_some_iff.mp H
  obtain ⟨⟨t153, t156⟩, A70, H⟩ := H
  replace H : ((spec_CloseRecord.f k t153 t156).bind fun bt159 => ((laws_toRecord.f k l0_0 l0_1).bind fun bt167 => ((impl_CloseRecord.f bt167.1 bt167.2).bind fun bt174 => ((laws_eqRecord.f k bt174.1 bt174.2.1 bt159.1 bt159.2.1).bind fun t182 => (if t182 = true then (laws_FnExactCloseRecord.j0 k bt159.2.2 bt174.2.2 (bt174.2.2 != bt159.2.2) l0_0 l0_1 bt159.1 bt159.2.1 bt167.1 bt167.2 bt174.1 bt174.2.1) else (laws_FnExactCloseRecord.j0 k bt159.2.2 bt174.2.2 true l0_0 l0_1 bt159.1 bt159.2.1 bt167.1 bt167.2 bt174.1 bt174.2.1)))))) = some r := H
  have A7 := Aside0.mk A70
  clear A70
  replace H := Option.bind_eq_some_iff.mp H
  obtain ⟨⟨t159, t162, t165⟩, A80, H⟩ := H
  replace H : ((laws_toRecord.f k l0_0 l0_1).bind fun bt167 => ((impl_CloseRecord.f bt167.1 bt167.2).bind fun bt174 => ((laws_eqRecord.f k bt174.1 bt174.2.1 t159 t162).bind fun t182 => (if t182 = true then (laws_FnExactCloseRecord.j0 k t165 bt174.2.2 (bt174.2.2 != t165) l0_0 l0_1 t159 t162 bt167.1 bt167.2 bt174.1 bt174.2.1) else (laws_FnExactCloseRecord.j0 k t165 bt174.2.2 true l0_0 l0_1 t159 t162 bt167.1 bt167.2 bt174.1 bt174.2.1))))) = some r := H
  have A8 := Aside0.mk A80
  clear A80
  replace H := Option.bind_eq_some_iff.mp H
  obtain ⟨⟨t167, t170⟩, A90, H⟩ := H
  replace H : ((impl_CloseRecord.f t167 t170).bind fun bt174 => ((laws_eqRecord.f k bt174.1 bt174.2.1 t159 t162).bind fun t182 => (if t182 = true then (laws_FnExactCloseRecord.j0 k t165 bt174.2.2 (bt174.2.2 != t165) l0_0 l0_1 t159 t162 t167 t170 bt174.1 bt174.2.1) else (laws_FnExactCloseRecord.j0 k t165 bt174.2.2 true l0_0 l0_1 t159 t162 t167 t170 bt174.1 bt174.2.1)))) = some r := H
  have A9 := Aside0.mk A90
  clear A90
  replace H := Option.bind_eq_some_iff.mp H
  obtain ⟨⟨t174, t177, t180⟩, A100, H⟩ := H
  replace H : ((laws_eqRecord.f k t174 t177 t159 t162).bind fun t182 => (if t182 = true then (laws_FnExactCloseRecord.j0 k t165 t180 (t180 != t165) l0_0 l0_1 t159 t162 t167 t170 t174 t177) else (laws_FnExactCloseRecord.j0 k t165 t180 true l0_0 l0_1 t159 t162 t167 t170 t174 t177))) = some r := H
  have A10 := Aside0.mk A100
  clear A100
  have HC11 := Aside0.mk H
  clear H
  go_enter Try.func5, Try.ntmps5
  go_upto_region 8 with (first | ((with_reducible refine gate_dst (N := 1) rfl ?_); refine box_event ?hg (N := 1) ?hd (cs := #[.slice A0_0 l0_0.length c0_0, .slice A0_1 l0_1.length c0_1]) (t := 25) ?hr ?_; (case hd => rfl); (case hg => rfl); (case hr => first | (go_simp; done) | (go_simp; rfl)); intro gb151 hg w12 hbox hb; have n0_ := Aside0.mk (below_step (wz_ HB.out) hb); have n1_ := Aside0.mk (hbox); have n2_ := Aside0.mk ((by rw [hg]; exact (below_size (wz_ HB.out)) : w.heap.size ≤ gb151)); have n3_ := Aside0.mk ((by rw [hg]; exact (below_size (wz_ HB.out)) : w.heap.size ≤ gb151)); clear HB; have HB := n0_; have BK151 := n1_; have GW151 := n2_; have GE151 := n3_; clear n0_ n1_ n2_ n3_; clear hb hbox hg; have hcz13_0 : w12.cell? ⟨gb151, 0, none⟩ = some (.slice A0_0 l0_0.length c0_0) := (blk_cell BK151.out 0).trans rfl; have hcz13_1 : w12.cell? ⟨gb151, 1, none⟩ = some (.slice A0_1 l0_1.length c0_1) := (blk_cell BK151.out 1).trans rfl; have hfz13_0 := blk_frozen BK151.out 0; have hfz13_1 := blk_frozen BK151.out 1) | ((with_reducible refine gate_callee (f := 15) rfl ?_); refine goesL_ (some 16) rfl rfl Try.func15 (by kernel_rfl) rfl #[.agg #[.slice A0_0 l0_0.length c0_0, .slice A0_1 l0_1.length c0_1], .int .i64 1048576] rfl (by (try simp only [List.map_toArray, List.map_cons, List.map_nil]); first | done | rfl | (simp only [List.length_drop, List.length_take]; rfl)) ?_; (with_reducible refine (laws_szRecord.calls _ _ l0_0 _ _ l0_1 1048576 t152 _ ?side1 ?side2 ?side3 ?side4 A2.out).mono ?_); (case side1 => exact cz_ (Kd.C_below HR0_0.out HB.out)); (case side2 => exact HC0_0.out); (case side3 => exact cz_ (Kd.C_below HR0_1.out HB.out)); (case side4 => exact HC0_1.out); rintro e w14 ⟨rfl, hb⟩; refine ⟨_, rfl, ?_⟩; have n0_ := Aside0.mk (blk_below (bz_ BK151.out) hb); have n1_ := Aside0.mk (below_step (by repeat (first | (with_reducible first | exact HB.out | apply below_alloc | apply pw_below_drewN | apply below_drew1 | refine below_set ?_ GE151.out) | exact HB.out)) hb); clear BK151; clear HB; have BK151 := n0_; have HB := n1_; clear n0_ n1_; (try clear hb); (try clear hb2); (try clear hk); (try clear hi); have hcz15_0 : w14.cell? ⟨gb151, 0, none⟩ = some (.slice A0_0 l0_0.length c0_0) := (blk_cell BK151.out 0).trans rfl; have hcz15_1 : w14.cell? ⟨gb151, 1, none⟩ = some (.slice A0_1 l0_1.length c0_1) := (blk_cell BK151.out 1).trans rfl; have hfz15_0 := blk_frozen BK151.out 0; have hfz15_1 := blk_frozen BK151.out 1) | ((with_reducible refine gate_callee (f := 17) rfl ?_); refine goesL_ (some 21) rfl rfl Try.func17 (by kernel_rfl) rfl #[.agg #[.slice A0_0 l0_0.length c0_0, .slice A0_1 l0_1.length c0_1]] rfl (by (try simp only [List.map_toArray, List.map_cons, List.map_nil]); first | done | rfl | (simp only [List.length_drop, List.length_take]; rfl)) ?_; (with_reducible refine (laws_toRecord.calls k _ _ l0_0 _ _ l0_1 t153 t156 _ ?side1 ?side2 ?side3 ?side4 A7.out).mono ?_); (case side1 => exact cz_ (Kd.C_below HR0_0.out HB.out)); (case side2 => exact HC0_0.out); (case side3 => exact cz_ (Kd.C_below HR0_1.out HB.out)); (case side4 => exact HC0_1.out); rintro e w16 ⟨v154, v157, rfl, ho0, ho1, hb⟩; refine ⟨_, rfl, ?_⟩; have n0_ := Aside0.mk (Kd.R_lower ho0 (below_size (by repeat (first | (with_reducible first | exact HB.out | apply below_alloc | apply pw_below_drewN | apply below_drew1 | refine below_set ?_ GE151.out) | exact HB.out)))); have n1_ := Aside0.mk (Kd.R_lower ho1 (below_size (by repeat (first | (with_reducible first | exact HB.out | apply below_alloc | apply pw_below_drewN | apply below_drew1 | refine below_set ?_ GE151.out) | exact HB.out)))); have n2_ := Aside0.mk (blk_below (bz_ BK151.out) hb); have n3_ := Aside0.mk (below_step (by repeat (first | (with_reducible first | exact HB.out | apply below_alloc | apply pw_below_drewN | apply below_drew1 | refine below_set ?_ GE151.out) | exact HB.out)) hb); clear BK151; clear HB; have HO155 := n0_; have HO158 := n1_; have BK151 := n2_; have HB := n3_; clear n0_ n1_ n2_ n3_; (try clear hb); (try clear hb2); (try clear hk); (try clear hi); (try clear ho0); (try clear ho1); obtain ⟨Ao17, co17, eo17⟩ := Kd.R_slice HO155.out; subst eo17; obtain ⟨Ao18, co18, eo18⟩ := Kd.R_slice HO158.out; subst eo18) | ((with_reducible refine gate_callee (f := 29) rfl ?_); refine goesL_ (some 22) rfl rfl Try.func29 (by kernel_rfl) rfl #[.agg #[.slice Ao17 t153.length co17, .slice Ao18 t156.length co18]] rfl (by (try simp only [List.map_toArray, List.map_cons, List.map_nil]); first | done | rfl | (simp only [List.length_drop, List.length_take]; rfl)) ?_; (with_reducible refine (spec_CloseRecord.calls k _ _ t153 _ _ t156 t159 t162 t165 _ ?side1 ?side2 ?side3 ?side4 A8.out).mono ?_); (case side1 => exact cz_ (Kd.R_reads' HO155.out).2.2); (case side2 => exact (Kd.R_reads' HO155.out).2.1); (case side3 => exact cz_ (Kd.R_reads' HO158.out).2.2); (case side4 => exact (Kd.R_reads' HO158.out).2.1); rintro e w19 ⟨v160, v163, rfl, ho0, ho1, hb⟩; refine ⟨_, rfl, ?_⟩; have n0_ := Aside0.mk (Kd.R_elder' (rz_ HO155.out) (Kd.R_base ho0) hb); have n1_ := Aside0.mk (Kd.R_elder' (rz_ HO158.out) (Kd.R_base ho1) hb); have n2_ := Aside0.mk (Kd.R_lower (Kd.R_new' ho0 (Kd.R_lt (rz_ HO155.out))) (below_size (by repeat (first | (with_reducible first | exact HB.out | apply below_alloc | apply pw_below_drewN | apply below_drew1 | refine below_set ?_ GE151.out) | exact HB.out)))); have n3_ := Aside0.mk (Kd.R_lower (Kd.R_new' ho1 (Kd.R_lt (rz_ HO158.out))) (below_size (by repeat (first | (with_reducible first | exact HB.out | apply below_alloc | apply pw_below_drewN | apply below_drew1 | refine below_set ?_ GE151.out) | exact HB.out)))); have n4_ := Aside0.mk (blk_below (bz_ BK151.out) hb); have n5_ := Aside0.mk (below_step (by repeat (first | (with_reducible first | exact HB.out | apply below_alloc | apply pw_below_drewN | apply below_drew1 | refine below_set ?_ GE151.out) | exact HB.out)) hb); clear HO155; clear HO158; clear BK151; clear HB; have HO155 := n0_; have HO158 := n1_; have HO161 := n2_; have HO164 := n3_; have BK151 := n4_; have HB := n5_; clear n0_ n1_ n2_ n3_ n4_ n5_; (try clear hb); (try clear hb2); (try clear hk); (try clear hi); (try clear ho0); (try clear ho1)) | ((with_reducible refine gate_dst (N := 4) rfl ?_); refine box_event ?hg (N := 4) ?hd (cs := #[.slice none 0 0, .slice none 0 0]) (t := 33) ?hr ?_; (case hd => rfl); (case hg => rfl); (case hr => first | (go_simp; done) | (go_simp; rfl)); intro gb166 hg w20 hbox hb; have n0_ := Aside0.mk (Kd.R_below (rz_ HO155.out) hb); have n1_ := Aside0.mk (Kd.R_below (rz_ HO158.out) hb); have n2_ := Aside0.mk (Kd.R_below (rz_ HO161.out) hb); have n3_ := Aside0.mk (Kd.R_below (rz_ HO164.out) hb); have n4_ := Aside0.mk (blk_below (bz_ BK151.out) hb); have n5_ := Aside0.mk (below_step (by repeat (first | (with_reducible first | exact HB.out | apply below_alloc | apply pw_below_drewN | apply below_drew1 | refine below_set ?_ GE151.out) | exact HB.out)) hb); have n6_ := Aside0.mk (hbox); have n7_ := Aside0.mk ((by rw [hg]; exact (below_size (by repeat (first | (with_reducible first | exact HB.out | apply below_alloc | apply pw_below_drewN | apply below_drew1 | refine below_set ?_ GE151.out) | exact HB.out))) : w.heap.size ≤ gb166)); have n8_ := Aside0.mk ((by rw [hg]; exact (below_size (by repeat (first | (with_reducible first | exact HB.out | apply below_alloc | apply pw_below_drewN | apply below_drew1 | refine below_set ?_ GE151.out) | exact HB.out))) : w.heap.size ≤ gb166)); have n9_ := Aside0.mk ((by rw [hg]; exact Nat.ne_of_lt (blk_lt (g := gb151) (o := .cells #[.slice A0_0 l0_0.length c0_0, .slice A0_1 l0_1.length c0_1] 25 (0, 0)) (bz_ BK151.out)) : gb151 ≠ gb166)); have n10_ := Aside0.mk ((by rw [hg]; exact Nat.ne_of_gt (blk_lt (g := gb151) (o := .cells #[.slice A0_0 l0_0.length c0_0, .slice A0_1 l0_1.length c0_1] 25 (0, 0)) (bz_ BK151.out)) : gb166 ≠ gb151)); clear HO155; clear HO158; clear HO161; clear HO164; clear BK151; clear HB; have HO155 := n0_; have HO158 := n1_; have HO161 := n2_; have HO164 := n3_; have BK151 := n4_; have HB := n5_; have BK166 := n6_; have GW166 := n7_; have GE166 := n8_; have NB151_166 := n9_; have NB166_151 := n10_; clear n0_ n1_ n2_ n3_ n4_ n5_ n6_ n7_ n8_ n9_ n10_; clear hb hbox hg; obtain ⟨Ao21, co21, eo21⟩ := Kd.R_slice HO161.out; subst eo21; have hnb22 := NB166_151.out; have hnc22 := NB151_166.out; have hcz23_0 : w20.cell? ⟨gb166, 0, none⟩ = some (.slice none 0 0) := (blk_cell BK166.out 0).trans rfl; have hcz23_1 : w20.cell? ⟨gb166, 1, none⟩ = some (.slice none 0 0) := (blk_cell BK166.out 1).trans rfl; have hfz23_0 := blk_frozen BK166.out 0; have hfz23_1 := blk_frozen BK166.out 1; obtain ⟨Ao24, co24, eo24⟩ := Kd.R_slice HO164.out; subst eo24; have hcz25_0 : w20.cell? ⟨gb151, 0, none⟩ = some (.slice A0_0 l0_0.length c0_0) := (blk_cell BK151.out 0).trans rfl; have hcz25_1 : w20.cell? ⟨gb151, 1, none⟩ = some (.slice A0_1 l0_1.length c0_1) := (blk_cell BK151.out 1).trans rfl; have hfz25_0 := blk_frozen BK151.out 0; have hfz25_1 := blk_frozen BK151.out 1) | ((with_reducible refine gate_callee (f := 17) rfl ?_); refine goesL_ (some 26) rfl rfl Try.func17 (by kernel_rfl) rfl #[.agg #[.slice A0_0 l0_0.length c0_0, .slice A0_1 l0_1.length c0_1]] rfl (by (try simp only [List.map_toArray, List.map_cons, List.map_nil]); first | done | rfl | (simp only [List.length_drop, List.length_take]; rfl)) ?_; (with_reducible refine (laws_toRecord.calls k _ _ l0_0 _ _ l0_1 t167 t170 _ ?side1 ?side2 ?side3 ?side4 A9.out).mono ?_); (case side1 => exact Kd.C_below HR0_0.out (by repeat (first | (with_reducible first | exact HB.out | apply below_alloc | apply pw_below_drewN | apply below_drew1 | refine below_set ?_ GE151.out | refine below_set ?_ GE166.out) | exact HB.out))); (case side2 => exact HC0_0.out); (case side3 => exact Kd.C_below HR0_1.out (by repeat (first | (with_reducible first | exact HB.out | apply below_alloc | apply pw_below_drewN | apply below_drew1 | refine below_set ?_ GE151.out | refine below_set ?_ GE166.out) | exact HB.out))); (case side4 => exact HC0_1.out); rintro e w26 ⟨v168, v171, rfl, ho0, ho1, hb⟩; refine ⟨_, rfl, ?_⟩; have n0_ := Aside0.mk (Kd.R_elder' (rz_ (Kd.R_mono (Kd.R_far (p := ⟨gb166, 1, none⟩) (Kd.R_far (p := ⟨gb166, 0, none⟩) (Kd.R_types HO155.out BK166.out (by decide)) (fun _ hk => hk.2) (.slice Ao21 t159.length co21)) (fun _ hk => hk.2) (.slice Ao24 t162.length co24)) (fun _ h_ => h_.1))) (Kd.R_base ho0) hb); have n1_ := Aside0.mk (Kd.R_elder' (rz_ (Kd.R_mono (Kd.R_far (p := ⟨gb166, 1, none⟩) (Kd.R_far (p := ⟨gb166, 0, none⟩) (Kd.R_types HO158.out BK166.out (by decide)) (fun _ hk => hk.2) (.slice Ao21 t159.length co21)) (fun _ hk => hk.2) (.slice Ao24 t162.length co24)) (fun _ h_ => h_.1))) (Kd.R_base ho1) hb); have n2_ := Aside0.mk (Kd.R_elder' (rz_ (Kd.R_mono (Kd.R_far (p := ⟨gb166, 1, none⟩) (Kd.R_far (p := ⟨gb166, 0, none⟩) (Kd.R_types HO161.out BK166.out (by decide)) (fun _ hk => hk.2) (.slice Ao21 t159.length co21)) (fun _ hk => hk.2) (.slice Ao24 t162.length co24)) (fun _ h_ => h_.1))) (Kd.R_base ho0) hb); have n3_ := Aside0.mk (Kd.R_elder' (rz_ (Kd.R_mono (Kd.R_far (p := ⟨gb166, 1, none⟩) (Kd.R_far (p := ⟨gb166, 0, none⟩) (Kd.R_types HO164.out BK166.out (by decide)) (fun _ hk => hk.2) (.slice Ao21 t159.length co21)) (fun _ hk => hk.2) (.slice Ao24 t162.length co24)) (fun _ h_ => h_.1))) (Kd.R_base ho1) hb); have n4_ := Aside0.mk (Kd.R_lower (Kd.R_new' (Kd.R_new' ho0 (Kd.R_lt (rz_ (Kd.R_mono (Kd.R_far (p := ⟨gb166, 1, none⟩) (Kd.R_far (p := ⟨gb166, 0, none⟩) (Kd.R_types HO155.out BK166.out (by decide)) (fun _ hk => hk.2) (.slice Ao21 t159.length co21)) (fun _ hk => hk.2) (.slice Ao24 t162.length co24)) (fun _ h_ => h_.1))))) (Kd.R_lt (rz_ (Kd.R_mono (Kd.R_far (p := ⟨gb166, 1, none⟩) (Kd.R_far (p := ⟨gb166, 0, none⟩) (Kd.R_types HO161.out BK166.out (by decide)) (fun _ hk => hk.2) (.slice Ao21 t159.length co21)) (fun _ hk => hk.2) (.slice Ao24 t162.length co24)) (fun _ h_ => h_.1))))) (below_size (by repeat (first | (with_reducible first | exact HB.out | apply below_alloc | apply pw_below_drewN | apply below_drew1 | refine below_set ?_ GE151.out | refine below_set ?_ GE166.out) | exact HB.out)))); have n5_ := Aside0.mk (Kd.R_lower (Kd.R_new' (Kd.R_new' ho1 (Kd.R_lt (rz_ (Kd.R_mono (Kd.R_far (p := ⟨gb166, 1, none⟩) (Kd.R_far (p := ⟨gb166, 0, none⟩) (Kd.R_types HO158.out BK166.out (by decide)) (fun _ hk => hk.2) (.slice Ao21 t159.length co21)) (fun _ hk => hk.2) (.slice Ao24 t162.length co24)) (fun _ h_ => h_.1))))) (Kd.R_lt (rz_ (Kd.R_mono (Kd.R_far (p := ⟨gb166, 1, none⟩) (Kd.R_far (p := ⟨gb166, 0, none⟩) (Kd.R_types HO164.out BK166.out (by decide)) (fun _ hk => hk.2) (.slice Ao21 t159.length co21)) (fun _ hk => hk.2) (.slice Ao24 t162.length co24)) (fun _ h_ => h_.1))))) (below_size (by repeat (first | (with_reducible first | exact HB.out | apply below_alloc | apply pw_below_drewN | apply below_drew1 | refine below_set ?_ GE151.out | refine below_set ?_ GE166.out) | exact HB.out)))); have n6_ := Aside0.mk (blk_below (g := gb151) (o := .cells #[.slice A0_0 l0_0.length c0_0, .slice A0_1 l0_1.length c0_1] 25 (0, 0)) (by (with_reducible repeat (first | refine blk_drewN ?_ _ | refine blk_drew ?_ | refine blk_alloc ?_ _)); refine blk_far ?_ NB151_166.out _; (with_reducible repeat (first | refine blk_drewN ?_ _ | refine blk_drew ?_ | refine blk_alloc ?_ _)); refine blk_far ?_ NB151_166.out _; (with_reducible repeat (first | refine blk_drewN ?_ _ | refine blk_drew ?_ | refine blk_alloc ?_ _)); exact BK151.out) hb); have n7_ := Aside0.mk (blk_below (g := gb166) (o := .cells #[.slice Ao21 t159.length co21, .slice Ao24 t162.length co24] 33 (0, 0)) (by (with_reducible repeat (first | refine blk_drewN ?_ _ | refine blk_drew ?_ | refine blk_alloc ?_ _)); refine blk_put (cs := #[.slice Ao21 t159.length co21, .slice none 0 0]) ?_ 1 _ rfl; (with_reducible repeat (first | refine blk_drewN ?_ _ | refine blk_drew ?_ | refine blk_alloc ?_ _)); refine blk_put (cs := #[.slice none 0 0, .slice none 0 0]) ?_ 0 _ rfl; (with_reducible repeat (first | refine blk_drewN ?_ _ | refine blk_drew ?_ | refine blk_alloc ?_ _)); exact BK166.out) hb); have n8_ := Aside0.mk (below_step (by repeat (first | (with_reducible first | exact HB.out | apply below_alloc | apply pw_below_drewN | apply below_drew1 | refine below_set ?_ GE151.out | refine below_set ?_ GE166.out) | exact HB.out)) hb); clear HO155; clear HO158; clear HO161; clear HO164; clear BK151; clear BK166; clear HB; have HO155 := n0_; have HO158 := n1_; have HO161 := n2_; have HO164 := n3_; have HO169 := n4_; have HO172 := n5_; have BK151 := n6_; have BK166 := n7_; have HB := n8_; clear n0_ n1_ n2_ n3_ n4_ n5_ n6_ n7_ n8_; (try clear hb); (try clear hb2); (try clear hk); (try clear hi); (try clear ho0); (try clear ho1)) | ((with_reducible refine gate_dst (N := 6) rfl ?_); refine box_event ?hg (N := 6) ?hd (cs := #[.slice none 0 0, .slice none 0 0]) (t := 33) ?hr ?_; (case hd => rfl); (case hg => rfl); (case hr => first | (go_simp; done) | (go_simp; rfl)); intro gb173 hg w27 hbox hb; have n0_ := Aside0.mk (Kd.R_below (rz_ HO155.out) hb); have n1_ := Aside0.mk (Kd.R_below (rz_ HO158.out) hb); have n2_ := Aside0.mk (Kd.R_below (rz_ HO161.out) hb); have n3_ := Aside0.mk (Kd.R_below (rz_ HO164.out) hb); have n4_ := Aside0.mk (Kd.R_below (rz_ HO169.out) hb); have n5_ := Aside0.mk (Kd.R_below (rz_ HO172.out) hb); have n6_ := Aside0.mk (blk_below (bz_ BK151.out) hb); have n7_ := Aside0.mk (blk_below (bz_ BK166.out) hb); have n8_ := Aside0.mk (below_step (by repeat (first | (with_reducible first | exact HB.out | apply below_alloc | apply pw_below_drewN | apply below_drew1 | refine below_set ?_ GE151.out | refine below_set ?_ GE166.out) | exact HB.out)) hb); have n9_ := Aside0.mk (hbox); have n10_ := Aside0.mk ((by rw [hg]; exact (below_size (by repeat (first | (with_reducible first | exact HB.out | apply below_alloc | apply pw_below_drewN | apply below_drew1 | refine below_set ?_ GE151.out | refine below_set ?_ GE166.out) | exact HB.out))) : w.heap.size ≤ gb173)); have n11_ := Aside0.mk ((by rw [hg]; exact (below_size (by repeat (first | (with_reducible first | exact HB.out | apply below_alloc | apply pw_below_drewN | apply below_drew1 | refine below_set ?_ GE151.out | refine below_set ?_ GE166.out) | exact HB.out))) : w.heap.size ≤ gb173)); have n12_ := Aside0.mk ((by rw [hg]; exact Nat.ne_of_lt (blk_lt (g := gb151) (o := .cells #[.slice A0_0 l0_0.length c0_0, .slice A0_1 l0_1.length c0_1] 25 (0, 0)) (bz_ BK151.out)) : gb151 ≠ gb173)); have n13_ := Aside0.mk ((by rw [hg]; exact Nat.ne_of_gt (blk_lt (g := gb151) (o := .cells #[.slice A0_0 l0_0.length c0_0, .slice A0_1 l0_1.length c0_1] 25 (0, 0)) (bz_ BK151.out)) : gb173 ≠ gb151)); have n14_ := Aside0.mk ((by rw [hg]; exact Nat.ne_of_lt (blk_lt (g := gb166) (o := .cells #[.slice Ao21 t159.length co21, .slice Ao24 t162.length co24] 33 (0, 0)) (bz_ BK166.out)) : gb166 ≠ gb173)); have n15_ := Aside0.mk ((by rw [hg]; exact Nat.ne_of_gt (blk_lt (g := gb166) (o := .cells #[.slice Ao21 t159.length co21, .slice Ao24 t162.length co24] 33 (0, 0)) (bz_ BK166.out)) : gb173 ≠ gb166)); clear HO155; clear HO158; clear HO161; clear HO164; clear HO169; clear HO172; clear BK151; clear BK166; clear HB; have HO155 := n0_; have HO158 := n1_; have HO161 := n2_; have HO164 := n3_; have HO169 := n4_; have HO172 := n5_; have BK151 := n6_; have BK166 := n7_; have HB := n8_; have BK173 := n9_; have GW173 := n10_; have GE173 := n11_; have NB151_173 := n12_; have NB173_151 := n13_; have NB166_173 := n14_; have NB173_166 := n15_; clear n0_ n1_ n2_ n3_ n4_ n5_ n6_ n7_ n8_ n9_ n10_ n11_ n12_ n13_ n14_ n15_; clear hb hbox hg; obtain ⟨Ao28, co28, eo28⟩ := Kd.R_slice HO169.out; subst eo28; have hnb29 := NB173_151.out; have hnc29 := NB151_173.out; have hnb30 := NB173_166.out; have hnc30 := NB166_173.out; have hcz31_0 : w27.cell? ⟨gb173, 0, none⟩ = some (.slice none 0 0) := (blk_cell BK173.out 0).trans rfl; have hcz31_1 : w27.cell? ⟨gb173, 1, none⟩ = some (.slice none 0 0) := (blk_cell BK173.out 1).trans rfl; have hfz31_0 := blk_frozen BK173.out 0; have hfz31_1 := blk_frozen BK173.out 1; obtain ⟨Ao32, co32, eo32⟩ := Kd.R_slice HO172.out; subst eo32) | ((with_reducible refine gate_callee (f := 30) rfl ?_); refine goesL_ (some 29) rfl rfl Try.func30 (by kernel_rfl) rfl #[.agg #[.slice Ao28 t167.length co28, .slice Ao32 t170.length co32]] rfl (by (try simp only [List.map_toArray, List.map_cons, List.map_nil]); first | done | rfl | (simp only [List.length_drop, List.length_take]; rfl)) ?_; (with_reducible refine (impl_CloseRecord.calls _ _ t167 _ _ t170 t174 t177 t180 _ ?side1 ?side2 ?side3 ?side4 A10.out).mono ?_); (case side1 => refine (Kd.R_reads' (e := 86) (base := w.heap.size) (ok := fun k_ => ((True ∧ some k_ ≠ (.slice Ao17 t153.length co17 : Value).ownBlock) ∧ some k_ ≠ (.slice Ao21 t159.length co21 : Value).ownBlock)) (n := t167.length) (c := co28) ?_).2.2; exact (rz_ (Kd.R_mono (Kd.R_far (p := ⟨gb173, 1, none⟩) (Kd.R_far (p := ⟨gb173, 0, none⟩) (Kd.R_types HO169.out BK173.out (by decide)) (fun _ hk => hk.2) (.slice Ao28 t167.length co28)) (fun _ hk => hk.2) (.slice Ao32 t170.length co32)) (fun _ h_ => h_.1)))); (case side2 => exact (Kd.R_reads' HO169.out).2.1); (case side3 => refine (Kd.R_reads' (e := 95) (base := w.heap.size) (ok := fun k_ => ((True ∧ some k_ ≠ (.slice Ao18 t156.length co18 : Value).ownBlock) ∧ some k_ ≠ (.slice Ao24 t162.length co24 : Value).ownBlock)) (n := t170.length) (c := co32) ?_).2.2; exact (rz_ (Kd.R_mono (Kd.R_far (p := ⟨gb173, 1, none⟩) (Kd.R_far (p := ⟨gb173, 0, none⟩) (Kd.R_types HO172.out BK173.out (by decide)) (fun _ hk => hk.2) (.slice Ao28 t167.length co28)) (fun _ hk => hk.2) (.slice Ao32 t170.length co32)) (fun _ h_ => h_.1)))); (case side4 => exact (Kd.R_reads' HO172.out).2.1); rintro e w33 ⟨v175, v178, rfl, ho0, ho1, hb⟩; refine ⟨_, rfl, ?_⟩; have n0_ := Aside0.mk (Kd.R_elder' (rz_ (Kd.R_mono (Kd.R_far (p := ⟨gb173, 1, none⟩) (Kd.R_far (p := ⟨gb173, 0, none⟩) (Kd.R_types HO155.out BK173.out (by decide)) (fun _ hk => hk.2) (.slice Ao28 t167.length co28)) (fun _ hk => hk.2) (.slice Ao32 t170.length co32)) (fun _ h_ => h_.1))) (Kd.R_base ho0) hb); have n1_ := Aside0.mk (Kd.R_elder' (rz_ (Kd.R_mono (Kd.R_far (p := ⟨gb173, 1, none⟩) (Kd.R_far (p := ⟨gb173, 0, none⟩) (Kd.R_types HO158.out BK173.out (by decide)) (fun _ hk => hk.2) (.slice Ao28 t167.length co28)) (fun _ hk => hk.2) (.slice Ao32 t170.length co32)) (fun _ h_ => h_.1))) (Kd.R_base ho1) hb); have n2_ := Aside0.mk (Kd.R_elder' (rz_ (Kd.R_mono (Kd.R_far (p := ⟨gb173, 1, none⟩) (Kd.R_far (p := ⟨gb173, 0, none⟩) (Kd.R_types HO161.out BK173.out (by decide)) (fun _ hk => hk.2) (.slice Ao28 t167.length co28)) (fun _ hk => hk.2) (.slice Ao32 t170.length co32)) (fun _ h_ => h_.1))) (Kd.R_base ho0) hb); have n3_ := Aside0.mk (Kd.R_elder' (rz_ (Kd.R_mono (Kd.R_far (p := ⟨gb173, 1, none⟩) (Kd.R_far (p := ⟨gb173, 0, none⟩) (Kd.R_types HO164.out BK173.out (by decide)) (fun _ hk => hk.2) (.slice Ao28 t167.length co28)) (fun _ hk => hk.2) (.slice Ao32 t170.length co32)) (fun _ h_ => h_.1))) (Kd.R_base ho1) hb); have n4_ := Aside0.mk (Kd.R_elder' (rz_ (Kd.R_mono (Kd.R_far (p := ⟨gb173, 1, none⟩) (Kd.R_far (p := ⟨gb173, 0, none⟩) (Kd.R_types HO169.out BK173.out (by decide)) (fun _ hk => hk.2) (.slice Ao28 t167.length co28)) (fun _ hk => hk.2) (.slice Ao32 t170.length co32)) (fun _ h_ => h_.1))) (Kd.R_base ho0) hb); have n5_ := Aside0.mk (Kd.R_elder' (rz_ (Kd.R_mono (Kd.R_far (p := ⟨gb173, 1, none⟩) (Kd.R_far (p := ⟨gb173, 0, none⟩) (Kd.R_types HO172.out BK173.out (by decide)) (fun _ hk => hk.2) (.slice Ao28 t167.length co28)) (fun _ hk => hk.2) (.slice Ao32 t170.length co32)) (fun _ h_ => h_.1))) (Kd.R_base ho1) hb); have n6_ := Aside0.mk (Kd.R_lower (Kd.R_new' (Kd.R_new' (Kd.R_new' ho0 (Kd.R_lt (rz_ (Kd.R_mono (Kd.R_far (p := ⟨gb173, 1, none⟩) (Kd.R_far (p := ⟨gb173, 0, none⟩) (Kd.R_types HO155.out BK173.out (by decide)) (fun _ hk => hk.2) (.slice Ao28 t167.length co28)) (fun _ hk => hk.2) (.slice Ao32 t170.length co32)) (fun _ h_ => h_.1))))) (Kd.R_lt (rz_ (Kd.R_mono (Kd.R_far (p := ⟨gb173, 1, none⟩) (Kd.R_far (p := ⟨gb173, 0, none⟩) (Kd.R_types HO161.out BK173.out (by decide)) (fun _ hk => hk.2) (.slice Ao28 t167.length co28)) (fun _ hk => hk.2) (.slice Ao32 t170.length co32)) (fun _ h_ => h_.1))))) (Kd.R_lt (rz_ (Kd.R_mono (Kd.R_far (p := ⟨gb173, 1, none⟩) (Kd.R_far (p := ⟨gb173, 0, none⟩) (Kd.R_types HO169.out BK173.out (by decide)) (fun _ hk => hk.2) (.slice Ao28 t167.length co28)) (fun _ hk => hk.2) (.slice Ao32 t170.length co32)) (fun _ h_ => h_.1))))) (below_size (by repeat (first | (with_reducible first | exact HB.out | apply below_alloc | apply pw_below_drewN | apply below_drew1 | refine below_set ?_ GE151.out | refine below_set ?_ GE166.out | refine below_set ?_ GE173.out) | exact HB.out)))); have n7_ := Aside0.mk (Kd.R_lower (Kd.R_new' (Kd.R_new' (Kd.R_new' ho1 (Kd.R_lt (rz_ (Kd.R_mono (Kd.R_far (p := ⟨gb173, 1, none⟩) (Kd.R_far (p := ⟨gb173, 0, none⟩) (Kd.R_types HO158.out BK173.out (by decide)) (fun _ hk => hk.2) (.slice Ao28 t167.length co28)) (fun _ hk => hk.2) (.slice Ao32 t170.length co32)) (fun _ h_ => h_.1))))) (Kd.R_lt (rz_ (Kd.R_mono (Kd.R_far (p := ⟨gb173, 1, none⟩) (Kd.R_far (p := ⟨gb173, 0, none⟩) (Kd.R_types HO164.out BK173.out (by decide)) (fun _ hk => hk.2) (.slice Ao28 t167.length co28)) (fun _ hk => hk.2) (.slice Ao32 t170.length co32)) (fun _ h_ => h_.1))))) (Kd.R_lt (rz_ (Kd.R_mono (Kd.R_far (p := ⟨gb173, 1, none⟩) (Kd.R_far (p := ⟨gb173, 0, none⟩) (Kd.R_types HO172.out BK173.out (by decide)) (fun _ hk => hk.2) (.slice Ao28 t167.length co28)) (fun _ hk => hk.2) (.slice Ao32 t170.length co32)) (fun _ h_ => h_.1))))) (below_size (by repeat (first | (with_reducible first | exact HB.out | apply below_alloc | apply pw_below_drewN | apply below_drew1 | refine below_set ?_ GE151.out | refine below_set ?_ GE166.out | refine below_set ?_ GE173.out) | exact HB.out)))); have n8_ := Aside0.mk (blk_below (g := gb151) (o := .cells #[.slice A0_0 l0_0.length c0_0, .slice A0_1 l0_1.length c0_1] 25 (0, 0)) (by (with_reducible repeat (first | refine blk_drewN ?_ _ | refine blk_drew ?_ | refine blk_alloc ?_ _)); refine blk_far ?_ NB151_173.out _; (with_reducible repeat (first | refine blk_drewN ?_ _ | refine blk_drew ?_ | refine blk_alloc ?_ _)); refine blk_far ?_ NB151_173.out _; (with_reducible repeat (first | refine blk_drewN ?_ _ | refine blk_drew ?_ | refine blk_alloc ?_ _)); exact BK151.out) hb); have n9_ := Aside0.mk (blk_below (g := gb166) (o := .cells #[.slice Ao21 t159.length co21, .slice Ao24 t162.length co24] 33 (0, 0)) (by (with_reducible repeat (first | refine blk_drewN ?_ _ | refine blk_drew ?_ | refine blk_alloc ?_ _)); refine blk_far ?_ NB166_173.out _; (with_reducible repeat (first | refine blk_drewN ?_ _ | refine blk_drew ?_ | refine blk_alloc ?_ _)); refine blk_far ?_ NB166_173.out _; (with_reducible repeat (first | refine blk_drewN ?_ _ | refine blk_drew ?_ | refine blk_alloc ?_ _)); exact BK166.out) hb); have n10_ := Aside0.mk (blk_below (g := gb173) (o := .cells #[.slice Ao28 t167.length co28, .slice Ao32 t170.length co32] 33 (0, 0)) (by (with_reducible repeat (first | refine blk_drewN ?_ _ | refine blk_drew ?_ | refine blk_alloc ?_ _)); refine blk_put (cs := #[.slice Ao28 t167.length co28, .slice none 0 0]) ?_ 1 _ rfl; (with_reducible repeat (first | refine blk_drewN ?_ _ | refine blk_drew ?_ | refine blk_alloc ?_ _)); refine blk_put (cs := #[.slice none 0 0, .slice none 0 0]) ?_ 0 _ rfl; (with_reducible repeat (first | refine blk_drewN ?_ _ | refine blk_drew ?_ | refine blk_alloc ?_ _)); exact BK173.out) hb); have n11_ := Aside0.mk (below_step (by repeat (first | (with_reducible first | exact HB.out | apply below_alloc | apply pw_below_drewN | apply below_drew1 | refine below_set ?_ GE151.out | refine below_set ?_ GE166.out | refine below_set ?_ GE173.out) | exact HB.out)) hb); clear HO155; clear HO158; clear HO161; clear HO164; clear HO169; clear HO172; clear BK151; clear BK166; clear BK173; clear HB; have HO155 := n0_; have HO158 := n1_; have HO161 := n2_; have HO164 := n3_; have HO169 := n4_; have HO172 := n5_; have HO176 := n6_; have HO179 := n7_; have BK151 := n8_; have BK166 := n9_; have BK173 := n10_; have HB := n11_; clear n0_ n1_ n2_ n3_ n4_ n5_ n6_ n7_ n8_ n9_ n10_ n11_; (try clear hb); (try clear hb2); (try clear hk); (try clear hi); (try clear ho0); (try clear ho1)) | ((with_reducible refine gate_dst (N := 7) rfl ?_); refine box_event ?hg (N := 7) ?hd (cs := #[.slice none 0 0, .slice none 0 0]) (t := 33) ?hr ?_; (case hd => rfl); (case hg => rfl); (case hr => first | (go_simp; done) | (go_simp; rfl)); intro gb181 hg w34 hbox hb; have n0_ := Aside0.mk (Kd.R_below (rz_ HO155.out) hb); have n1_ := Aside0.mk (Kd.R_below (rz_ HO158.out) hb); have n2_ := Aside0.mk (Kd.R_below (rz_ HO161.out) hb); have n3_ := Aside0.mk (Kd.R_below (rz_ HO164.out) hb); have n4_ := Aside0.mk (Kd.R_below (rz_ HO169.out) hb); have n5_ := Aside0.mk (Kd.R_below (rz_ HO172.out) hb); have n6_ := Aside0.mk (Kd.R_below (rz_ HO176.out) hb); have n7_ := Aside0.mk (Kd.R_below (rz_ HO179.out) hb); have n8_ := Aside0.mk (blk_below (bz_ BK151.out) hb); have n9_ := Aside0.mk (blk_below (bz_ BK166.out) hb); have n10_ := Aside0.mk (blk_below (bz_ BK173.out) hb); have n11_ := Aside0.mk (below_step (by repeat (first | (with_reducible first | exact HB.out | apply below_alloc | apply pw_below_drewN | apply below_drew1 | refine below_set ?_ GE151.out | refine below_set ?_ GE166.out | refine below_set ?_ GE173.out) | exact HB.out)) hb); have n12_ := Aside0.mk (hbox); have n13_ := Aside0.mk ((by rw [hg]; exact (below_size (by repeat (first | (with_reducible first | exact HB.out | apply below_alloc | apply pw_below_drewN | apply below_drew1 | refine below_set ?_ GE151.out | refine below_set ?_ GE166.out | refine below_set ?_ GE173.out) | exact HB.out))) : w.heap.size ≤ gb181)); have n14_ := Aside0.mk ((by rw [hg]; exact (below_size (by repeat (first | (with_reducible first | exact HB.out | apply below_alloc | apply pw_below_drewN | apply below_drew1 | refine below_set ?_ GE151.out | refine below_set ?_ GE166.out | refine below_set ?_ GE173.out) | exact HB.out))) : w.heap.size ≤ gb181)); have n15_ := Aside0.mk ((by rw [hg]; exact Nat.ne_of_lt (blk_lt (g := gb151) (o := .cells #[.slice A0_0 l0_0.length c0_0, .slice A0_1 l0_1.length c0_1] 25 (0, 0)) (bz_ BK151.out)) : gb151 ≠ gb181)); have n16_ := Aside0.mk ((by rw [hg]; exact Nat.ne_of_gt (blk_lt (g := gb151) (o := .cells #[.slice A0_0 l0_0.length c0_0, .slice A0_1 l0_1.length c0_1] 25 (0, 0)) (bz_ BK151.out)) : gb181 ≠ gb151)); have n17_ := Aside0.mk ((by rw [hg]; exact Nat.ne_of_lt (blk_lt (g := gb166) (o := .cells #[.slice Ao21 t159.length co21, .slice Ao24 t162.length co24] 33 (0, 0)) (bz_ BK166.out)) : gb166 ≠ gb181)); have n18_ := Aside0.mk ((by rw [hg]; exact Nat.ne_of_gt (blk_lt (g := gb166) (o := .cells #[.slice Ao21 t159.length co21, .slice Ao24 t162.length co24] 33 (0, 0)) (bz_ BK166.out)) : gb181 ≠ gb166)); have n19_ := Aside0.mk ((by rw [hg]; exact Nat.ne_of_lt (blk_lt (g := gb173) (o := .cells #[.slice Ao28 t167.length co28, .slice Ao32 t170.length co32] 33 (0, 0)) (bz_ BK173.out)) : gb173 ≠ gb181)); have n20_ := Aside0.mk ((by rw [hg]; exact Nat.ne_of_gt (blk_lt (g := gb173) (o := .cells #[.slice Ao28 t167.length co28, .slice Ao32 t170.length co32] 33 (0, 0)) (bz_ BK173.out)) : gb181 ≠ gb173)); clear HO155; clear HO158; clear HO161; clear HO164; clear HO169; clear HO172; clear HO176; clear HO179; clear BK151; clear BK166; clear BK173; clear HB; have HO155 := n0_; have HO158 := n1_; have HO161 := n2_; have HO164 := n3_; have HO169 := n4_; have HO172 := n5_; have HO176 := n6_; have HO179 := n7_; have BK151 := n8_; have BK166 := n9_; have BK173 := n10_; have HB := n11_; have BK181 := n12_; have GW181 := n13_; have GE181 := n14_; have NB151_181 := n15_; have NB181_151 := n16_; have NB166_181 := n17_; have NB181_166 := n18_; have NB173_181 := n19_; have NB181_173 := n20_; clear n0_ n1_ n2_ n3_ n4_ n5_ n6_ n7_ n8_ n9_ n10_ n11_ n12_ n13_ n14_ n15_ n16_ n17_ n18_ n19_ n20_; clear hb hbox hg; obtain ⟨Ao35, co35, eo35⟩ := Kd.R_slice HO176.out; subst eo35; have hnb36 := NB181_151.out; have hnc36 := NB151_181.out; have hnb37 := NB181_166.out; have hnc37 := NB166_181.out; have hnb38 := NB181_173.out; have hnc38 := NB173_181.out; have hcz39_0 : w34.cell? ⟨gb181, 0, none⟩ = some (.slice none 0 0) := (blk_cell BK181.out 0).trans rfl; have hcz39_1 : w34.cell? ⟨gb181, 1, none⟩ = some (.slice none 0 0) := (blk_cell BK181.out 1).trans rfl; have hfz39_0 := blk_frozen BK181.out 0; have hfz39_1 := blk_frozen BK181.out 1; obtain ⟨Ao40, co40, eo40⟩ := Kd.R_slice HO179.out; subst eo40))
  (try simp only [Act.put, List.setIfInBounds_toArray, List.set_cons_zero, List.set_cons_succ])
  go_cut [40] (fun v40 wc => ∃ (kq : Nat) (x40_10 : Bool), v40 = .bool x40_10 ∧ Aside0 (laws_FnExactCloseRecord.j0 kq t165 t180 x40_10 l0_0 l0_1 t159 t162 t167 t170 t174 t177 = some r) ∧ Aside0 (kq ≤ k) ∧ Aside0 (Kd.R k86 86 wc w.heap.size (fun k_ => some k_ ≠ ((.slice Ao28 t167.length co28) : Value).ownBlock ∧ some k_ ≠ ((.slice Ao35 t174.length co35) : Value).ownBlock) (.slice Ao21 t159.length co21) t159) ∧ Aside0 (Kd.R k95 95 wc w.heap.size (fun k_ => some k_ ≠ ((.slice Ao32 t170.length co32) : Value).ownBlock ∧ some k_ ≠ ((.slice Ao40 t177.length co40) : Value).ownBlock) (.slice Ao24 t162.length co24) t162) ∧ Aside0 (Kd.R k86 86 wc w.heap.size (fun k_ => some k_ ≠ ((.slice Ao21 t159.length co21) : Value).ownBlock ∧ some k_ ≠ ((.slice Ao35 t174.length co35) : Value).ownBlock) (.slice Ao28 t167.length co28) t167) ∧ Aside0 (Kd.R k95 95 wc w.heap.size (fun k_ => some k_ ≠ ((.slice Ao24 t162.length co24) : Value).ownBlock ∧ some k_ ≠ ((.slice Ao40 t177.length co40) : Value).ownBlock) (.slice Ao32 t170.length co32) t170) ∧ Aside0 (Kd.R k86 86 wc w.heap.size (fun k_ => some k_ ≠ ((.slice Ao21 t159.length co21) : Value).ownBlock ∧ some k_ ≠ ((.slice Ao28 t167.length co28) : Value).ownBlock) (.slice Ao35 t174.length co35) t174) ∧ Aside0 (Kd.R k95 95 wc w.heap.size (fun k_ => some k_ ≠ ((.slice Ao24 t162.length co24) : Value).ownBlock ∧ some k_ ≠ ((.slice Ao32 t170.length co32) : Value).ownBlock) (.slice Ao40 t177.length co40) t177) ∧ Aside0 (wc.heap[gb151]? = some (.cells #[(.slice A0_0 l0_0.length c0_0), (.slice A0_1 l0_1.length c0_1)] 25 (0, 0))) ∧ Aside0 (wc.heap[gb166]? = some (.cells #[(.slice Ao21 t159.length co21), (.slice Ao24 t162.length co24)] 33 (0, 0))) ∧ Aside0 (wc.heap[gb173]? = some (.cells #[(.slice Ao28 t167.length co28), (.slice Ao32 t170.length co32)] 33 (0, 0))) ∧ Aside0 (wc.heap[gb181]? = some (.cells #[(.slice Ao35 t174.length co35), (.slice Ao40 t177.length co40)] 33 (0, 0))) ∧ Aside0 (Below w.heap.size w wc))
  case first =>
   have H := HC11.out
   clear HC11
   replace H := Option.bind_eq_some_iff.mp H
   obtain ⟨t182, A410, H⟩ := H
   replace H : (if t182 = true then (laws_FnExactCloseRecord.j0 k t165 t180 (t180 != t165) l0_0 l0_1 t159 t162 t167 t170 t174 t177) else (laws_FnExactCloseRecord.j0 k t165 t180 true l0_0 l0_1 t159 t162 t167 t170 t174 t177)) = some r := H
   have A41 := Aside0.mk A410
   clear A410
   by_cases c42 : t182 = true
   ·subst c42
    have H1 : (laws_FnExactCloseRecord.j0 k t165 t180 (t180 != t165) l0_0 l0_1 t159 t162 t167 t170 t174 t177) = some r := by rw [if_pos rfl] at H; exact H
    clear H
    have H := H1
    clear H1
    have H' := Aside0.mk H
    clear H
    have hnb43 := NB181_151.out
    have hnc43 := NB151_181.out
    have hnb44 := NB181_166.out
    have hnc44 := NB166_181.out
    have hnb45 := NB181_173.out
    have hnc45 := NB173_181.out
    have hcz46_0 : w34.cell? ⟨gb181, 0, none⟩ = some (.slice none 0 0) := (blk_cell BK181.out 0).trans rfl
    have hcz46_1 : w34.cell? ⟨gb181, 1, none⟩ = some (.slice none 0 0) := (blk_cell BK181.out 1).trans rfl
    have hfz46_0 := blk_frozen BK181.out 0
    have hfz46_1 := blk_frozen BK181.out 1
    have hnb47 := NB166_151.out
    have hnc47 := NB151_166.out
    have hnb48 := NB166_173.out
    have hnc48 := NB173_166.out
    have hcz49_0 : w34.cell? ⟨gb166, 0, none⟩ = some (.slice Ao21 t159.length co21) := (blk_cell BK166.out 0).trans rfl
    have hcz49_1 : w34.cell? ⟨gb166, 1, none⟩ = some (.slice Ao24 t162.length co24) := (blk_cell BK166.out 1).trans rfl
    have hfz49_0 := blk_frozen BK166.out 0
    have hfz49_1 := blk_frozen BK166.out 1
    go_wp2_with (first | ((with_reducible refine gate_callee (f := 20) rfl ?_); refine goesL_ (some 34) rfl rfl Try.func20 (by kernel_rfl) rfl #[.agg #[.slice Ao35 t174.length co35, .slice Ao40 t177.length co40], .agg #[.slice Ao21 t159.length co21, .slice Ao24 t162.length co24]] rfl (by (try simp only [List.map_toArray, List.map_cons, List.map_nil]); first | done | rfl | (simp only [List.length_drop, List.length_take]; rfl)) ?_; (with_reducible refine (laws_eqRecord.calls k _ _ t174 _ _ t177 _ _ t159 _ _ t162 true _ ?side1 ?side2 ?side3 ?side4 ?side5 ?side6 ?side7 ?side8 A41.out).mono ?_); (case side1 => refine (Kd.R_reads' (e := 86) (base := w.heap.size) (ok := fun k_ => (((True ∧ some k_ ≠ (.slice Ao17 t153.length co17 : Value).ownBlock) ∧ some k_ ≠ (.slice Ao21 t159.length co21 : Value).ownBlock) ∧ some k_ ≠ (.slice Ao28 t167.length co28 : Value).ownBlock)) (n := t174.length) (c := co35) ?_).2.2; exact (rz_ (Kd.R_mono (Kd.R_far (p := ⟨gb181, 1, none⟩) (Kd.R_far (p := ⟨gb181, 0, none⟩) (Kd.R_types HO176.out BK181.out (by decide)) (fun _ hk => hk.2) (.slice Ao35 t174.length co35)) (fun _ hk => hk.2) (.slice Ao40 t177.length co40)) (fun _ h_ => h_.1)))); (case side2 => exact (Kd.R_reads' HO176.out).2.1); (case side3 => refine (Kd.R_reads' (e := 95) (base := w.heap.size) (ok := fun k_ => (((True ∧ some k_ ≠ (.slice Ao18 t156.length co18 : Value).ownBlock) ∧ some k_ ≠ (.slice Ao24 t162.length co24 : Value).ownBlock) ∧ some k_ ≠ (.slice Ao32 t170.length co32 : Value).ownBlock)) (n := t177.length) (c := co40) ?_).2.2; exact (rz_ (Kd.R_mono (Kd.R_far (p := ⟨gb181, 1, none⟩) (Kd.R_far (p := ⟨gb181, 0, none⟩) (Kd.R_types HO179.out BK181.out (by decide)) (fun _ hk => hk.2) (.slice Ao35 t174.length co35)) (fun _ hk => hk.2) (.slice Ao40 t177.length co40)) (fun _ h_ => h_.1)))); (case side4 => exact (Kd.R_reads' HO179.out).2.1); (case side5 => refine (Kd.R_reads' (e := 86) (base := w.heap.size) (ok := fun k_ => (((True ∧ some k_ ≠ (.slice Ao17 t153.length co17 : Value).ownBlock) ∧ some k_ ≠ (.slice Ao28 t167.length co28 : Value).ownBlock) ∧ some k_ ≠ (.slice Ao35 t174.length co35 : Value).ownBlock)) (n := t159.length) (c := co21) ?_).2.2; exact (rz_ (Kd.R_mono (Kd.R_far (p := ⟨gb181, 1, none⟩) (Kd.R_far (p := ⟨gb181, 0, none⟩) (Kd.R_types HO161.out BK181.out (by decide)) (fun _ hk => hk.2) (.slice Ao35 t174.length co35)) (fun _ hk => hk.2) (.slice Ao40 t177.length co40)) (fun _ h_ => h_.1)))); (case side6 => exact (Kd.R_reads' HO161.out).2.1); (case side7 => refine (Kd.R_reads' (e := 95) (base := w.heap.size) (ok := fun k_ => (((True ∧ some k_ ≠ (.slice Ao18 t156.length co18 : Value).ownBlock) ∧ some k_ ≠ (.slice Ao32 t170.length co32 : Value).ownBlock) ∧ some k_ ≠ (.slice Ao40 t177.length co40 : Value).ownBlock)) (n := t162.length) (c := co24) ?_).2.2; exact (rz_ (Kd.R_mono (Kd.R_far (p := ⟨gb181, 1, none⟩) (Kd.R_far (p := ⟨gb181, 0, none⟩) (Kd.R_types HO164.out BK181.out (by decide)) (fun _ hk => hk.2) (.slice Ao35 t174.length co35)) (fun _ hk => hk.2) (.slice Ao40 t177.length co40)) (fun _ h_ => h_.1)))); (case side8 => exact (Kd.R_reads' HO164.out).2.1); rintro e w50 ⟨rfl, hb⟩; refine ⟨_, rfl, ?_⟩; have n0_ := Aside0.mk (Kd.R_below (rz_ (Kd.R_mono (Kd.R_far (p := ⟨gb181, 1, none⟩) (Kd.R_far (p := ⟨gb181, 0, none⟩) (Kd.R_types HO155.out BK181.out (by decide)) (fun _ hk => hk.2) (.slice Ao35 t174.length co35)) (fun _ hk => hk.2) (.slice Ao40 t177.length co40)) (fun _ h_ => h_.1))) hb); have n1_ := Aside0.mk (Kd.R_below (rz_ (Kd.R_mono (Kd.R_far (p := ⟨gb181, 1, none⟩) (Kd.R_far (p := ⟨gb181, 0, none⟩) (Kd.R_types HO158.out BK181.out (by decide)) (fun _ hk => hk.2) (.slice Ao35 t174.length co35)) (fun _ hk => hk.2) (.slice Ao40 t177.length co40)) (fun _ h_ => h_.1))) hb); have n2_ := Aside0.mk (Kd.R_below (rz_ (Kd.R_mono (Kd.R_far (p := ⟨gb181, 1, none⟩) (Kd.R_far (p := ⟨gb181, 0, none⟩) (Kd.R_types HO161.out BK181.out (by decide)) (fun _ hk => hk.2) (.slice Ao35 t174.length co35)) (fun _ hk => hk.2) (.slice Ao40 t177.length co40)) (fun _ h_ => h_.1))) hb); have n3_ := Aside0.mk (Kd.R_below (rz_ (Kd.R_mono (Kd.R_far (p := ⟨gb181, 1, none⟩) (Kd.R_far (p := ⟨gb181, 0, none⟩) (Kd.R_types HO164.out BK181.out (by decide)) (fun _ hk => hk.2) (.slice Ao35 t174.length co35)) (fun _ hk => hk.2) (.slice Ao40 t177.length co40)) (fun _ h_ => h_.1))) hb); have n4_ := Aside0.mk (Kd.R_below (rz_ (Kd.R_mono (Kd.R_far (p := ⟨gb181, 1, none⟩) (Kd.R_far (p := ⟨gb181, 0, none⟩) (Kd.R_types HO169.out BK181.out (by decide)) (fun _ hk => hk.2) (.slice Ao35 t174.length co35)) (fun _ hk => hk.2) (.slice Ao40 t177.length co40)) (fun _ h_ => h_.1))) hb); have n5_ := Aside0.mk (Kd.R_below (rz_ (Kd.R_mono (Kd.R_far (p := ⟨gb181, 1, none⟩) (Kd.R_far (p := ⟨gb181, 0, none⟩) (Kd.R_types HO172.out BK181.out (by decide)) (fun _ hk => hk.2) (.slice Ao35 t174.length co35)) (fun _ hk => hk.2) (.slice Ao40 t177.length co40)) (fun _ h_ => h_.1))) hb); have n6_ := Aside0.mk (Kd.R_below (rz_ (Kd.R_mono (Kd.R_far (p := ⟨gb181, 1, none⟩) (Kd.R_far (p := ⟨gb181, 0, none⟩) (Kd.R_types HO176.out BK181.out (by decide)) (fun _ hk => hk.2) (.slice Ao35 t174.length co35)) (fun _ hk => hk.2) (.slice Ao40 t177.length co40)) (fun _ h_ => h_.1))) hb); have n7_ := Aside0.mk (Kd.R_below (rz_ (Kd.R_mono (Kd.R_far (p := ⟨gb181, 1, none⟩) (Kd.R_far (p := ⟨gb181, 0, none⟩) (Kd.R_types HO179.out BK181.out (by decide)) (fun _ hk => hk.2) (.slice Ao35 t174.length co35)) (fun _ hk => hk.2) (.slice Ao40 t177.length co40)) (fun _ h_ => h_.1))) hb); have n8_ := Aside0.mk (blk_below (g := gb151) (o := .cells #[.slice A0_0 l0_0.length c0_0, .slice A0_1 l0_1.length c0_1] 25 (0, 0)) (by (with_reducible repeat (first | refine blk_drewN ?_ _ | refine blk_drew ?_ | refine blk_alloc ?_ _)); refine blk_far ?_ NB151_181.out _; (with_reducible repeat (first | refine blk_drewN ?_ _ | refine blk_drew ?_ | refine blk_alloc ?_ _)); refine blk_far ?_ NB151_181.out _; (with_reducible repeat (first | refine blk_drewN ?_ _ | refine blk_drew ?_ | refine blk_alloc ?_ _)); exact BK151.out) hb); have n9_ := Aside0.mk (blk_below (g := gb166) (o := .cells #[.slice Ao21 t159.length co21, .slice Ao24 t162.length co24] 33 (0, 0)) (by (with_reducible repeat (first | refine blk_drewN ?_ _ | refine blk_drew ?_ | refine blk_alloc ?_ _)); refine blk_far ?_ NB166_181.out _; (with_reducible repeat (first | refine blk_drewN ?_ _ | refine blk_drew ?_ | refine blk_alloc ?_ _)); refine blk_far ?_ NB166_181.out _; (with_reducible repeat (first | refine blk_drewN ?_ _ | refine blk_drew ?_ | refine blk_alloc ?_ _)); exact BK166.out) hb); have n10_ := Aside0.mk (blk_below (g := gb173) (o := .cells #[.slice Ao28 t167.length co28, .slice Ao32 t170.length co32] 33 (0, 0)) (by (with_reducible repeat (first | refine blk_drewN ?_ _ | refine blk_drew ?_ | refine blk_alloc ?_ _)); refine blk_far ?_ NB173_181.out _; (with_reducible repeat (first | refine blk_drewN ?_ _ | refine blk_drew ?_ | refine blk_alloc ?_ _)); refine blk_far ?_ NB173_181.out _; (with_reducible repeat (first | refine blk_drewN ?_ _ | refine blk_drew ?_ | refine blk_alloc ?_ _)); exact BK173.out) hb); have n11_ := Aside0.mk (blk_below (g := gb181) (o := .cells #[.slice Ao35 t174.length co35, .slice Ao40 t177.length co40] 33 (0, 0)) (by (with_reducible repeat (first | refine blk_drewN ?_ _ | refine blk_drew ?_ | refine blk_alloc ?_ _)); refine blk_put (cs := #[.slice Ao35 t174.length co35, .slice none 0 0]) ?_ 1 _ rfl; (with_reducible repeat (first | refine blk_drewN ?_ _ | refine blk_drew ?_ | refine blk_alloc ?_ _)); refine blk_put (cs := #[.slice none 0 0, .slice none 0 0]) ?_ 0 _ rfl; (with_reducible repeat (first | refine blk_drewN ?_ _ | refine blk_drew ?_ | refine blk_alloc ?_ _)); exact BK181.out) hb); have n12_ := Aside0.mk (below_step (by repeat (first | (with_reducible first | exact HB.out | apply below_alloc | apply pw_below_drewN | apply below_drew1 | refine below_set ?_ GE151.out | refine below_set ?_ GE166.out | refine below_set ?_ GE173.out | refine below_set ?_ GE181.out) | exact HB.out)) hb); clear HO155; clear HO158; clear HO161; clear HO164; clear HO169; clear HO172; clear HO176; clear HO179; clear BK151; clear BK166; clear BK173; clear BK181; clear HB; have HO155 := n0_; have HO158 := n1_; have HO161 := n2_; have HO164 := n3_; have HO169 := n4_; have HO172 := n5_; have HO176 := n6_; have HO179 := n7_; have BK151 := n8_; have BK166 := n9_; have BK173 := n10_; have BK181 := n11_; have HB := n12_; clear n0_ n1_ n2_ n3_ n4_ n5_ n6_ n7_ n8_ n9_ n10_ n11_ n12_; (try clear hb); (try clear hb2); (try clear hk); (try clear hi)))
    go_meet
    case rel => exact ⟨_, ((t180 != t165)), (by first | rfl | (simp; done) | (simp [*]; done)), H', ⟨by first | omega | exact Nat.le_refl _⟩, ⟨rz_ (Kd.R_mono HO161.out (fun _ hk => ⟨hk.1.2, hk.2⟩))⟩, ⟨rz_ (Kd.R_mono HO164.out (fun _ hk => ⟨hk.1.2, hk.2⟩))⟩, ⟨rz_ (Kd.R_mono HO169.out (fun _ hk => ⟨hk.1.2, hk.2⟩))⟩, ⟨rz_ (Kd.R_mono HO172.out (fun _ hk => ⟨hk.1.2, hk.2⟩))⟩, ⟨rz_ (Kd.R_mono HO176.out (fun _ hk => ⟨hk.1.2, hk.2⟩))⟩, ⟨rz_ (Kd.R_mono HO179.out (fun _ hk => ⟨hk.1.2, hk.2⟩))⟩, ⟨bz_ BK151.out⟩, ⟨bz_ BK166.out⟩, ⟨bz_ BK173.out⟩, ⟨bz_ BK181.out⟩, ⟨by repeat (first | (with_reducible first | exact HB.out | apply below_alloc | apply pw_below_drewN | apply below_drew1 | refine below_set ?_ GE151.out | refine below_set ?_ GE166.out | refine below_set ?_ GE173.out | refine below_set ?_ GE181.out) | exact HB.out)⟩⟩
   ·replace c42 := Bool.eq_false_iff.mpr c42
    subst c42
    have H1 : (laws_FnExactCloseRecord.j0 k t165 t180 true l0_0 l0_1 t159 t162 t167 t170 t174 t177) = some r := by rw [if_neg (show ¬ (false = true) by decide)] at H; exact H
    clear H
    have H := H1
    clear H1
    have H' := Aside0.mk H
    clear H
    have hnb51 := NB181_151.out
    have hnc51 := NB151_181.out
    have hnb52 := NB181_166.out
    have hnc52 := NB166_181.out
    have hnb53 := NB181_173.out
    have hnc53 := NB173_181.out
    have hcz54_0 : w34.cell? ⟨gb181, 0, none⟩ = some (.slice none 0 0) := (blk_cell BK181.out 0).trans rfl
    have hcz54_1 : w34.cell? ⟨gb181, 1, none⟩ = some (.slice none 0 0) := (blk_cell BK181.out 1).trans rfl
    have hfz54_0 := blk_frozen BK181.out 0
    have hfz54_1 := blk_frozen BK181.out 1
    have hnb55 := NB166_151.out
    have hnc55 := NB151_166.out
    have hnb56 := NB166_173.out
    have hnc56 := NB173_166.out
    have hcz57_0 : w34.cell? ⟨gb166, 0, none⟩ = some (.slice Ao21 t159.length co21) := (blk_cell BK166.out 0).trans rfl
    have hcz57_1 : w34.cell? ⟨gb166, 1, none⟩ = some (.slice Ao24 t162.length co24) := (blk_cell BK166.out 1).trans rfl
    have hfz57_0 := blk_frozen BK166.out 0
    have hfz57_1 := blk_frozen BK166.out 1
    go_wp2_with (first | ((with_reducible refine gate_callee (f := 20) rfl ?_); refine goesL_ (some 34) rfl rfl Try.func20 (by kernel_rfl) rfl #[.agg #[.slice Ao35 t174.length co35, .slice Ao40 t177.length co40], .agg #[.slice Ao21 t159.length co21, .slice Ao24 t162.length co24]] rfl (by (try simp only [List.map_toArray, List.map_cons, List.map_nil]); first | done | rfl | (simp only [List.length_drop, List.length_take]; rfl)) ?_; (with_reducible refine (laws_eqRecord.calls k _ _ t174 _ _ t177 _ _ t159 _ _ t162 false _ ?side1 ?side2 ?side3 ?side4 ?side5 ?side6 ?side7 ?side8 A41.out).mono ?_); (case side1 => refine (Kd.R_reads' (e := 86) (base := w.heap.size) (ok := fun k_ => (((True ∧ some k_ ≠ (.slice Ao17 t153.length co17 : Value).ownBlock) ∧ some k_ ≠ (.slice Ao21 t159.length co21 : Value).ownBlock) ∧ some k_ ≠ (.slice Ao28 t167.length co28 : Value).ownBlock)) (n := t174.length) (c := co35) ?_).2.2; exact (rz_ (Kd.R_mono (Kd.R_far (p := ⟨gb181, 1, none⟩) (Kd.R_far (p := ⟨gb181, 0, none⟩) (Kd.R_types HO176.out BK181.out (by decide)) (fun _ hk => hk.2) (.slice Ao35 t174.length co35)) (fun _ hk => hk.2) (.slice Ao40 t177.length co40)) (fun _ h_ => h_.1)))); (case side2 => exact (Kd.R_reads' HO176.out).2.1); (case side3 => refine (Kd.R_reads' (e := 95) (base := w.heap.size) (ok := fun k_ => (((True ∧ some k_ ≠ (.slice Ao18 t156.length co18 : Value).ownBlock) ∧ some k_ ≠ (.slice Ao24 t162.length co24 : Value).ownBlock) ∧ some k_ ≠ (.slice Ao32 t170.length co32 : Value).ownBlock)) (n := t177.length) (c := co40) ?_).2.2; exact (rz_ (Kd.R_mono (Kd.R_far (p := ⟨gb181, 1, none⟩) (Kd.R_far (p := ⟨gb181, 0, none⟩) (Kd.R_types HO179.out BK181.out (by decide)) (fun _ hk => hk.2) (.slice Ao35 t174.length co35)) (fun _ hk => hk.2) (.slice Ao40 t177.length co40)) (fun _ h_ => h_.1)))); (case side4 => exact (Kd.R_reads' HO179.out).2.1); (case side5 => refine (Kd.R_reads' (e := 86) (base := w.heap.size) (ok := fun k_ => (((True ∧ some k_ ≠ (.slice Ao17 t153.length co17 : Value).ownBlock) ∧ some k_ ≠ (.slice Ao28 t167.length co28 : Value).ownBlock) ∧ some k_ ≠ (.slice Ao35 t174.length co35 : Value).ownBlock)) (n := t159.length) (c := co21) ?_).2.2; exact (rz_ (Kd.R_mono (Kd.R_far (p := ⟨gb181, 1, none⟩) (Kd.R_far (p := ⟨gb181, 0, none⟩) (Kd.R_types HO161.out BK181.out (by decide)) (fun _ hk => hk.2) (.slice Ao35 t174.length co35)) (fun _ hk => hk.2) (.slice Ao40 t177.length co40)) (fun _ h_ => h_.1)))); (case side6 => exact (Kd.R_reads' HO161.out).2.1); (case side7 => refine (Kd.R_reads' (e := 95) (base := w.heap.size) (ok := fun k_ => (((True ∧ some k_ ≠ (.slice Ao18 t156.length co18 : Value).ownBlock) ∧ some k_ ≠ (.slice Ao32 t170.length co32 : Value).ownBlock) ∧ some k_ ≠ (.slice Ao40 t177.length co40 : Value).ownBlock)) (n := t162.length) (c := co24) ?_).2.2; exact (rz_ (Kd.R_mono (Kd.R_far (p := ⟨gb181, 1, none⟩) (Kd.R_far (p := ⟨gb181, 0, none⟩) (Kd.R_types HO164.out BK181.out (by decide)) (fun _ hk => hk.2) (.slice Ao35 t174.length co35)) (fun _ hk => hk.2) (.slice Ao40 t177.length co40)) (fun _ h_ => h_.1)))); (case side8 => exact (Kd.R_reads' HO164.out).2.1); rintro e w58 ⟨rfl, hb⟩; refine ⟨_, rfl, ?_⟩; have n0_ := Aside0.mk (Kd.R_below (rz_ (Kd.R_mono (Kd.R_far (p := ⟨gb181, 1, none⟩) (Kd.R_far (p := ⟨gb181, 0, none⟩) (Kd.R_types HO155.out BK181.out (by decide)) (fun _ hk => hk.2) (.slice Ao35 t174.length co35)) (fun _ hk => hk.2) (.slice Ao40 t177.length co40)) (fun _ h_ => h_.1))) hb); have n1_ := Aside0.mk (Kd.R_below (rz_ (Kd.R_mono (Kd.R_far (p := ⟨gb181, 1, none⟩) (Kd.R_far (p := ⟨gb181, 0, none⟩) (Kd.R_types HO158.out BK181.out (by decide)) (fun _ hk => hk.2) (.slice Ao35 t174.length co35)) (fun _ hk => hk.2) (.slice Ao40 t177.length co40)) (fun _ h_ => h_.1))) hb); have n2_ := Aside0.mk (Kd.R_below (rz_ (Kd.R_mono (Kd.R_far (p := ⟨gb181, 1, none⟩) (Kd.R_far (p := ⟨gb181, 0, none⟩) (Kd.R_types HO161.out BK181.out (by decide)) (fun _ hk => hk.2) (.slice Ao35 t174.length co35)) (fun _ hk => hk.2) (.slice Ao40 t177.length co40)) (fun _ h_ => h_.1))) hb); have n3_ := Aside0.mk (Kd.R_below (rz_ (Kd.R_mono (Kd.R_far (p := ⟨gb181, 1, none⟩) (Kd.R_far (p := ⟨gb181, 0, none⟩) (Kd.R_types HO164.out BK181.out (by decide)) (fun _ hk => hk.2) (.slice Ao35 t174.length co35)) (fun _ hk => hk.2) (.slice Ao40 t177.length co40)) (fun _ h_ => h_.1))) hb); have n4_ := Aside0.mk (Kd.R_below (rz_ (Kd.R_mono (Kd.R_far (p := ⟨gb181, 1, none⟩) (Kd.R_far (p := ⟨gb181, 0, none⟩) (Kd.R_types HO169.out BK181.out (by decide)) (fun _ hk => hk.2) (.slice Ao35 t174.length co35)) (fun _ hk => hk.2) (.slice Ao40 t177.length co40)) (fun _ h_ => h_.1))) hb); have n5_ := Aside0.mk (Kd.R_below (rz_ (Kd.R_mono (Kd.R_far (p := ⟨gb181, 1, none⟩) (Kd.R_far (p := ⟨gb181, 0, none⟩) (Kd.R_types HO172.out BK181.out (by decide)) (fun _ hk => hk.2) (.slice Ao35 t174.length co35)) (fun _ hk => hk.2) (.slice Ao40 t177.length co40)) (fun _ h_ => h_.1))) hb); have n6_ := Aside0.mk (Kd.R_below (rz_ (Kd.R_mono (Kd.R_far (p := ⟨gb181, 1, none⟩) (Kd.R_far (p := ⟨gb181, 0, none⟩) (Kd.R_types HO176.out BK181.out (by decide)) (fun _ hk => hk.2) (.slice Ao35 t174.length co35)) (fun _ hk => hk.2) (.slice Ao40 t177.length co40)) (fun _ h_ => h_.1))) hb); have n7_ := Aside0.mk (Kd.R_below (rz_ (Kd.R_mono (Kd.R_far (p := ⟨gb181, 1, none⟩) (Kd.R_far (p := ⟨gb181, 0, none⟩) (Kd.R_types HO179.out BK181.out (by decide)) (fun _ hk => hk.2) (.slice Ao35 t174.length co35)) (fun _ hk => hk.2) (.slice Ao40 t177.length co40)) (fun _ h_ => h_.1))) hb); have n8_ := Aside0.mk (blk_below (g := gb151) (o := .cells #[.slice A0_0 l0_0.length c0_0, .slice A0_1 l0_1.length c0_1] 25 (0, 0)) (by (with_reducible repeat (first | refine blk_drewN ?_ _ | refine blk_drew ?_ | refine blk_alloc ?_ _)); refine blk_far ?_ NB151_181.out _; (with_reducible repeat (first | refine blk_drewN ?_ _ | refine blk_drew ?_ | refine blk_alloc ?_ _)); refine blk_far ?_ NB151_181.out _; (with_reducible repeat (first | refine blk_drewN ?_ _ | refine blk_drew ?_ | refine blk_alloc ?_ _)); exact BK151.out) hb); have n9_ := Aside0.mk (blk_below (g := gb166) (o := .cells #[.slice Ao21 t159.length co21, .slice Ao24 t162.length co24] 33 (0, 0)) (by (with_reducible repeat (first | refine blk_drewN ?_ _ | refine blk_drew ?_ | refine blk_alloc ?_ _)); refine blk_far ?_ NB166_181.out _; (with_reducible repeat (first | refine blk_drewN ?_ _ | refine blk_drew ?_ | refine blk_alloc ?_ _)); refine blk_far ?_ NB166_181.out _; (with_reducible repeat (first | refine blk_drewN ?_ _ | refine blk_drew ?_ | refine blk_alloc ?_ _)); exact BK166.out) hb); have n10_ := Aside0.mk (blk_below (g := gb173) (o := .cells #[.slice Ao28 t167.length co28, .slice Ao32 t170.length co32] 33 (0, 0)) (by (with_reducible repeat (first | refine blk_drewN ?_ _ | refine blk_drew ?_ | refine blk_alloc ?_ _)); refine blk_far ?_ NB173_181.out _; (with_reducible repeat (first | refine blk_drewN ?_ _ | refine blk_drew ?_ | refine blk_alloc ?_ _)); refine blk_far ?_ NB173_181.out _; (with_reducible repeat (first | refine blk_drewN ?_ _ | refine blk_drew ?_ | refine blk_alloc ?_ _)); exact BK173.out) hb); have n11_ := Aside0.mk (blk_below (g := gb181) (o := .cells #[.slice Ao35 t174.length co35, .slice Ao40 t177.length co40] 33 (0, 0)) (by (with_reducible repeat (first | refine blk_drewN ?_ _ | refine blk_drew ?_ | refine blk_alloc ?_ _)); refine blk_put (cs := #[.slice Ao35 t174.length co35, .slice none 0 0]) ?_ 1 _ rfl; (with_reducible repeat (first | refine blk_drewN ?_ _ | refine blk_drew ?_ | refine blk_alloc ?_ _)); refine blk_put (cs := #[.slice none 0 0, .slice none 0 0]) ?_ 0 _ rfl; (with_reducible repeat (first | refine blk_drewN ?_ _ | refine blk_drew ?_ | refine blk_alloc ?_ _)); exact BK181.out) hb); have n12_ := Aside0.mk (below_step (by repeat (first | (with_reducible first | exact HB.out | apply below_alloc | apply pw_below_drewN | apply below_drew1 | refine below_set ?_ GE151.out | refine below_set ?_ GE166.out | refine below_set ?_ GE173.out | refine below_set ?_ GE181.out) | exact HB.out)) hb); clear HO155; clear HO158; clear HO161; clear HO164; clear HO169; clear HO172; clear HO176; clear HO179; clear BK151; clear BK166; clear BK173; clear BK181; clear HB; have HO155 := n0_; have HO158 := n1_; have HO161 := n2_; have HO164 := n3_; have HO169 := n4_; have HO172 := n5_; have HO176 := n6_; have HO179 := n7_; have BK151 := n8_; have BK166 := n9_; have BK173 := n10_; have BK181 := n11_; have HB := n12_; clear n0_ n1_ n2_ n3_ n4_ n5_ n6_ n7_ n8_ n9_ n10_ n11_ n12_; (try clear hb); (try clear hb2); (try clear hk); (try clear hi)))
    go_meet
    case rel => exact ⟨_, (true), (by first | rfl | (simp; done) | (simp [*]; done)), H', ⟨by first | omega | exact Nat.le_refl _⟩, ⟨rz_ (Kd.R_mono HO161.out (fun _ hk => ⟨hk.1.2, hk.2⟩))⟩, ⟨rz_ (Kd.R_mono HO164.out (fun _ hk => ⟨hk.1.2, hk.2⟩))⟩, ⟨rz_ (Kd.R_mono HO169.out (fun _ hk => ⟨hk.1.2, hk.2⟩))⟩, ⟨rz_ (Kd.R_mono HO172.out (fun _ hk => ⟨hk.1.2, hk.2⟩))⟩, ⟨rz_ (Kd.R_mono HO176.out (fun _ hk => ⟨hk.1.2, hk.2⟩))⟩, ⟨rz_ (Kd.R_mono HO179.out (fun _ hk => ⟨hk.1.2, hk.2⟩))⟩, ⟨bz_ BK151.out⟩, ⟨bz_ BK166.out⟩, ⟨bz_ BK173.out⟩, ⟨bz_ BK181.out⟩, ⟨by repeat (first | (with_reducible first | exact HB.out | apply below_alloc | apply pw_below_drewN | apply below_drew1 | refine below_set ?_ GE151.out | refine below_set ?_ GE166.out | refine below_set ?_ GE173.out | refine below_set ?_ GE181.out) | exact HB.out)⟩⟩
  case rest =>
   clear HC11
   try clear c1
   try clear c2
   try clear p2
   try clear c3
   try clear c3b0
   try clear c4
   try clear c5
   try clear c15
   try clear c17
   try clear c20
   try clear c22
   try clear c29
   try clear c30
   try clear c36
   try clear c37
   try clear c38
   try clear c42
   try clear c43
   try clear c44
   try clear c45
   try clear c47
   try clear c48
   try clear c51
   try clear c52
   try clear c53
   try clear c55
   try clear c56
   try clear hcz13_0
   try clear hcz13_1
   try clear hcz15_0
   try clear hcz15_1
   try clear hcz23_0
   try clear hcz23_1
   try clear hcz25_0
   try clear hcz25_1
   try clear hcz31_0
   try clear hcz31_1
   try clear hcz39_0
   try clear hcz39_1
   try clear hcz46_0
   try clear hcz46_1
   try clear hcz49_0
   try clear hcz49_1
   try clear hcz54_0
   try clear hcz54_1
   try clear hcz57_0
   try clear hcz57_1
   try clear hcz5_0
   try clear hcz5_1
   try clear hfz13_0
   try clear hfz13_1
   try clear hfz15_0
   try clear hfz15_1
   try clear hfz23_0
   try clear hfz23_1
   try clear hfz25_0
   try clear hfz25_1
   try clear hfz31_0
   try clear hfz31_1
   try clear hfz39_0
   try clear hfz39_1
   try clear hfz46_0
   try clear hfz46_1
   try clear hfz49_0
   try clear hfz49_1
   try clear hfz54_0
   try clear hfz54_1
   try clear hfz57_0
   try clear hfz57_1
   try clear hfz5_0
   try clear hfz5_1
   obtain ⟨kq, x40_10, rfl, HA, HJ10, HO_167000, HO_167001, HO_174000, HO_174001, HO_182000, HO_182001, BK151, BK166, BK173, BK181, HB⟩ := hcut
   cases kq with
   | zero => exact absurd HA.out (by simp [laws_FnExactCloseRecord.j0])
   | succ kj10 =>
    have H := HA.out
    clear HA
    simp only [laws_FnExactCloseRecord.j0] at H
    by_cases c59 : x40_10 = true
    ·subst c59
     have H1 : (some false) = some r := by rw [if_pos rfl] at H; exact H
     clear H
     have H := H1
     clear H1
     obtain rfl := Option.some.inj H
     go_wp2
     go_ret
     exact ⟨by first | rfl | (simp [errW_none, errW_some] <;> rfl) | (simp [*, errW_none, errW_some] <;> rfl), by repeat (first | (with_reducible first | exact HB.out | apply below_alloc | apply pw_below_drewN | apply below_drew1 | refine below_set ?_ GE151.out | refine below_set ?_ GE166.out | refine below_set ?_ GE173.out | refine below_set ?_ GE181.out) | exact HB.out)⟩
    ·replace c59 := Bool.eq_false_iff.mpr c59
     subst c59
     have H1 : ((laws_toRecord.f kj10 l0_0 l0_1).bind fun bt183 => ((laws_eqRecord.f kj10 t167 t170 bt183.1 bt183.2).bind fun t189 => (if t189 = true then ((laws_markRecord.f kj10 t167 t170 1).bind fun bt190 => (if bt190.1 < 0 then (laws_FnExactCloseRecord.j1 kj10 t165 true l0_0 l0_1 t159 t162 t174 t177) else ((laws_eqRecord.f kj10 t174 t177 t159 t162).bind fun t193 => (if t193 = true then (laws_FnExactCloseRecord.j1 kj10 t165 (t180 != t165) l0_0 l0_1 t159 t162 t174 t177) else (laws_FnExactCloseRecord.j1 kj10 t165 true l0_0 l0_1 t159 t162 t174 t177))))) else (some false)))) = some r := by rw [if_neg (show ¬ (false = true) by decide)] at H; exact H
     clear H
     have H := H1
     clear H1
     replace H := Option.bind_eq_some_iff.mp H
     obtain ⟨⟨t183, t186⟩, A600, H⟩ := H
     replace H : ((laws_eqRecord.f kj10 t167 t170 t183 t186).bind fun t189 => (if t189 = true then ((laws_markRecord.f kj10 t167 t170 1).bind fun bt190 => (if bt190.1 < 0 then (laws_FnExactCloseRecord.j1 kj10 t165 true l0_0 l0_1 t159 t162 t174 t177) else ((laws_eqRecord.f kj10 t174 t177 t159 t162).bind fun t193 => (if t193 = true then (laws_FnExactCloseRecord.j1 kj10 t165 (t180 != t165) l0_0 l0_1 t159 t162 t174 t177) else (laws_FnExactCloseRecord.j1 kj10 t165 true l0_0 l0_1 t159 t162 t174 t177))))) else (some false))) = some r := H
     have A60 := Aside0.mk A600
     clear A600
     replace H := Option.bind_eq_some_iff.mp H
     obtain ⟨t189, A610, H⟩ := H
     replace H : (if t189 = true then ((laws_markRecord.f kj10 t167 t170 1).bind fun bt190 => (if bt190.1 < 0 then (laws_FnExactCloseRecord.j1 kj10 t165 true l0_0 l0_1 t159 t162 t174 t177) else ((laws_eqRecord.f kj10 t174 t177 t159 t162).bind fun t193 => (if t193 = true then (laws_FnExactCloseRecord.j1 kj10 t165 (t180 != t165) l0_0 l0_1 t159 t162 t174 t177) else (laws_FnExactCloseRecord.j1 kj10 t165 true l0_0 l0_1 t159 t162 t174 t177))))) else (some false)) = some r := H
     have A61 := Aside0.mk A610
     clear A610
     by_cases c62 : t189 = true
     ·subst c62
      have H1 : ((laws_markRecord.f kj10 t167 t170 1).bind fun bt190 => (if bt190.1 < 0 then (laws_FnExactCloseRecord.j1 kj10 t165 true l0_0 l0_1 t159 t162 t174 t177) else ((laws_eqRecord.f kj10 t174 t177 t159 t162).bind fun t193 => (if t193 = true then (laws_FnExactCloseRecord.j1 kj10 t165 (t180 != t165) l0_0 l0_1 t159 t162 t174 t177) else (laws_FnExactCloseRecord.j1 kj10 t165 true l0_0 l0_1 t159 t162 t174 t177))))) = some r := by rw [if_pos rfl] at H; exact H
      clear H
      have H := H1
      clear H1
      replace H := Option.bind_eq_some_iff.mp H
      obtain ⟨⟨t190, t191, t192⟩, A630, H⟩ := H
      replace H : (if t190 < 0 then (laws_FnExactCloseRecord.j1 kj10 t165 true l0_0 l0_1 t159 t162 t174 t177) else ((laws_eqRecord.f kj10 t174 t177 t159 t162).bind fun t193 => (if t193 = true then (laws_FnExactCloseRecord.j1 kj10 t165 (t180 != t165) l0_0 l0_1 t159 t162 t174 t177) else (laws_FnExactCloseRecord.j1 kj10 t165 true l0_0 l0_1 t159 t162 t174 t177)))) = some r := H
      have A63 := Aside0.mk A630
      clear A630
      have HC64 := Aside0.mk H
      clear H
      try go_wp2
      have n0_ := Aside0.mk (Kd.R_drew HO_167000.out)
      have n1_ := Aside0.mk (Kd.R_drew HO_167001.out)
      have n2_ := Aside0.mk (Kd.R_drew HO_174000.out)
      have n3_ := Aside0.mk (Kd.R_drew HO_174001.out)
      have n4_ := Aside0.mk (Kd.R_drew HO_182000.out)
      have n5_ := Aside0.mk (Kd.R_drew HO_182001.out)
      have n6_ := Aside0.mk (blk_drew BK151.out)
      have n7_ := Aside0.mk (blk_drew BK166.out)
      have n8_ := Aside0.mk (blk_drew BK173.out)
      have n9_ := Aside0.mk (blk_drew BK181.out)
      have n10_ := Aside0.mk (below_drew1 HB.out)
      clear HO_167000
      clear HO_167001
      clear HO_174000
      clear HO_174001
      clear HO_182000
      clear HO_182001
      clear BK151
      clear BK166
      clear BK173
      clear BK181
      clear HB
      have HO_167000 := n0_
      have HO_167001 := n1_
      have HO_174000 := n2_
      have HO_174001 := n3_
      have HO_182000 := n4_
      have HO_182001 := n5_
      have BK151 := n6_
      have BK166 := n7_
      have BK173 := n8_
      have BK181 := n9_
      have HB := n10_
      clear n0_ n1_ n2_ n3_ n4_ n5_ n6_ n7_ n8_ n9_ n10_
      refine start_ (n := 5) (S := fun w' => w'.cell? ⟨gb173, 0, none⟩ = some (.slice Ao28 t167.length co28) ∧ w'.cell? ⟨gb173, 1, none⟩ = some (.slice Ao32 t170.length co32) ∧ w'.cell? ⟨gb151, 0, none⟩ = some (.slice A0_0 l0_0.length c0_0) ∧ w'.cell? ⟨gb151, 1, none⟩ = some (.slice A0_1 l0_1.length c0_1)) (ds := []) #[false, false, false, false, false] (by kernel_rfl) rfl rfl ⟨(blk_cell BK173.out 0).trans rfl, (blk_cell BK173.out 1).trans rfl, (blk_cell BK151.out 0).trans rfl, (blk_cell BK151.out 1).trans rfl⟩ (fun hHeld => ?_)
      generalize wc.drew = w65 at HO_167000 HO_167001 HO_174000 HO_174001 HO_182000 HO_182001 BK151 BK166 BK173 BK181 HB hHeld ⊢
      refine take_ (i := 0) (N := some 41) (v := ?_) (a' := ?_) #[true, false, false, false, false] rfl rfl (by kernel_rfl) (fun _ _ _ h => h) (Or.inl ⟨by rfl, ?_⟩) hHeld ?_ ?_
      rotate_left
      ·rintro w' ⟨s0, s1, s2, s3⟩
       go_simp
       with_reducible rfl
      rotate_left
      ·simp only [Act.put, List.setIfInBounds_toArray, List.set_cons_zero, List.set_cons_succ, i64_w, i32_w]
       rfl
      refine take_ (i := 1) (N := some 42) (v := ?_) (a' := ?_) #[true, true, false, false, false] rfl rfl (by kernel_rfl) (fun _ _ _ h => h) (Or.inl ⟨by rfl, ?_⟩) hHeld ?_ ?_
      rotate_left
      ·rintro w' ⟨s0, s1, s2, s3⟩
       go_simp
       with_reducible rfl
      rotate_left
      ·simp only [Act.put, List.setIfInBounds_toArray, List.set_cons_zero, List.set_cons_succ, i64_w, i32_w]
       rfl
      refine one_ (i := 2) (N := some 43) (bl 3 5) rfl rfl (by kernel_rfl) (by decide) (fun K hK => ?_)
      refine goes_ Try.func17 (by kernel_rfl) rfl #[.agg #[.slice A0_0 l0_0.length c0_0, .slice A0_1 l0_1.length c0_1]] (by rfl) rfl rfl (by (try simp only [List.map_toArray, List.map_cons, List.map_nil]); first | done | rfl | (simp only [List.length_drop, List.length_take]; rfl)) ?_
      with_reducible refine (laws_toRecord.calls kj10 _ _ l0_0 _ _ l0_1 t183 t186 _ ?side1 ?side2 ?side3 ?side4 A60.out).mono ?_
      (case side1 => exact cz_ (Kd.C_below HR0_0.out HB.out))
      (case side2 => exact HC0_0.out)
      (case side3 => exact cz_ (Kd.C_below HR0_1.out HB.out))
      (case side4 => exact HC0_1.out)
      rintro e w66 ⟨v184, v187, rfl, ho0, ho1, hb⟩
      refine ⟨_, rfl, ?_⟩
      have n0_ := Aside0.mk (Kd.R_elder' (rz_ HO_167000.out) (Kd.R_base ho0) hb)
      have n1_ := Aside0.mk (Kd.R_elder' (rz_ HO_167001.out) (Kd.R_base ho1) hb)
      have n2_ := Aside0.mk (Kd.R_elder' (rz_ HO_174000.out) (Kd.R_base ho0) hb)
      have n3_ := Aside0.mk (Kd.R_elder' (rz_ HO_174001.out) (Kd.R_base ho1) hb)
      have n4_ := Aside0.mk (Kd.R_elder' (rz_ HO_182000.out) (Kd.R_base ho0) hb)
      have n5_ := Aside0.mk (Kd.R_elder' (rz_ HO_182001.out) (Kd.R_base ho1) hb)
      have n6_ := Aside0.mk (Kd.R_lower (Kd.R_new' (Kd.R_new' (Kd.R_new' ho0 (Kd.R_lt (rz_ HO_167000.out))) (Kd.R_lt (rz_ HO_174000.out))) (Kd.R_lt (rz_ HO_182000.out))) (below_size (by repeat (first | (with_reducible first | exact HB.out | apply below_alloc | apply pw_below_drewN | apply below_drew1 | refine below_set ?_ GE151.out | refine below_set ?_ GE166.out | refine below_set ?_ GE173.out | refine below_set ?_ GE181.out) | exact HB.out))))
      have n7_ := Aside0.mk (Kd.R_lower (Kd.R_new' (Kd.R_new' (Kd.R_new' ho1 (Kd.R_lt (rz_ HO_167001.out))) (Kd.R_lt (rz_ HO_174001.out))) (Kd.R_lt (rz_ HO_182001.out))) (below_size (by repeat (first | (with_reducible first | exact HB.out | apply below_alloc | apply pw_below_drewN | apply below_drew1 | refine below_set ?_ GE151.out | refine below_set ?_ GE166.out | refine below_set ?_ GE173.out | refine below_set ?_ GE181.out) | exact HB.out))))
      have n8_ := Aside0.mk (blk_below (bz_ BK151.out) hb)
      have n9_ := Aside0.mk (blk_below (bz_ BK166.out) hb)
      have n10_ := Aside0.mk (blk_below (bz_ BK173.out) hb)
      have n11_ := Aside0.mk (blk_below (bz_ BK181.out) hb)
      have n12_ := Aside0.mk (below_step (by repeat (first | (with_reducible first | exact HB.out | apply below_alloc | apply pw_below_drewN | apply below_drew1 | refine below_set ?_ GE151.out | refine below_set ?_ GE166.out | refine below_set ?_ GE173.out | refine below_set ?_ GE181.out) | exact HB.out)) hb)
      clear HO_167000
      clear HO_167001
      clear HO_174000
      clear HO_174001
      clear HO_182000
      clear HO_182001
      clear BK151
      clear BK166
      clear BK173
      clear BK181
      clear HB
      have HO_167000 := n0_
      have HO_167001 := n1_
      have HO_174000 := n2_
      have HO_174001 := n3_
      have HO_182000 := n4_
      have HO_182001 := n5_
      have HO185 := n6_
      have HO188 := n7_
      have BK151 := n8_
      have BK166 := n9_
      have BK173 := n10_
      have BK181 := n11_
      have HB := n12_
      clear n0_ n1_ n2_ n3_ n4_ n5_ n6_ n7_ n8_ n9_ n10_ n11_ n12_
      (try clear hb)
      (try clear hb2)
      (try clear hk)
      (try clear hi)
      (try clear ho0)
      (try clear ho1)
      obtain ⟨Ao67, co67, eo67⟩ := Kd.R_slice HO185.out
      (first | subst eo67 | (injection eo67 with f1_ f2_ f3_; have f4_ := f1_.symm; have f5_ := f3_.symm; clear f1_ f2_ f3_; subst f4_; subst f5_))
      obtain ⟨Ao68, co68, eo68⟩ := Kd.R_slice HO188.out
      (first | subst eo68 | (injection eo68 with f1_ f2_ f3_; have f4_ := f1_.symm; have f5_ := f3_.symm; clear f1_ f2_ f3_; subst f4_; subst f5_))
      refine hK.out _ _ ⟨(blk_cell BK173.out 0).trans rfl, (blk_cell BK173.out 1).trans rfl, (blk_cell BK151.out 0).trans rfl, (blk_cell BK151.out 1).trans rfl⟩ (fun hHeld => ?_)
      clear hK K
      refine norm_ (a' := ?_) ?_ ?_
      rotate_left
      ·show Act.put _ (some 43) _ = _
       simp only [Act.put, List.setIfInBounds_toArray, List.set_cons_zero, List.set_cons_succ, i64_w, i32_w]
       rfl
      refine one_ (i := 3) (N := some 44) (bl 4 5) rfl rfl (by kernel_rfl) (by decide) (fun K hK => ?_)
      refine goes_ Try.func20 (by kernel_rfl) rfl #[.agg #[.slice Ao28 t167.length co28, .slice Ao32 t170.length co32], .agg #[.slice Ao67 t183.length co67, .slice Ao68 t186.length co68]] (by rfl) rfl rfl (by (try simp only [List.map_toArray, List.map_cons, List.map_nil]); first | done | rfl | (simp only [List.length_drop, List.length_take]; rfl)) ?_
      with_reducible refine (laws_eqRecord.calls kj10 _ _ t167 _ _ t170 _ _ t183 _ _ t186 true _ ?side1 ?side2 ?side3 ?side4 ?side5 ?side6 ?side7 ?side8 A61.out).mono ?_
      (case side1 => exact cz_ (Kd.R_reads' HO_174000.out).2.2)
      (case side2 => exact (Kd.R_reads' HO_174000.out).2.1)
      (case side3 => exact cz_ (Kd.R_reads' HO_174001.out).2.2)
      (case side4 => exact (Kd.R_reads' HO_174001.out).2.1)
      (case side5 => exact cz_ (Kd.R_reads' HO185.out).2.2)
      (case side6 => exact (Kd.R_reads' HO185.out).2.1)
      (case side7 => exact cz_ (Kd.R_reads' HO188.out).2.2)
      (case side8 => exact (Kd.R_reads' HO188.out).2.1)
      rintro e w69 ⟨rfl, hb⟩
      refine ⟨_, rfl, ?_⟩
      have n0_ := Aside0.mk (Kd.R_below (rz_ HO_167000.out) hb)
      have n1_ := Aside0.mk (Kd.R_below (rz_ HO_167001.out) hb)
      have n2_ := Aside0.mk (Kd.R_below (rz_ HO_174000.out) hb)
      have n3_ := Aside0.mk (Kd.R_below (rz_ HO_174001.out) hb)
      have n4_ := Aside0.mk (Kd.R_below (rz_ HO_182000.out) hb)
      have n5_ := Aside0.mk (Kd.R_below (rz_ HO_182001.out) hb)
      have n6_ := Aside0.mk (Kd.R_below (rz_ HO185.out) hb)
      have n7_ := Aside0.mk (Kd.R_below (rz_ HO188.out) hb)
      have n8_ := Aside0.mk (blk_below (bz_ BK151.out) hb)
      have n9_ := Aside0.mk (blk_below (bz_ BK166.out) hb)
      have n10_ := Aside0.mk (blk_below (bz_ BK173.out) hb)
      have n11_ := Aside0.mk (blk_below (bz_ BK181.out) hb)
      have n12_ := Aside0.mk (below_step (by repeat (first | (with_reducible first | exact HB.out | apply below_alloc | apply pw_below_drewN | apply below_drew1 | refine below_set ?_ GE151.out | refine below_set ?_ GE166.out | refine below_set ?_ GE173.out | refine below_set ?_ GE181.out) | exact HB.out)) hb)
      clear HO_167000
      clear HO_167001
      clear HO_174000
      clear HO_174001
      clear HO_182000
      clear HO_182001
      clear HO185
      clear HO188
      clear BK151
      clear BK166
      clear BK173
      clear BK181
      clear HB
      have HO_167000 := n0_
      have HO_167001 := n1_
      have HO_174000 := n2_
      have HO_174001 := n3_
      have HO_182000 := n4_
      have HO_182001 := n5_
      have HO185 := n6_
      have HO188 := n7_
      have BK151 := n8_
      have BK166 := n9_
      have BK173 := n10_
      have BK181 := n11_
      have HB := n12_
      clear n0_ n1_ n2_ n3_ n4_ n5_ n6_ n7_ n8_ n9_ n10_ n11_ n12_
      (try clear hb)
      (try clear hb2)
      (try clear hk)
      (try clear hi)
      refine hK.out _ _ ⟨(blk_cell BK173.out 0).trans rfl, (blk_cell BK173.out 1).trans rfl, (blk_cell BK151.out 0).trans rfl, (blk_cell BK151.out 1).trans rfl⟩ (fun hHeld => ?_)
      clear hK K
      refine norm_ (a' := ?_) ?_ ?_
      rotate_left
      ·show Act.put _ (some 44) _ = _
       simp only [Act.put, List.setIfInBounds_toArray, List.set_cons_zero, List.set_cons_succ, i64_w, i32_w]
       rfl
      refine pure_ (i := 4) (N := some 45) (v := ?_) (a' := ?_) #[true, true, true, true, true] rfl rfl (by kernel_rfl) (fun _ _ _ h => h) (Or.inl ⟨by rfl, ?_⟩) ?_ ?_
      rotate_left
      ·intro w'
       go_simp
       with_reducible rfl
      rotate_left
      ·simp only [Act.put, List.setIfInBounds_toArray, List.set_cons_zero, List.set_cons_succ, i64_w, i32_w]
       rfl
      refine done_ (by kernel_rfl) ?_
      have hnb70 := NB173_151.out
      have hnc70 := NB151_173.out
      have hnb71 := NB173_166.out
      have hnc71 := NB166_173.out
      have hnb72 := NB173_181.out
      have hnc72 := NB181_173.out
      have hcz73_0 : w69.cell? ⟨gb173, 0, none⟩ = some (.slice Ao28 t167.length co28) := (blk_cell BK173.out 0).trans rfl
      have hcz73_1 : w69.cell? ⟨gb173, 1, none⟩ = some (.slice Ao32 t170.length co32) := (blk_cell BK173.out 1).trans rfl
      have hfz73_0 := blk_frozen BK173.out 0
      have hfz73_1 := blk_frozen BK173.out 1
      go_upto_region 14 with (first | ((with_reducible refine gate_callee (f := 21) rfl ?_); refine goesL_ (some 48) rfl rfl Try.func21 (by kernel_rfl) rfl #[.agg #[.slice Ao28 t167.length co28, .slice Ao32 t170.length co32], .int .i64 1] rfl (by (try simp only [List.map_toArray, List.map_cons, List.map_nil]); first | done | rfl | (simp only [List.length_drop, List.length_take]; rfl)) ?_; (with_reducible refine (laws_markRecord.calls kj10 (fun k_ => some k_ = (.slice Ao28 t167.length co28 : Value).ownBlock) (.slice Ao28 t167.length co28) t167 (fun k_ => some k_ = (.slice Ao32 t170.length co32 : Value).ownBlock) (.slice Ao32 t170.length co32) t170 1 t190 t191 t192 w _ ?side1 ?side2 ?side3 A63.out).mono ?_); (case side1 => repeat (first | (with_reducible first | exact HB.out | apply below_alloc | apply pw_below_drewN | apply below_drew1 | refine below_set ?_ GE151.out | refine below_set ?_ GE166.out | refine below_set ?_ GE173.out | refine below_set ?_ GE181.out) | exact HB.out)); (case side2 => exact Kd.R_tight rfl HO_174000.out); (case side3 => exact Kd.R_tight rfl HO_174001.out); rintro e w74 ⟨rfl, hy0, hy1, hb, hkp⟩; refine ⟨_, rfl, ?_⟩; have n0_ := Aside0.mk (Kd.R_mono (ok' := fun k_ => some k_ ≠ (.slice Ao28 t167.length co28 : Value).ownBlock ∧ some k_ ≠ (.slice Ao35 t174.length co35 : Value).ownBlock ∧ some k_ ≠ (.slice Ao67 t183.length co67 : Value).ownBlock) (Kd.R_keptB ((Kd.R_apart' HO_167000.out (Kd.R_typed HO_174001.out) (by decide))) hkp (fun k_ hk_ hs_ => Or.elim hs_ (fun e_ => (hk_.1.1.1) e_) (fun e_ => (hk_.2) e_))) (fun k_ hk_ => ⟨hk_.1.1.1.1, hk_.1.1.1.2, hk_.1.1.2⟩)); have n1_ := Aside0.mk (Kd.R_mono (ok' := fun k_ => some k_ ≠ (.slice Ao32 t170.length co32 : Value).ownBlock ∧ some k_ ≠ (.slice Ao40 t177.length co40 : Value).ownBlock ∧ some k_ ≠ (.slice Ao68 t186.length co68 : Value).ownBlock) (Kd.R_keptB ((Kd.R_apart' HO_167001.out (Kd.R_typed HO_174000.out) (by decide))) hkp (fun k_ hk_ hs_ => Or.elim hs_ (fun e_ => (hk_.2) e_) (fun e_ => (hk_.1.1.1) e_))) (fun k_ hk_ => ⟨hk_.1.1.1.1, hk_.1.1.1.2, hk_.1.1.2⟩)); have n2_ := Aside0.mk (Kd.R_reok rfl hy0 (fun k_ e_ => HO_174000.out.1 k_ e_)); have n3_ := Aside0.mk (Kd.R_reok rfl hy1 (fun k_ e_ => HO_174001.out.1 k_ e_)); have n4_ := Aside0.mk (Kd.R_mono (ok' := fun k_ => some k_ ≠ (.slice Ao21 t159.length co21 : Value).ownBlock ∧ some k_ ≠ (.slice Ao28 t167.length co28 : Value).ownBlock ∧ some k_ ≠ (.slice Ao67 t183.length co67 : Value).ownBlock) (Kd.R_keptB ((Kd.R_apart' HO_182000.out (Kd.R_typed HO_174001.out) (by decide))) hkp (fun k_ hk_ hs_ => Or.elim hs_ (fun e_ => (hk_.1.1.2) e_) (fun e_ => (hk_.2) e_))) (fun k_ hk_ => ⟨hk_.1.1.1.1, hk_.1.1.1.2, hk_.1.1.2⟩)); have n5_ := Aside0.mk (Kd.R_mono (ok' := fun k_ => some k_ ≠ (.slice Ao24 t162.length co24 : Value).ownBlock ∧ some k_ ≠ (.slice Ao32 t170.length co32 : Value).ownBlock ∧ some k_ ≠ (.slice Ao68 t186.length co68 : Value).ownBlock) (Kd.R_keptB ((Kd.R_apart' HO_182001.out (Kd.R_typed HO_174000.out) (by decide))) hkp (fun k_ hk_ hs_ => Or.elim hs_ (fun e_ => (hk_.2) e_) (fun e_ => (hk_.1.1.2) e_))) (fun k_ hk_ => ⟨hk_.1.1.1.1, hk_.1.1.1.2, hk_.1.1.2⟩)); have n6_ := Aside0.mk (blk_kept (bz_ BK151.out) hkp (fun hs_ => Or.elim hs_ (fun e_ => (fun e_ => (Kd.R_ne HO_174000.out BK151.out (by decide)) e_) e_) (fun e_ => (fun e_ => (Kd.R_ne HO_174001.out BK151.out (by decide)) e_) e_))); have n7_ := Aside0.mk (blk_kept (bz_ BK166.out) hkp (fun hs_ => Or.elim hs_ (fun e_ => (fun e_ => (Kd.R_ne HO_174000.out BK166.out (by decide)) e_) e_) (fun e_ => (fun e_ => (Kd.R_ne HO_174001.out BK166.out (by decide)) e_) e_))); have n8_ := Aside0.mk (blk_kept (bz_ BK173.out) hkp (fun hs_ => Or.elim hs_ (fun e_ => (fun e_ => (Kd.R_ne HO_174000.out BK173.out (by decide)) e_) e_) (fun e_ => (fun e_ => (Kd.R_ne HO_174001.out BK173.out (by decide)) e_) e_))); have n9_ := Aside0.mk (blk_kept (bz_ BK181.out) hkp (fun hs_ => Or.elim hs_ (fun e_ => (fun e_ => (Kd.R_ne HO_174000.out BK181.out (by decide)) e_) e_) (fun e_ => (fun e_ => (Kd.R_ne HO_174001.out BK181.out (by decide)) e_) e_))); have n10_ := Aside0.mk (Kd.R_mono (ok' := fun k_ => some k_ ≠ (.slice Ao21 t159.length co21 : Value).ownBlock ∧ some k_ ≠ (.slice Ao28 t167.length co28 : Value).ownBlock ∧ some k_ ≠ (.slice Ao35 t174.length co35 : Value).ownBlock) (Kd.R_keptB ((Kd.R_apart' HO185.out (Kd.R_typed HO_174001.out) (by decide))) hkp (fun k_ hk_ hs_ => Or.elim hs_ (fun e_ => (hk_.1.1.2) e_) (fun e_ => (hk_.2) e_))) (fun k_ hk_ => ⟨hk_.1.1.1.1.2, hk_.1.1.1.2, hk_.1.1.2⟩)); have n11_ := Aside0.mk (Kd.R_mono (ok' := fun k_ => some k_ ≠ (.slice Ao24 t162.length co24 : Value).ownBlock ∧ some k_ ≠ (.slice Ao32 t170.length co32 : Value).ownBlock ∧ some k_ ≠ (.slice Ao40 t177.length co40 : Value).ownBlock) (Kd.R_keptB ((Kd.R_apart' HO188.out (Kd.R_typed HO_174000.out) (by decide))) hkp (fun k_ hk_ hs_ => Or.elim hs_ (fun e_ => (hk_.2) e_) (fun e_ => (hk_.1.1.2) e_))) (fun k_ hk_ => ⟨hk_.1.1.1.1.2, hk_.1.1.1.2, hk_.1.1.2⟩)); have n12_ := Aside0.mk (hb); clear HO_167000; clear HO_167001; clear HO_174000; clear HO_174001; clear HO_182000; clear HO_182001; clear BK151; clear BK166; clear BK173; clear BK181; clear HO185; clear HO188; clear HB; have HO_167000 := n0_; have HO_167001 := n1_; have HO_174000 := n2_; have HO_174001 := n3_; have HO_182000 := n4_; have HO_182001 := n5_; have BK151 := n6_; have BK166 := n7_; have BK173 := n8_; have BK181 := n9_; have HO185 := n10_; have HO188 := n11_; have HB := n12_; clear n0_ n1_ n2_ n3_ n4_ n5_ n6_ n7_ n8_ n9_ n10_ n11_ n12_; (try clear hb); (try clear hkp); (try clear hy0); (try clear hy1)))
      (try simp only [Act.put, List.setIfInBounds_toArray, List.set_cons_zero, List.set_cons_succ])
      go_cut [61] (fun v61 wc => ∃ (kq : Nat) (x61_63 : Bool), v61 = .bool x61_63 ∧ Aside0 (laws_FnExactCloseRecord.j1 kq t165 x61_63 l0_0 l0_1 t159 t162 t174 t177 = some r) ∧ Aside0 (kq ≤ kj10) ∧ Aside0 (Kd.R k86 86 wc w.heap.size (fun k_ => some k_ ≠ ((.slice Ao28 t167.length co28) : Value).ownBlock ∧ some k_ ≠ ((.slice Ao35 t174.length co35) : Value).ownBlock) (.slice Ao21 t159.length co21) t159) ∧ Aside0 (Kd.R k95 95 wc w.heap.size (fun k_ => some k_ ≠ ((.slice Ao32 t170.length co32) : Value).ownBlock ∧ some k_ ≠ ((.slice Ao40 t177.length co40) : Value).ownBlock) (.slice Ao24 t162.length co24) t162) ∧ Aside0 (Kd.R k86 86 wc w.heap.size (fun k_ => some k_ ≠ ((.slice Ao21 t159.length co21) : Value).ownBlock ∧ some k_ ≠ ((.slice Ao35 t174.length co35) : Value).ownBlock) (.slice Ao28 t167.length co28) t191) ∧ Aside0 (Kd.R k95 95 wc w.heap.size (fun k_ => some k_ ≠ ((.slice Ao24 t162.length co24) : Value).ownBlock ∧ some k_ ≠ ((.slice Ao40 t177.length co40) : Value).ownBlock) (.slice Ao32 t170.length co32) t192) ∧ Aside0 (Kd.R k86 86 wc w.heap.size (fun k_ => some k_ ≠ ((.slice Ao21 t159.length co21) : Value).ownBlock ∧ some k_ ≠ ((.slice Ao28 t167.length co28) : Value).ownBlock) (.slice Ao35 t174.length co35) t174) ∧ Aside0 (Kd.R k95 95 wc w.heap.size (fun k_ => some k_ ≠ ((.slice Ao24 t162.length co24) : Value).ownBlock ∧ some k_ ≠ ((.slice Ao32 t170.length co32) : Value).ownBlock) (.slice Ao40 t177.length co40) t177) ∧ Aside0 (wc.heap[gb151]? = some (.cells #[(.slice A0_0 l0_0.length c0_0), (.slice A0_1 l0_1.length c0_1)] 25 (0, 0))) ∧ Aside0 (wc.heap[gb166]? = some (.cells #[(.slice Ao21 t159.length co21), (.slice Ao24 t162.length co24)] 33 (0, 0))) ∧ Aside0 (wc.heap[gb173]? = some (.cells #[(.slice Ao28 t167.length co28), (.slice Ao32 t170.length co32)] 33 (0, 0))) ∧ Aside0 (wc.heap[gb181]? = some (.cells #[(.slice Ao35 t174.length co35), (.slice Ao40 t177.length co40)] 33 (0, 0))) ∧ Aside0 (Below w.heap.size w wc))
      case first =>
       have H := HC64.out
       clear HC64
       by_cases c75 : t190 < 0
       ·rw [if_pos c75] at H
        have c75b0 : decide (t190 < 0) = true := decide_eq_true c75
        clear c75
        (first | rw [c75b0] | (simp only [i64_w, i32_w]; rw [c75b0]) | skip)
        have H' := Aside0.mk H
        clear H
        go_wp2
        go_meet
        case rel => exact ⟨_, (true), (by first | rfl | (simp; done) | (simp [*]; done)), H', ⟨by have := HJ10.out; first | omega | exact Nat.le_refl _⟩, ⟨rz_ (Kd.R_mono HO_167000.out (fun _ hk => ⟨hk.1, hk.2.1⟩))⟩, ⟨rz_ (Kd.R_mono HO_167001.out (fun _ hk => ⟨hk.1, hk.2.1⟩))⟩, ⟨rz_ (Kd.R_mono HO_174000.out (fun _ hk => ⟨hk.1.1, hk.1.2⟩))⟩, ⟨rz_ (Kd.R_mono HO_174001.out (fun _ hk => ⟨hk.1.1, hk.1.2⟩))⟩, ⟨rz_ (Kd.R_mono HO_182000.out (fun _ hk => ⟨hk.1, hk.2.1⟩))⟩, ⟨rz_ (Kd.R_mono HO_182001.out (fun _ hk => ⟨hk.1, hk.2.1⟩))⟩, ⟨bz_ BK151.out⟩, ⟨bz_ BK166.out⟩, ⟨bz_ BK173.out⟩, ⟨bz_ BK181.out⟩, ⟨by repeat (first | (with_reducible first | exact HB.out | apply below_alloc | apply pw_below_drewN | apply below_drew1 | refine below_set ?_ GE151.out | refine below_set ?_ GE166.out | refine below_set ?_ GE173.out | refine below_set ?_ GE181.out) | exact HB.out)⟩⟩
       ·rw [if_neg c75] at H
        have c75b0 : decide (t190 < 0) = false := decide_eq_false c75
        clear c75
        (first | rw [c75b0] | (simp only [i64_w, i32_w]; rw [c75b0]) | skip)
        replace H := Option.bind_eq_some_iff.mp H
        obtain ⟨t193, A760, H⟩ := H
        replace H : (if t193 = true then (laws_FnExactCloseRecord.j1 kj10 t165 (t180 != t165) l0_0 l0_1 t159 t162 t174 t177) else (laws_FnExactCloseRecord.j1 kj10 t165 true l0_0 l0_1 t159 t162 t174 t177)) = some r := H
        have A76 := Aside0.mk A760
        clear A760
        by_cases c77 : t193 = true
        ·subst c77
         have H1 : (laws_FnExactCloseRecord.j1 kj10 t165 (t180 != t165) l0_0 l0_1 t159 t162 t174 t177) = some r := by rw [if_pos rfl] at H; exact H
         clear H
         have H := H1
         clear H1
         have H' := Aside0.mk H
         clear H
         have hnb78 := NB181_151.out
         have hnc78 := NB151_181.out
         have hnb79 := NB181_166.out
         have hnc79 := NB166_181.out
         have hnb80 := NB181_173.out
         have hnc80 := NB173_181.out
         have hcz81_0 : w74.cell? ⟨gb181, 0, none⟩ = some (.slice Ao35 t174.length co35) := (blk_cell BK181.out 0).trans rfl
         have hcz81_1 : w74.cell? ⟨gb181, 1, none⟩ = some (.slice Ao40 t177.length co40) := (blk_cell BK181.out 1).trans rfl
         have hfz81_0 := blk_frozen BK181.out 0
         have hfz81_1 := blk_frozen BK181.out 1
         have hnb82 := NB166_151.out
         have hnc82 := NB151_166.out
         have hnb83 := NB166_173.out
         have hnc83 := NB173_166.out
         have hcz84_0 : w74.cell? ⟨gb166, 0, none⟩ = some (.slice Ao21 t159.length co21) := (blk_cell BK166.out 0).trans rfl
         have hcz84_1 : w74.cell? ⟨gb166, 1, none⟩ = some (.slice Ao24 t162.length co24) := (blk_cell BK166.out 1).trans rfl
         have hfz84_0 := blk_frozen BK166.out 0
         have hfz84_1 := blk_frozen BK166.out 1
         go_wp2_with (first | (go_at_call 20; (with_reducible refine (laws_eqRecord.calls kj10 _ _ t174 _ _ t177 _ _ t159 _ _ t162 true _ ?side1 ?side2 ?side3 ?side4 ?side5 ?side6 ?side7 ?side8 A76.out).mono ?_); (case side1 => exact cz_ (Kd.R_reads' HO_182000.out).2.2); (case side2 => exact (Kd.R_reads' HO_182000.out).2.1); (case side3 => exact cz_ (Kd.R_reads' HO_182001.out).2.2); (case side4 => exact (Kd.R_reads' HO_182001.out).2.1); (case side5 => exact cz_ (Kd.R_reads' HO_167000.out).2.2); (case side6 => exact (Kd.R_reads' HO_167000.out).2.1); (case side7 => exact cz_ (Kd.R_reads' HO_167001.out).2.2); (case side8 => exact (Kd.R_reads' HO_167001.out).2.1); rintro e w85 ⟨rfl, hb⟩; have n0_ := Aside0.mk (Kd.R_below (rz_ HO_167000.out) hb); have n1_ := Aside0.mk (Kd.R_below (rz_ HO_167001.out) hb); have n2_ := Aside0.mk (Kd.R_below (rz_ HO_174000.out) hb); have n3_ := Aside0.mk (Kd.R_below (rz_ HO_174001.out) hb); have n4_ := Aside0.mk (Kd.R_below (rz_ HO_182000.out) hb); have n5_ := Aside0.mk (Kd.R_below (rz_ HO_182001.out) hb); have n6_ := Aside0.mk (Kd.R_below (rz_ HO185.out) hb); have n7_ := Aside0.mk (Kd.R_below (rz_ HO188.out) hb); have n8_ := Aside0.mk (blk_below (bz_ BK151.out) hb); have n9_ := Aside0.mk (blk_below (bz_ BK166.out) hb); have n10_ := Aside0.mk (blk_below (bz_ BK173.out) hb); have n11_ := Aside0.mk (blk_below (bz_ BK181.out) hb); have n12_ := Aside0.mk (below_step (by repeat (first | (with_reducible first | exact HB.out | apply below_alloc | apply pw_below_drewN | apply below_drew1 | refine below_set ?_ GE151.out | refine below_set ?_ GE166.out | refine below_set ?_ GE173.out | refine below_set ?_ GE181.out) | exact HB.out)) hb); clear HO_167000; clear HO_167001; clear HO_174000; clear HO_174001; clear HO_182000; clear HO_182001; clear HO185; clear HO188; clear BK151; clear BK166; clear BK173; clear BK181; clear HB; have HO_167000 := n0_; have HO_167001 := n1_; have HO_174000 := n2_; have HO_174001 := n3_; have HO_182000 := n4_; have HO_182001 := n5_; have HO185 := n6_; have HO188 := n7_; have BK151 := n8_; have BK166 := n9_; have BK173 := n10_; have BK181 := n11_; have HB := n12_; clear n0_ n1_ n2_ n3_ n4_ n5_ n6_ n7_ n8_ n9_ n10_ n11_ n12_; (try clear hb); (try clear hb2); (try clear hk); (try clear hi)))
         go_meet
         case rel => exact ⟨_, ((t180 != t165)), (by first | rfl | (simp; done) | (simp [*]; done)), H', ⟨by have := HJ10.out; first | omega | exact Nat.le_refl _⟩, ⟨rz_ (Kd.R_mono HO_167000.out (fun _ hk => ⟨hk.1, hk.2.1⟩))⟩, ⟨rz_ (Kd.R_mono HO_167001.out (fun _ hk => ⟨hk.1, hk.2.1⟩))⟩, ⟨rz_ (Kd.R_mono HO_174000.out (fun _ hk => ⟨hk.1.1, hk.1.2⟩))⟩, ⟨rz_ (Kd.R_mono HO_174001.out (fun _ hk => ⟨hk.1.1, hk.1.2⟩))⟩, ⟨rz_ (Kd.R_mono HO_182000.out (fun _ hk => ⟨hk.1, hk.2.1⟩))⟩, ⟨rz_ (Kd.R_mono HO_182001.out (fun _ hk => ⟨hk.1, hk.2.1⟩))⟩, ⟨bz_ BK151.out⟩, ⟨bz_ BK166.out⟩, ⟨bz_ BK173.out⟩, ⟨bz_ BK181.out⟩, ⟨by repeat (first | (with_reducible first | exact HB.out | apply below_alloc | apply pw_below_drewN | apply below_drew1 | refine below_set ?_ GE151.out | refine below_set ?_ GE166.out | refine below_set ?_ GE173.out | refine below_set ?_ GE181.out) | exact HB.out)⟩⟩
        ·replace c77 := Bool.eq_false_iff.mpr c77
         subst c77
         have H1 : (laws_FnExactCloseRecord.j1 kj10 t165 true l0_0 l0_1 t159 t162 t174 t177) = some r := by rw [if_neg (show ¬ (false = true) by decide)] at H; exact H
         clear H
         have H := H1
         clear H1
         have H' := Aside0.mk H
         clear H
         have hnb86 := NB181_151.out
         have hnc86 := NB151_181.out
         have hnb87 := NB181_166.out
         have hnc87 := NB166_181.out
         have hnb88 := NB181_173.out
         have hnc88 := NB173_181.out
         have hcz89_0 : w74.cell? ⟨gb181, 0, none⟩ = some (.slice Ao35 t174.length co35) := (blk_cell BK181.out 0).trans rfl
         have hcz89_1 : w74.cell? ⟨gb181, 1, none⟩ = some (.slice Ao40 t177.length co40) := (blk_cell BK181.out 1).trans rfl
         have hfz89_0 := blk_frozen BK181.out 0
         have hfz89_1 := blk_frozen BK181.out 1
         have hnb90 := NB166_151.out
         have hnc90 := NB151_166.out
         have hnb91 := NB166_173.out
         have hnc91 := NB173_166.out
         have hcz92_0 : w74.cell? ⟨gb166, 0, none⟩ = some (.slice Ao21 t159.length co21) := (blk_cell BK166.out 0).trans rfl
         have hcz92_1 : w74.cell? ⟨gb166, 1, none⟩ = some (.slice Ao24 t162.length co24) := (blk_cell BK166.out 1).trans rfl
         have hfz92_0 := blk_frozen BK166.out 0
         have hfz92_1 := blk_frozen BK166.out 1
         go_wp2_with (first | (go_at_call 20; (with_reducible refine (laws_eqRecord.calls kj10 _ _ t174 _ _ t177 _ _ t159 _ _ t162 false _ ?side1 ?side2 ?side3 ?side4 ?side5 ?side6 ?side7 ?side8 A76.out).mono ?_); (case side1 => exact cz_ (Kd.R_reads' HO_182000.out).2.2); (case side2 => exact (Kd.R_reads' HO_182000.out).2.1); (case side3 => exact cz_ (Kd.R_reads' HO_182001.out).2.2); (case side4 => exact (Kd.R_reads' HO_182001.out).2.1); (case side5 => exact cz_ (Kd.R_reads' HO_167000.out).2.2); (case side6 => exact (Kd.R_reads' HO_167000.out).2.1); (case side7 => exact cz_ (Kd.R_reads' HO_167001.out).2.2); (case side8 => exact (Kd.R_reads' HO_167001.out).2.1); rintro e w93 ⟨rfl, hb⟩; have n0_ := Aside0.mk (Kd.R_below (rz_ HO_167000.out) hb); have n1_ := Aside0.mk (Kd.R_below (rz_ HO_167001.out) hb); have n2_ := Aside0.mk (Kd.R_below (rz_ HO_174000.out) hb); have n3_ := Aside0.mk (Kd.R_below (rz_ HO_174001.out) hb); have n4_ := Aside0.mk (Kd.R_below (rz_ HO_182000.out) hb); have n5_ := Aside0.mk (Kd.R_below (rz_ HO_182001.out) hb); have n6_ := Aside0.mk (Kd.R_below (rz_ HO185.out) hb); have n7_ := Aside0.mk (Kd.R_below (rz_ HO188.out) hb); have n8_ := Aside0.mk (blk_below (bz_ BK151.out) hb); have n9_ := Aside0.mk (blk_below (bz_ BK166.out) hb); have n10_ := Aside0.mk (blk_below (bz_ BK173.out) hb); have n11_ := Aside0.mk (blk_below (bz_ BK181.out) hb); have n12_ := Aside0.mk (below_step (by repeat (first | (with_reducible first | exact HB.out | apply below_alloc | apply pw_below_drewN | apply below_drew1 | refine below_set ?_ GE151.out | refine below_set ?_ GE166.out | refine below_set ?_ GE173.out | refine below_set ?_ GE181.out) | exact HB.out)) hb); clear HO_167000; clear HO_167001; clear HO_174000; clear HO_174001; clear HO_182000; clear HO_182001; clear HO185; clear HO188; clear BK151; clear BK166; clear BK173; clear BK181; clear HB; have HO_167000 := n0_; have HO_167001 := n1_; have HO_174000 := n2_; have HO_174001 := n3_; have HO_182000 := n4_; have HO_182001 := n5_; have HO185 := n6_; have HO188 := n7_; have BK151 := n8_; have BK166 := n9_; have BK173 := n10_; have BK181 := n11_; have HB := n12_; clear n0_ n1_ n2_ n3_ n4_ n5_ n6_ n7_ n8_ n9_ n10_ n11_ n12_; (try clear hb); (try clear hb2); (try clear hk); (try clear hi)))
         go_meet
         case rel => exact ⟨_, (true), (by first | rfl | (simp; done) | (simp [*]; done)), H', ⟨by have := HJ10.out; first | omega | exact Nat.le_refl _⟩, ⟨rz_ (Kd.R_mono HO_167000.out (fun _ hk => ⟨hk.1, hk.2.1⟩))⟩, ⟨rz_ (Kd.R_mono HO_167001.out (fun _ hk => ⟨hk.1, hk.2.1⟩))⟩, ⟨rz_ (Kd.R_mono HO_174000.out (fun _ hk => ⟨hk.1.1, hk.1.2⟩))⟩, ⟨rz_ (Kd.R_mono HO_174001.out (fun _ hk => ⟨hk.1.1, hk.1.2⟩))⟩, ⟨rz_ (Kd.R_mono HO_182000.out (fun _ hk => ⟨hk.1, hk.2.1⟩))⟩, ⟨rz_ (Kd.R_mono HO_182001.out (fun _ hk => ⟨hk.1, hk.2.1⟩))⟩, ⟨bz_ BK151.out⟩, ⟨bz_ BK166.out⟩, ⟨bz_ BK173.out⟩, ⟨bz_ BK181.out⟩, ⟨by repeat (first | (with_reducible first | exact HB.out | apply below_alloc | apply pw_below_drewN | apply below_drew1 | refine below_set ?_ GE151.out | refine below_set ?_ GE166.out | refine below_set ?_ GE173.out | refine below_set ?_ GE181.out) | exact HB.out)⟩⟩
      case rest =>
       clear HC64
       try clear c1
       try clear c2
       try clear p2
       try clear c3
       try clear c3b0
       try clear c4
       try clear c5
       try clear c6
       try clear c7
       try clear c8
       try clear c9
       try clear c15
       try clear c17
       try clear c20
       try clear c21
       try clear c22
       try clear c29
       try clear c30
       try clear c36
       try clear c37
       try clear c38
       try clear c42
       try clear c43
       try clear c44
       try clear c45
       try clear c47
       try clear c48
       try clear c51
       try clear c52
       try clear c53
       try clear c55
       try clear c56
       try clear c59
       try clear c62
       try clear c70
       try clear c71
       try clear c72
       try clear c75
       try clear c75b0
       try clear c77
       try clear c78
       try clear c79
       try clear c80
       try clear c82
       try clear c83
       try clear c86
       try clear c87
       try clear c88
       try clear c90
       try clear c91
       try clear hcz13_0
       try clear hcz13_1
       try clear hcz15_0
       try clear hcz15_1
       try clear hcz23_0
       try clear hcz23_1
       try clear hcz25_0
       try clear hcz25_1
       try clear hcz31_0
       try clear hcz31_1
       try clear hcz39_0
       try clear hcz39_1
       try clear hcz46_0
       try clear hcz46_1
       try clear hcz49_0
       try clear hcz49_1
       try clear hcz54_0
       try clear hcz54_1
       try clear hcz57_0
       try clear hcz57_1
       try clear hcz5_0
       try clear hcz5_1
       try clear hcz73_0
       try clear hcz73_1
       try clear hcz81_0
       try clear hcz81_1
       try clear hcz84_0
       try clear hcz84_1
       try clear hcz89_0
       try clear hcz89_1
       try clear hcz92_0
       try clear hcz92_1
       try clear hfz13_0
       try clear hfz13_1
       try clear hfz15_0
       try clear hfz15_1
       try clear hfz23_0
       try clear hfz23_1
       try clear hfz25_0
       try clear hfz25_1
       try clear hfz31_0
       try clear hfz31_1
       try clear hfz39_0
       try clear hfz39_1
       try clear hfz46_0
       try clear hfz46_1
       try clear hfz49_0
       try clear hfz49_1
       try clear hfz54_0
       try clear hfz54_1
       try clear hfz57_0
       try clear hfz57_1
       try clear hfz5_0
       try clear hfz5_1
       try clear hfz73_0
       try clear hfz73_1
       try clear hfz81_0
       try clear hfz81_1
       try clear hfz84_0
       try clear hfz84_1
       try clear hfz89_0
       try clear hfz89_1
       try clear hfz92_0
       try clear hfz92_1
       try clear p2
       obtain ⟨kq, x61_63, rfl, HA, HJ63, HO_167000, HO_167001, HO_174000, HO_174001, HO_182000, HO_182001, BK151, BK166, BK173, BK181, HB⟩ := hcut
       have hl174000_63 := (Kd.R_reads' HO_174000.out).1
       rw [hl174000_63] at HO_174000
       (try simp only [hl174000_63])
       (try simp only [hl174000_63] at BK151)
       (try simp only [hl174000_63] at BK166)
       (try simp only [hl174000_63] at BK173)
       (try simp only [hl174000_63] at BK181)
       (try simp only [hl174000_63] at HO_167000)
       (try simp only [hl174000_63] at HO_167001)
       (try simp only [hl174000_63] at HO_174001)
       (try simp only [hl174000_63] at HO_182000)
       (try simp only [hl174000_63] at HO_182001)
       have hl174001_63 := (Kd.R_reads' HO_174001.out).1
       rw [hl174001_63] at HO_174001
       (try simp only [hl174001_63])
       (try simp only [hl174001_63] at BK151)
       (try simp only [hl174001_63] at BK166)
       (try simp only [hl174001_63] at BK173)
       (try simp only [hl174001_63] at BK181)
       (try simp only [hl174001_63] at HO_167000)
       (try simp only [hl174001_63] at HO_167001)
       (try simp only [hl174001_63] at HO_174000)
       (try simp only [hl174001_63] at HO_182000)
       (try simp only [hl174001_63] at HO_182001)
       cases kq with
       | zero => exact absurd HA.out (by simp [laws_FnExactCloseRecord.j1])
       | succ kj63 =>
        have H := HA.out
        clear HA
        simp only [laws_FnExactCloseRecord.j1] at H
        by_cases c94 : x61_63 = true
        ·subst c94
         have H1 : (some false) = some r := by rw [if_pos rfl] at H; exact H
         clear H
         have H := H1
         clear H1
         obtain rfl := Option.some.inj H
         go_wp2
         go_ret
         exact ⟨by first | rfl | (simp [errW_none, errW_some] <;> rfl) | (simp [*, errW_none, errW_some] <;> rfl), by repeat (first | (with_reducible first | exact HB.out | apply below_alloc | apply pw_below_drewN | apply below_drew1 | refine below_set ?_ GE151.out | refine below_set ?_ GE166.out | refine below_set ?_ GE173.out | refine below_set ?_ GE181.out) | exact HB.out)⟩
        ·replace c94 := Bool.eq_false_iff.mpr c94
         subst c94
         have H1 : ((laws_markRecord.f kj63 t174 t177 1).bind fun bt194 => ((laws_heldRecord.f kj63 bt194.2.1 bt194.2.2 1).bind fun t197 => (if t197 < 0 then (some false) else (if t197 = bt194.1 then ((laws_toRecord.f kj63 l0_0 l0_1).bind fun bt198 => ((impl_CloseRecord.f bt198.1 bt198.2).bind fun bt204 => ((laws_eqRecord.f kj63 bt204.1 bt204.2.1 t159 t162).bind fun t212 => (if t212 = true then (laws_FnExactCloseRecord.j2 kj63 bt194.1 (bt204.2.2 != t165) bt194.2.1 bt194.2.2) else (laws_FnExactCloseRecord.j2 kj63 bt194.1 true bt194.2.1 bt194.2.2))))) else (some false))))) = some r := by rw [if_neg (show ¬ (false = true) by decide)] at H; exact H
         clear H
         have H := H1
         clear H1
         replace H := Option.bind_eq_some_iff.mp H
         obtain ⟨⟨t194, t195, t196⟩, A950, H⟩ := H
         replace H : ((laws_heldRecord.f kj63 t195 t196 1).bind fun t197 => (if t197 < 0 then (some false) else (if t197 = t194 then ((laws_toRecord.f kj63 l0_0 l0_1).bind fun bt198 => ((impl_CloseRecord.f bt198.1 bt198.2).bind fun bt204 => ((laws_eqRecord.f kj63 bt204.1 bt204.2.1 t159 t162).bind fun t212 => (if t212 = true then (laws_FnExactCloseRecord.j2 kj63 t194 (bt204.2.2 != t165) t195 t196) else (laws_FnExactCloseRecord.j2 kj63 t194 true t195 t196))))) else (some false)))) = some r := H
         have A95 := Aside0.mk A950
         clear A950
         replace H := Option.bind_eq_some_iff.mp H
         obtain ⟨t197, A960, H⟩ := H
         replace H : (if t197 < 0 then (some false) else (if t197 = t194 then ((laws_toRecord.f kj63 l0_0 l0_1).bind fun bt198 => ((impl_CloseRecord.f bt198.1 bt198.2).bind fun bt204 => ((laws_eqRecord.f kj63 bt204.1 bt204.2.1 t159 t162).bind fun t212 => (if t212 = true then (laws_FnExactCloseRecord.j2 kj63 t194 (bt204.2.2 != t165) t195 t196) else (laws_FnExactCloseRecord.j2 kj63 t194 true t195 t196))))) else (some false))) = some r := H
         have A96 := Aside0.mk A960
         clear A960
         by_cases c97 : t197 < 0
         ·rw [if_pos c97] at H
          have c97b0 : decide (t197 < 0) = true := decide_eq_true c97
          clear c97
          obtain rfl := Option.some.inj H
          have hnb98 := NB181_151.out
          have hnc98 := NB151_181.out
          have hnb99 := NB181_166.out
          have hnc99 := NB166_181.out
          have hnb100 := NB181_173.out
          have hnc100 := NB173_181.out
          have hcz101_0 : wc.cell? ⟨gb181, 0, none⟩ = some (.slice Ao35 t174.length co35) := (blk_cell BK181.out 0).trans rfl
          have hcz101_1 : wc.cell? ⟨gb181, 1, none⟩ = some (.slice Ao40 t177.length co40) := (blk_cell BK181.out 1).trans rfl
          have hfz101_0 := blk_frozen BK181.out 0
          have hfz101_1 := blk_frozen BK181.out 1
          go_wp2_with (first | ((with_reducible refine gate_callee (f := 21) rfl ?_); refine goesL_ (some 64) rfl rfl Try.func21 (by kernel_rfl) rfl #[.agg #[.slice Ao35 t174.length co35, .slice Ao40 t177.length co40], .int .i64 1] rfl (by (try simp only [List.map_toArray, List.map_cons, List.map_nil]); first | done | rfl | (simp only [List.length_drop, List.length_take]; rfl)) ?_; (with_reducible refine (laws_markRecord.calls kj63 (fun k_ => some k_ = (.slice Ao35 t174.length co35 : Value).ownBlock) (.slice Ao35 t174.length co35) t174 (fun k_ => some k_ = (.slice Ao40 t177.length co40 : Value).ownBlock) (.slice Ao40 t177.length co40) t177 1 t194 t195 t196 w _ ?side1 ?side2 ?side3 A95.out).mono ?_); (case side1 => repeat (first | (with_reducible first | exact HB.out | apply below_alloc | apply pw_below_drewN | apply below_drew1 | refine below_set ?_ GE151.out | refine below_set ?_ GE166.out | refine below_set ?_ GE173.out | refine below_set ?_ GE181.out) | exact HB.out)); (case side2 => exact Kd.R_tight rfl HO_182000.out); (case side3 => exact Kd.R_tight rfl HO_182001.out); rintro e w102 ⟨rfl, hy0, hy1, hb, hkp⟩; refine ⟨_, rfl, ?_⟩; have n0_ := Aside0.mk (Kd.R_mono (ok' := fun k_ => some k_ ≠ (.slice Ao28 t191.length co28 : Value).ownBlock ∧ some k_ ≠ (.slice Ao35 t174.length co35 : Value).ownBlock) (Kd.R_keptB ((Kd.R_apart' HO_167000.out (Kd.R_typed HO_182001.out) (by decide))) hkp (fun k_ hk_ hs_ => Or.elim hs_ (fun e_ => (hk_.1.2) e_) (fun e_ => (hk_.2) e_))) (fun k_ hk_ => ⟨hk_.1.1.1, hk_.1.1.2⟩)); have n1_ := Aside0.mk (Kd.R_mono (ok' := fun k_ => some k_ ≠ (.slice Ao32 t192.length co32 : Value).ownBlock ∧ some k_ ≠ (.slice Ao40 t177.length co40 : Value).ownBlock) (Kd.R_keptB ((Kd.R_apart' HO_167001.out (Kd.R_typed HO_182000.out) (by decide))) hkp (fun k_ hk_ hs_ => Or.elim hs_ (fun e_ => (hk_.2) e_) (fun e_ => (hk_.1.2) e_))) (fun k_ hk_ => ⟨hk_.1.1.1, hk_.1.1.2⟩)); have n2_ := Aside0.mk (Kd.R_mono (ok' := fun k_ => some k_ ≠ (.slice Ao21 t159.length co21 : Value).ownBlock ∧ some k_ ≠ (.slice Ao35 t174.length co35 : Value).ownBlock) (Kd.R_keptB ((Kd.R_apart' HO_174000.out (Kd.R_typed HO_182001.out) (by decide))) hkp (fun k_ hk_ hs_ => Or.elim hs_ (fun e_ => (hk_.1.2) e_) (fun e_ => (hk_.2) e_))) (fun k_ hk_ => ⟨hk_.1.1.1, hk_.1.1.2⟩)); have n3_ := Aside0.mk (Kd.R_mono (ok' := fun k_ => some k_ ≠ (.slice Ao24 t162.length co24 : Value).ownBlock ∧ some k_ ≠ (.slice Ao40 t177.length co40 : Value).ownBlock) (Kd.R_keptB ((Kd.R_apart' HO_174001.out (Kd.R_typed HO_182000.out) (by decide))) hkp (fun k_ hk_ hs_ => Or.elim hs_ (fun e_ => (hk_.2) e_) (fun e_ => (hk_.1.2) e_))) (fun k_ hk_ => ⟨hk_.1.1.1, hk_.1.1.2⟩)); have n4_ := Aside0.mk (Kd.R_reok rfl hy0 (fun k_ e_ => HO_182000.out.1 k_ e_)); have n5_ := Aside0.mk (Kd.R_reok rfl hy1 (fun k_ e_ => HO_182001.out.1 k_ e_)); have n6_ := Aside0.mk (blk_kept (bz_ BK151.out) hkp (fun hs_ => Or.elim hs_ (fun e_ => (fun e_ => (Kd.R_ne HO_182000.out BK151.out (by decide)) e_) e_) (fun e_ => (fun e_ => (Kd.R_ne HO_182001.out BK151.out (by decide)) e_) e_))); have n7_ := Aside0.mk (blk_kept (bz_ BK166.out) hkp (fun hs_ => Or.elim hs_ (fun e_ => (fun e_ => (Kd.R_ne HO_182000.out BK166.out (by decide)) e_) e_) (fun e_ => (fun e_ => (Kd.R_ne HO_182001.out BK166.out (by decide)) e_) e_))); have n8_ := Aside0.mk (blk_kept (bz_ BK173.out) hkp (fun hs_ => Or.elim hs_ (fun e_ => (fun e_ => (Kd.R_ne HO_182000.out BK173.out (by decide)) e_) e_) (fun e_ => (fun e_ => (Kd.R_ne HO_182001.out BK173.out (by decide)) e_) e_))); have n9_ := Aside0.mk (blk_kept (bz_ BK181.out) hkp (fun hs_ => Or.elim hs_ (fun e_ => (fun e_ => (Kd.R_ne HO_182000.out BK181.out (by decide)) e_) e_) (fun e_ => (fun e_ => (Kd.R_ne HO_182001.out BK181.out (by decide)) e_) e_))); have n10_ := Aside0.mk (hb); clear HO_167000; clear HO_167001; clear HO_174000; clear HO_174001; clear HO_182000; clear HO_182001; clear BK151; clear BK166; clear BK173; clear BK181; clear HB; have HO_167000 := n0_; have HO_167001 := n1_; have HO_174000 := n2_; have HO_174001 := n3_; have HO_182000 := n4_; have HO_182001 := n5_; have BK151 := n6_; have BK166 := n7_; have BK173 := n8_; have BK181 := n9_; have HB := n10_; clear n0_ n1_ n2_ n3_ n4_ n5_ n6_ n7_ n8_ n9_ n10_; (try clear hb); (try clear hkp); (try clear hy0); (try clear hy1); have hcz103_0 : w102.cell? ⟨gb181, 0, none⟩ = some (.slice Ao35 t174.length co35) := (blk_cell BK181.out 0).trans rfl; have hcz103_1 : w102.cell? ⟨gb181, 1, none⟩ = some (.slice Ao40 t177.length co40) := (blk_cell BK181.out 1).trans rfl; have hfz103_0 := blk_frozen BK181.out 0; have hfz103_1 := blk_frozen BK181.out 1) | ((with_reducible refine gate_callee (f := 31) rfl ?_); refine goesL_ (some 67) rfl rfl Try.func31 (by kernel_rfl) rfl #[.agg #[.slice Ao35 t195.length co35, .slice Ao40 t196.length co40], .int .i64 1] rfl (by (try simp only [List.map_toArray, List.map_cons, List.map_nil]); first | done | (rw [show t195.length = t174.length from (Kd.R_reads' HO_182000.out).1.symm, show t196.length = t177.length from (Kd.R_reads' HO_182001.out).1.symm] <;> rfl) | rfl | (simp only [List.length_drop, List.length_take]; rfl)) ?_; (with_reducible refine (laws_heldRecord.calls kj63 _ _ t195 _ _ t196 1 t197 _ ?side1 ?side2 ?side3 ?side4 A96.out).mono ?_); (case side1 => exact cz_ (Kd.R_reads' HO_182000.out).2.2); (case side2 => rw [show t195.length = t174.length from (Kd.R_reads' HO_182000.out).1.symm]; exact (Kd.R_reads' HO_182000.out).2.1); (case side3 => exact cz_ (Kd.R_reads' HO_182001.out).2.2); (case side4 => rw [show t196.length = t177.length from (Kd.R_reads' HO_182001.out).1.symm]; exact (Kd.R_reads' HO_182001.out).2.1); rintro e w104 ⟨rfl, hb⟩; refine ⟨_, rfl, ?_⟩; have n0_ := Aside0.mk (Kd.R_below (rz_ HO_167000.out) hb); have n1_ := Aside0.mk (Kd.R_below (rz_ HO_167001.out) hb); have n2_ := Aside0.mk (Kd.R_below (rz_ HO_174000.out) hb); have n3_ := Aside0.mk (Kd.R_below (rz_ HO_174001.out) hb); have n4_ := Aside0.mk (Kd.R_below (rz_ HO_182000.out) hb); have n5_ := Aside0.mk (Kd.R_below (rz_ HO_182001.out) hb); have n6_ := Aside0.mk (blk_below (bz_ BK151.out) hb); have n7_ := Aside0.mk (blk_below (bz_ BK166.out) hb); have n8_ := Aside0.mk (blk_below (bz_ BK173.out) hb); have n9_ := Aside0.mk (blk_below (bz_ BK181.out) hb); have n10_ := Aside0.mk (below_step (by repeat (first | (with_reducible first | exact HB.out | apply below_alloc | apply pw_below_drewN | apply below_drew1 | refine below_set ?_ GE151.out | refine below_set ?_ GE166.out | refine below_set ?_ GE173.out | refine below_set ?_ GE181.out) | exact HB.out)) hb); clear HO_167000; clear HO_167001; clear HO_174000; clear HO_174001; clear HO_182000; clear HO_182001; clear BK151; clear BK166; clear BK173; clear BK181; clear HB; have HO_167000 := n0_; have HO_167001 := n1_; have HO_174000 := n2_; have HO_174001 := n3_; have HO_182000 := n4_; have HO_182001 := n5_; have BK151 := n6_; have BK166 := n7_; have BK173 := n8_; have BK181 := n9_; have HB := n10_; clear n0_ n1_ n2_ n3_ n4_ n5_ n6_ n7_ n8_ n9_ n10_; (try clear hb); (try clear hb2); (try clear hk); (try clear hi)))
          go_ret
          exact ⟨by first | rfl | (simp [errW_none, errW_some] <;> rfl) | (simp [*, errW_none, errW_some] <;> rfl), by repeat (first | (with_reducible first | exact HB.out | apply below_alloc | apply pw_below_drewN | apply below_drew1 | refine below_set ?_ GE151.out | refine below_set ?_ GE166.out | refine below_set ?_ GE173.out | refine below_set ?_ GE181.out) | exact HB.out)⟩
         ·rw [if_neg c97] at H
          have c97b0 : decide (t197 < 0) = false := decide_eq_false c97
          clear c97
          by_cases c105 : t197 = t194
          ·rw [if_pos c105] at H
           have c105b0 : (t197 == t194) = true := beq_iff_eq.mpr c105
           have c105b1 : (t197 != t194) = false := bne_eq_false_iff_eq.mpr c105
           clear c105
           replace H := Option.bind_eq_some_iff.mp H
           obtain ⟨⟨t198, t201⟩, A1060, H⟩ := H
           replace H : ((impl_CloseRecord.f t198 t201).bind fun bt204 => ((laws_eqRecord.f kj63 bt204.1 bt204.2.1 t159 t162).bind fun t212 => (if t212 = true then (laws_FnExactCloseRecord.j2 kj63 t194 (bt204.2.2 != t165) t195 t196) else (laws_FnExactCloseRecord.j2 kj63 t194 true t195 t196)))) = some r := H
           have A106 := Aside0.mk A1060
           clear A1060
           replace H := Option.bind_eq_some_iff.mp H
           obtain ⟨⟨t204, t207, t210⟩, A1070, H⟩ := H
           replace H : ((laws_eqRecord.f kj63 t204 t207 t159 t162).bind fun t212 => (if t212 = true then (laws_FnExactCloseRecord.j2 kj63 t194 (t210 != t165) t195 t196) else (laws_FnExactCloseRecord.j2 kj63 t194 true t195 t196))) = some r := H
           have A107 := Aside0.mk A1070
           clear A1070
           have HC108 := Aside0.mk H
           clear H
           have hnb109 := NB181_151.out
           have hnc109 := NB151_181.out
           have hnb110 := NB181_166.out
           have hnc110 := NB166_181.out
           have hnb111 := NB181_173.out
           have hnc111 := NB173_181.out
           have hcz112_0 : wc.cell? ⟨gb181, 0, none⟩ = some (.slice Ao35 t174.length co35) := (blk_cell BK181.out 0).trans rfl
           have hcz112_1 : wc.cell? ⟨gb181, 1, none⟩ = some (.slice Ao40 t177.length co40) := (blk_cell BK181.out 1).trans rfl
           have hfz112_0 := blk_frozen BK181.out 0
           have hfz112_1 := blk_frozen BK181.out 1
           go_upto_region 25 with (first | ((with_reducible refine gate_callee (f := 21) rfl ?_); refine goesL_ (some 64) rfl rfl Try.func21 (by kernel_rfl) rfl #[.agg #[.slice Ao35 t174.length co35, .slice Ao40 t177.length co40], .int .i64 1] rfl (by (try simp only [List.map_toArray, List.map_cons, List.map_nil]); first | done | rfl | (simp only [List.length_drop, List.length_take]; rfl)) ?_; (with_reducible refine (laws_markRecord.calls kj63 (fun k_ => some k_ = (.slice Ao35 t174.length co35 : Value).ownBlock) (.slice Ao35 t174.length co35) t174 (fun k_ => some k_ = (.slice Ao40 t177.length co40 : Value).ownBlock) (.slice Ao40 t177.length co40) t177 1 t194 t195 t196 w _ ?side1 ?side2 ?side3 A95.out).mono ?_); (case side1 => repeat (first | (with_reducible first | exact HB.out | apply below_alloc | apply pw_below_drewN | apply below_drew1 | refine below_set ?_ GE151.out | refine below_set ?_ GE166.out | refine below_set ?_ GE173.out | refine below_set ?_ GE181.out) | exact HB.out)); (case side2 => exact Kd.R_tight rfl HO_182000.out); (case side3 => exact Kd.R_tight rfl HO_182001.out); rintro e w113 ⟨rfl, hy0, hy1, hb, hkp⟩; refine ⟨_, rfl, ?_⟩; have n0_ := Aside0.mk (Kd.R_mono (ok' := fun k_ => some k_ ≠ (.slice Ao28 t191.length co28 : Value).ownBlock ∧ some k_ ≠ (.slice Ao35 t174.length co35 : Value).ownBlock) (Kd.R_keptB ((Kd.R_apart' HO_167000.out (Kd.R_typed HO_182001.out) (by decide))) hkp (fun k_ hk_ hs_ => Or.elim hs_ (fun e_ => (hk_.1.2) e_) (fun e_ => (hk_.2) e_))) (fun k_ hk_ => ⟨hk_.1.1.1, hk_.1.1.2⟩)); have n1_ := Aside0.mk (Kd.R_mono (ok' := fun k_ => some k_ ≠ (.slice Ao32 t192.length co32 : Value).ownBlock ∧ some k_ ≠ (.slice Ao40 t177.length co40 : Value).ownBlock) (Kd.R_keptB ((Kd.R_apart' HO_167001.out (Kd.R_typed HO_182000.out) (by decide))) hkp (fun k_ hk_ hs_ => Or.elim hs_ (fun e_ => (hk_.2) e_) (fun e_ => (hk_.1.2) e_))) (fun k_ hk_ => ⟨hk_.1.1.1, hk_.1.1.2⟩)); have n2_ := Aside0.mk (Kd.R_mono (ok' := fun k_ => some k_ ≠ (.slice Ao21 t159.length co21 : Value).ownBlock ∧ some k_ ≠ (.slice Ao35 t174.length co35 : Value).ownBlock) (Kd.R_keptB ((Kd.R_apart' HO_174000.out (Kd.R_typed HO_182001.out) (by decide))) hkp (fun k_ hk_ hs_ => Or.elim hs_ (fun e_ => (hk_.1.2) e_) (fun e_ => (hk_.2) e_))) (fun k_ hk_ => ⟨hk_.1.1.1, hk_.1.1.2⟩)); have n3_ := Aside0.mk (Kd.R_mono (ok' := fun k_ => some k_ ≠ (.slice Ao24 t162.length co24 : Value).ownBlock ∧ some k_ ≠ (.slice Ao40 t177.length co40 : Value).ownBlock) (Kd.R_keptB ((Kd.R_apart' HO_174001.out (Kd.R_typed HO_182000.out) (by decide))) hkp (fun k_ hk_ hs_ => Or.elim hs_ (fun e_ => (hk_.2) e_) (fun e_ => (hk_.1.2) e_))) (fun k_ hk_ => ⟨hk_.1.1.1, hk_.1.1.2⟩)); have n4_ := Aside0.mk (Kd.R_reok rfl hy0 (fun k_ e_ => HO_182000.out.1 k_ e_)); have n5_ := Aside0.mk (Kd.R_reok rfl hy1 (fun k_ e_ => HO_182001.out.1 k_ e_)); have n6_ := Aside0.mk (blk_kept (bz_ BK151.out) hkp (fun hs_ => Or.elim hs_ (fun e_ => (fun e_ => (Kd.R_ne HO_182000.out BK151.out (by decide)) e_) e_) (fun e_ => (fun e_ => (Kd.R_ne HO_182001.out BK151.out (by decide)) e_) e_))); have n7_ := Aside0.mk (blk_kept (bz_ BK166.out) hkp (fun hs_ => Or.elim hs_ (fun e_ => (fun e_ => (Kd.R_ne HO_182000.out BK166.out (by decide)) e_) e_) (fun e_ => (fun e_ => (Kd.R_ne HO_182001.out BK166.out (by decide)) e_) e_))); have n8_ := Aside0.mk (blk_kept (bz_ BK173.out) hkp (fun hs_ => Or.elim hs_ (fun e_ => (fun e_ => (Kd.R_ne HO_182000.out BK173.out (by decide)) e_) e_) (fun e_ => (fun e_ => (Kd.R_ne HO_182001.out BK173.out (by decide)) e_) e_))); have n9_ := Aside0.mk (blk_kept (bz_ BK181.out) hkp (fun hs_ => Or.elim hs_ (fun e_ => (fun e_ => (Kd.R_ne HO_182000.out BK181.out (by decide)) e_) e_) (fun e_ => (fun e_ => (Kd.R_ne HO_182001.out BK181.out (by decide)) e_) e_))); have n10_ := Aside0.mk (hb); clear HO_167000; clear HO_167001; clear HO_174000; clear HO_174001; clear HO_182000; clear HO_182001; clear BK151; clear BK166; clear BK173; clear BK181; clear HB; have HO_167000 := n0_; have HO_167001 := n1_; have HO_174000 := n2_; have HO_174001 := n3_; have HO_182000 := n4_; have HO_182001 := n5_; have BK151 := n6_; have BK166 := n7_; have BK173 := n8_; have BK181 := n9_; have HB := n10_; clear n0_ n1_ n2_ n3_ n4_ n5_ n6_ n7_ n8_ n9_ n10_; (try clear hb); (try clear hkp); (try clear hy0); (try clear hy1); have hcz114_0 : w113.cell? ⟨gb181, 0, none⟩ = some (.slice Ao35 t174.length co35) := (blk_cell BK181.out 0).trans rfl; have hcz114_1 : w113.cell? ⟨gb181, 1, none⟩ = some (.slice Ao40 t177.length co40) := (blk_cell BK181.out 1).trans rfl; have hfz114_0 := blk_frozen BK181.out 0; have hfz114_1 := blk_frozen BK181.out 1) | ((with_reducible refine gate_callee (f := 31) rfl ?_); refine goesL_ (some 67) rfl rfl Try.func31 (by kernel_rfl) rfl #[.agg #[.slice Ao35 t195.length co35, .slice Ao40 t196.length co40], .int .i64 1] rfl (by (try simp only [List.map_toArray, List.map_cons, List.map_nil]); first | done | (rw [show t195.length = t174.length from (Kd.R_reads' HO_182000.out).1.symm, show t196.length = t177.length from (Kd.R_reads' HO_182001.out).1.symm] <;> rfl) | rfl | (simp only [List.length_drop, List.length_take]; rfl)) ?_; (with_reducible refine (laws_heldRecord.calls kj63 _ _ t195 _ _ t196 1 t197 _ ?side1 ?side2 ?side3 ?side4 A96.out).mono ?_); (case side1 => exact cz_ (Kd.R_reads' HO_182000.out).2.2); (case side2 => rw [show t195.length = t174.length from (Kd.R_reads' HO_182000.out).1.symm]; exact (Kd.R_reads' HO_182000.out).2.1); (case side3 => exact cz_ (Kd.R_reads' HO_182001.out).2.2); (case side4 => rw [show t196.length = t177.length from (Kd.R_reads' HO_182001.out).1.symm]; exact (Kd.R_reads' HO_182001.out).2.1); rintro e w115 ⟨rfl, hb⟩; refine ⟨_, rfl, ?_⟩; have n0_ := Aside0.mk (Kd.R_below (rz_ HO_167000.out) hb); have n1_ := Aside0.mk (Kd.R_below (rz_ HO_167001.out) hb); have n2_ := Aside0.mk (Kd.R_below (rz_ HO_174000.out) hb); have n3_ := Aside0.mk (Kd.R_below (rz_ HO_174001.out) hb); have n4_ := Aside0.mk (Kd.R_below (rz_ HO_182000.out) hb); have n5_ := Aside0.mk (Kd.R_below (rz_ HO_182001.out) hb); have n6_ := Aside0.mk (blk_below (bz_ BK151.out) hb); have n7_ := Aside0.mk (blk_below (bz_ BK166.out) hb); have n8_ := Aside0.mk (blk_below (bz_ BK173.out) hb); have n9_ := Aside0.mk (blk_below (bz_ BK181.out) hb); have n10_ := Aside0.mk (below_step (by repeat (first | (with_reducible first | exact HB.out | apply below_alloc | apply pw_below_drewN | apply below_drew1 | refine below_set ?_ GE151.out | refine below_set ?_ GE166.out | refine below_set ?_ GE173.out | refine below_set ?_ GE181.out) | exact HB.out)) hb); clear HO_167000; clear HO_167001; clear HO_174000; clear HO_174001; clear HO_182000; clear HO_182001; clear BK151; clear BK166; clear BK173; clear BK181; clear HB; have HO_167000 := n0_; have HO_167001 := n1_; have HO_174000 := n2_; have HO_174001 := n3_; have HO_182000 := n4_; have HO_182001 := n5_; have BK151 := n6_; have BK166 := n7_; have BK173 := n8_; have BK181 := n9_; have HB := n10_; clear n0_ n1_ n2_ n3_ n4_ n5_ n6_ n7_ n8_ n9_ n10_; (try clear hb); (try clear hb2); (try clear hk); (try clear hi); have hnb116 := NB151_166.out; have hnc116 := NB166_151.out; have hnb117 := NB151_173.out; have hnc117 := NB173_151.out; have hcz118_0 : w115.cell? ⟨gb151, 0, none⟩ = some (.slice A0_0 l0_0.length c0_0) := (blk_cell BK151.out 0).trans rfl; have hcz118_1 : w115.cell? ⟨gb151, 1, none⟩ = some (.slice A0_1 l0_1.length c0_1) := (blk_cell BK151.out 1).trans rfl; have hfz118_0 := blk_frozen BK151.out 0; have hfz118_1 := blk_frozen BK151.out 1) | ((with_reducible refine gate_callee (f := 17) rfl ?_); refine goesL_ (some 75) rfl rfl Try.func17 (by kernel_rfl) rfl #[.agg #[.slice A0_0 l0_0.length c0_0, .slice A0_1 l0_1.length c0_1]] rfl (by (try simp only [List.map_toArray, List.map_cons, List.map_nil]); first | done | rfl | (simp only [List.length_drop, List.length_take]; rfl)) ?_; (with_reducible refine (laws_toRecord.calls kj63 _ _ l0_0 _ _ l0_1 t198 t201 _ ?side1 ?side2 ?side3 ?side4 A106.out).mono ?_); (case side1 => exact cz_ (Kd.C_below HR0_0.out HB.out)); (case side2 => exact HC0_0.out); (case side3 => exact cz_ (Kd.C_below HR0_1.out HB.out)); (case side4 => exact HC0_1.out); rintro e w119 ⟨v199, v202, rfl, ho0, ho1, hb⟩; refine ⟨_, rfl, ?_⟩; have n0_ := Aside0.mk (Kd.R_elder' (rz_ HO_167000.out) (Kd.R_base ho0) hb); have n1_ := Aside0.mk (Kd.R_elder' (rz_ HO_167001.out) (Kd.R_base ho1) hb); have n2_ := Aside0.mk (Kd.R_elder' (rz_ HO_174000.out) (Kd.R_base ho0) hb); have n3_ := Aside0.mk (Kd.R_elder' (rz_ HO_174001.out) (Kd.R_base ho1) hb); have n4_ := Aside0.mk (Kd.R_elder' (rz_ HO_182000.out) (Kd.R_base ho0) hb); have n5_ := Aside0.mk (Kd.R_elder' (rz_ HO_182001.out) (Kd.R_base ho1) hb); have n6_ := Aside0.mk (Kd.R_lower (Kd.R_new' (Kd.R_new' (Kd.R_new' ho0 (Kd.R_lt (rz_ HO_167000.out))) (Kd.R_lt (rz_ HO_174000.out))) (Kd.R_lt (rz_ HO_182000.out))) (below_size (by repeat (first | (with_reducible first | exact HB.out | apply below_alloc | apply pw_below_drewN | apply below_drew1 | refine below_set ?_ GE151.out | refine below_set ?_ GE166.out | refine below_set ?_ GE173.out | refine below_set ?_ GE181.out) | exact HB.out)))); have n7_ := Aside0.mk (Kd.R_lower (Kd.R_new' (Kd.R_new' (Kd.R_new' ho1 (Kd.R_lt (rz_ HO_167001.out))) (Kd.R_lt (rz_ HO_174001.out))) (Kd.R_lt (rz_ HO_182001.out))) (below_size (by repeat (first | (with_reducible first | exact HB.out | apply below_alloc | apply pw_below_drewN | apply below_drew1 | refine below_set ?_ GE151.out | refine below_set ?_ GE166.out | refine below_set ?_ GE173.out | refine below_set ?_ GE181.out) | exact HB.out)))); have n8_ := Aside0.mk (blk_below (bz_ BK151.out) hb); have n9_ := Aside0.mk (blk_below (bz_ BK166.out) hb); have n10_ := Aside0.mk (blk_below (bz_ BK173.out) hb); have n11_ := Aside0.mk (blk_below (bz_ BK181.out) hb); have n12_ := Aside0.mk (below_step (by repeat (first | (with_reducible first | exact HB.out | apply below_alloc | apply pw_below_drewN | apply below_drew1 | refine below_set ?_ GE151.out | refine below_set ?_ GE166.out | refine below_set ?_ GE173.out | refine below_set ?_ GE181.out) | exact HB.out)) hb); clear HO_167000; clear HO_167001; clear HO_174000; clear HO_174001; clear HO_182000; clear HO_182001; clear BK151; clear BK166; clear BK173; clear BK181; clear HB; have HO_167000 := n0_; have HO_167001 := n1_; have HO_174000 := n2_; have HO_174001 := n3_; have HO_182000 := n4_; have HO_182001 := n5_; have HO200 := n6_; have HO203 := n7_; have BK151 := n8_; have BK166 := n9_; have BK173 := n10_; have BK181 := n11_; have HB := n12_; clear n0_ n1_ n2_ n3_ n4_ n5_ n6_ n7_ n8_ n9_ n10_ n11_ n12_; (try clear hb); (try clear hb2); (try clear hk); (try clear hi); (try clear ho0); (try clear ho1); obtain ⟨Ao120, co120, eo120⟩ := Kd.R_slice HO200.out; subst eo120; obtain ⟨Ao121, co121, eo121⟩ := Kd.R_slice HO203.out; subst eo121) | ((with_reducible refine gate_callee (f := 30) rfl ?_); refine goesL_ (some 76) rfl rfl Try.func30 (by kernel_rfl) rfl #[.agg #[.slice Ao120 t198.length co120, .slice Ao121 t201.length co121]] rfl (by (try simp only [List.map_toArray, List.map_cons, List.map_nil]); first | done | rfl | (simp only [List.length_drop, List.length_take]; rfl)) ?_; (with_reducible refine (impl_CloseRecord.calls _ _ t198 _ _ t201 t204 t207 t210 _ ?side1 ?side2 ?side3 ?side4 A107.out).mono ?_); (case side1 => exact cz_ (Kd.R_reads' HO200.out).2.2); (case side2 => exact (Kd.R_reads' HO200.out).2.1); (case side3 => exact cz_ (Kd.R_reads' HO203.out).2.2); (case side4 => exact (Kd.R_reads' HO203.out).2.1); rintro e w122 ⟨v205, v208, rfl, ho0, ho1, hb⟩; refine ⟨_, rfl, ?_⟩; have n0_ := Aside0.mk (Kd.R_elder' (rz_ HO_167000.out) (Kd.R_base ho0) hb); have n1_ := Aside0.mk (Kd.R_elder' (rz_ HO_167001.out) (Kd.R_base ho1) hb); have n2_ := Aside0.mk (Kd.R_elder' (rz_ HO_174000.out) (Kd.R_base ho0) hb); have n3_ := Aside0.mk (Kd.R_elder' (rz_ HO_174001.out) (Kd.R_base ho1) hb); have n4_ := Aside0.mk (Kd.R_elder' (rz_ HO_182000.out) (Kd.R_base ho0) hb); have n5_ := Aside0.mk (Kd.R_elder' (rz_ HO_182001.out) (Kd.R_base ho1) hb); have n6_ := Aside0.mk (Kd.R_elder' (rz_ HO200.out) (Kd.R_base ho0) hb); have n7_ := Aside0.mk (Kd.R_elder' (rz_ HO203.out) (Kd.R_base ho1) hb); have n8_ := Aside0.mk (Kd.R_lower (Kd.R_new' (Kd.R_new' (Kd.R_new' (Kd.R_new' ho0 (Kd.R_lt (rz_ HO_167000.out))) (Kd.R_lt (rz_ HO_174000.out))) (Kd.R_lt (rz_ HO_182000.out))) (Kd.R_lt (rz_ HO200.out))) (below_size (by repeat (first | (with_reducible first | exact HB.out | apply below_alloc | apply pw_below_drewN | apply below_drew1 | refine below_set ?_ GE151.out | refine below_set ?_ GE166.out | refine below_set ?_ GE173.out | refine below_set ?_ GE181.out) | exact HB.out)))); have n9_ := Aside0.mk (Kd.R_lower (Kd.R_new' (Kd.R_new' (Kd.R_new' (Kd.R_new' ho1 (Kd.R_lt (rz_ HO_167001.out))) (Kd.R_lt (rz_ HO_174001.out))) (Kd.R_lt (rz_ HO_182001.out))) (Kd.R_lt (rz_ HO203.out))) (below_size (by repeat (first | (with_reducible first | exact HB.out | apply below_alloc | apply pw_below_drewN | apply below_drew1 | refine below_set ?_ GE151.out | refine below_set ?_ GE166.out | refine below_set ?_ GE173.out | refine below_set ?_ GE181.out) | exact HB.out)))); have n10_ := Aside0.mk (blk_below (bz_ BK151.out) hb); have n11_ := Aside0.mk (blk_below (bz_ BK166.out) hb); have n12_ := Aside0.mk (blk_below (bz_ BK173.out) hb); have n13_ := Aside0.mk (blk_below (bz_ BK181.out) hb); have n14_ := Aside0.mk (below_step (by repeat (first | (with_reducible first | exact HB.out | apply below_alloc | apply pw_below_drewN | apply below_drew1 | refine below_set ?_ GE151.out | refine below_set ?_ GE166.out | refine below_set ?_ GE173.out | refine below_set ?_ GE181.out) | exact HB.out)) hb); clear HO_167000; clear HO_167001; clear HO_174000; clear HO_174001; clear HO_182000; clear HO_182001; clear HO200; clear HO203; clear BK151; clear BK166; clear BK173; clear BK181; clear HB; have HO_167000 := n0_; have HO_167001 := n1_; have HO_174000 := n2_; have HO_174001 := n3_; have HO_182000 := n4_; have HO_182001 := n5_; have HO200 := n6_; have HO203 := n7_; have HO206 := n8_; have HO209 := n9_; have BK151 := n10_; have BK166 := n11_; have BK173 := n12_; have BK181 := n13_; have HB := n14_; clear n0_ n1_ n2_ n3_ n4_ n5_ n6_ n7_ n8_ n9_ n10_ n11_ n12_ n13_ n14_; (try clear hb); (try clear hb2); (try clear hk); (try clear hi); (try clear ho0); (try clear ho1)) | ((with_reducible refine gate_dst (N := 12) rfl ?_); refine box_event ?hg (N := 12) ?hd (cs := #[.slice none 0 0, .slice none 0 0]) (t := 33) ?hr ?_; (case hd => rfl); (case hg => rfl); (case hr => first | (go_simp; done) | (go_simp; rfl)); intro gb211 hg w123 hbox hb; have n0_ := Aside0.mk (Kd.R_below (rz_ HO_167000.out) hb); have n1_ := Aside0.mk (Kd.R_below (rz_ HO_167001.out) hb); have n2_ := Aside0.mk (Kd.R_below (rz_ HO_174000.out) hb); have n3_ := Aside0.mk (Kd.R_below (rz_ HO_174001.out) hb); have n4_ := Aside0.mk (Kd.R_below (rz_ HO_182000.out) hb); have n5_ := Aside0.mk (Kd.R_below (rz_ HO_182001.out) hb); have n6_ := Aside0.mk (Kd.R_below (rz_ HO200.out) hb); have n7_ := Aside0.mk (Kd.R_below (rz_ HO203.out) hb); have n8_ := Aside0.mk (Kd.R_below (rz_ HO206.out) hb); have n9_ := Aside0.mk (Kd.R_below (rz_ HO209.out) hb); have n10_ := Aside0.mk (blk_below (bz_ BK151.out) hb); have n11_ := Aside0.mk (blk_below (bz_ BK166.out) hb); have n12_ := Aside0.mk (blk_below (bz_ BK173.out) hb); have n13_ := Aside0.mk (blk_below (bz_ BK181.out) hb); have n14_ := Aside0.mk (below_step (by repeat (first | (with_reducible first | exact HB.out | apply below_alloc | apply pw_below_drewN | apply below_drew1 | refine below_set ?_ GE151.out | refine below_set ?_ GE166.out | refine below_set ?_ GE173.out | refine below_set ?_ GE181.out) | exact HB.out)) hb); have n15_ := Aside0.mk (hbox); have n16_ := Aside0.mk ((by rw [hg]; exact (below_size (by repeat (first | (with_reducible first | exact HB.out | apply below_alloc | apply pw_below_drewN | apply below_drew1 | refine below_set ?_ GE151.out | refine below_set ?_ GE166.out | refine below_set ?_ GE173.out | refine below_set ?_ GE181.out) | exact HB.out))) : w.heap.size ≤ gb211)); have n17_ := Aside0.mk ((by rw [hg]; exact (below_size (by repeat (first | (with_reducible first | exact HB.out | apply below_alloc | apply pw_below_drewN | apply below_drew1 | refine below_set ?_ GE151.out | refine below_set ?_ GE166.out | refine below_set ?_ GE173.out | refine below_set ?_ GE181.out) | exact HB.out))) : w.heap.size ≤ gb211)); have n18_ := Aside0.mk ((by rw [hg]; exact Nat.ne_of_lt (blk_lt (g := gb151) (o := .cells #[.slice A0_0 l0_0.length c0_0, .slice A0_1 l0_1.length c0_1] 25 (0, 0)) (bz_ BK151.out)) : gb151 ≠ gb211)); have n19_ := Aside0.mk ((by rw [hg]; exact Nat.ne_of_gt (blk_lt (g := gb151) (o := .cells #[.slice A0_0 l0_0.length c0_0, .slice A0_1 l0_1.length c0_1] 25 (0, 0)) (bz_ BK151.out)) : gb211 ≠ gb151)); have n20_ := Aside0.mk ((by rw [hg]; exact Nat.ne_of_lt (blk_lt (g := gb166) (o := .cells #[.slice Ao21 t159.length co21, .slice Ao24 t162.length co24] 33 (0, 0)) (bz_ BK166.out)) : gb166 ≠ gb211)); have n21_ := Aside0.mk ((by rw [hg]; exact Nat.ne_of_gt (blk_lt (g := gb166) (o := .cells #[.slice Ao21 t159.length co21, .slice Ao24 t162.length co24] 33 (0, 0)) (bz_ BK166.out)) : gb211 ≠ gb166)); have n22_ := Aside0.mk ((by rw [hg]; exact Nat.ne_of_lt (blk_lt (g := gb173) (o := .cells #[.slice Ao28 t191.length co28, .slice Ao32 t192.length co32] 33 (0, 0)) (bz_ BK173.out)) : gb173 ≠ gb211)); have n23_ := Aside0.mk ((by rw [hg]; exact Nat.ne_of_gt (blk_lt (g := gb173) (o := .cells #[.slice Ao28 t191.length co28, .slice Ao32 t192.length co32] 33 (0, 0)) (bz_ BK173.out)) : gb211 ≠ gb173)); have n24_ := Aside0.mk ((by rw [hg]; exact Nat.ne_of_lt (blk_lt (g := gb181) (o := .cells #[.slice Ao35 t174.length co35, .slice Ao40 t177.length co40] 33 (0, 0)) (bz_ BK181.out)) : gb181 ≠ gb211)); have n25_ := Aside0.mk ((by rw [hg]; exact Nat.ne_of_gt (blk_lt (g := gb181) (o := .cells #[.slice Ao35 t174.length co35, .slice Ao40 t177.length co40] 33 (0, 0)) (bz_ BK181.out)) : gb211 ≠ gb181)); clear HO_167000; clear HO_167001; clear HO_174000; clear HO_174001; clear HO_182000; clear HO_182001; clear HO200; clear HO203; clear HO206; clear HO209; clear BK151; clear BK166; clear BK173; clear BK181; clear HB; have HO_167000 := n0_; have HO_167001 := n1_; have HO_174000 := n2_; have HO_174001 := n3_; have HO_182000 := n4_; have HO_182001 := n5_; have HO200 := n6_; have HO203 := n7_; have HO206 := n8_; have HO209 := n9_; have BK151 := n10_; have BK166 := n11_; have BK173 := n12_; have BK181 := n13_; have HB := n14_; have BK211 := n15_; have GW211 := n16_; have GE211 := n17_; have NB151_211 := n18_; have NB211_151 := n19_; have NB166_211 := n20_; have NB211_166 := n21_; have NB173_211 := n22_; have NB211_173 := n23_; have NB181_211 := n24_; have NB211_181 := n25_; clear n0_ n1_ n2_ n3_ n4_ n5_ n6_ n7_ n8_ n9_ n10_ n11_ n12_ n13_ n14_ n15_ n16_ n17_ n18_ n19_ n20_ n21_ n22_ n23_ n24_ n25_; clear hb hbox hg; obtain ⟨Ao124, co124, eo124⟩ := Kd.R_slice HO206.out; subst eo124; have hnb125 := NB211_151.out; have hnc125 := NB151_211.out; have hnb126 := NB211_166.out; have hnc126 := NB166_211.out; have hnb127 := NB211_173.out; have hnc127 := NB173_211.out; have hnb128 := NB211_181.out; have hnc128 := NB181_211.out; have hcz129_0 : w123.cell? ⟨gb211, 0, none⟩ = some (.slice none 0 0) := (blk_cell BK211.out 0).trans rfl; have hcz129_1 : w123.cell? ⟨gb211, 1, none⟩ = some (.slice none 0 0) := (blk_cell BK211.out 1).trans rfl; have hfz129_0 := blk_frozen BK211.out 0; have hfz129_1 := blk_frozen BK211.out 1; obtain ⟨Ao130, co130, eo130⟩ := Kd.R_slice HO209.out; subst eo130))
           (try simp only [Act.put, List.setIfInBounds_toArray, List.set_cons_zero, List.set_cons_succ])
           go_cut [87] (fun v87 wc => ∃ (kq : Nat) (x87_107 : Bool), v87 = .bool x87_107 ∧ Aside0 (laws_FnExactCloseRecord.j2 kq t194 x87_107 t195 t196 = some r) ∧ Aside0 (kq ≤ kj63) ∧ Aside0 (Kd.R k86 86 wc w.heap.size (fun k_ => some k_ ≠ ((.slice Ao28 t191.length co28) : Value).ownBlock ∧ some k_ ≠ ((.slice Ao35 t174.length co35) : Value).ownBlock ∧ some k_ ≠ ((.slice Ao124 t204.length co124) : Value).ownBlock) (.slice Ao21 t159.length co21) t159) ∧ Aside0 (Kd.R k95 95 wc w.heap.size (fun k_ => some k_ ≠ ((.slice Ao32 t192.length co32) : Value).ownBlock ∧ some k_ ≠ ((.slice Ao40 t177.length co40) : Value).ownBlock ∧ some k_ ≠ ((.slice Ao130 t207.length co130) : Value).ownBlock) (.slice Ao24 t162.length co24) t162) ∧ Aside0 (Kd.R k86 86 wc w.heap.size (fun k_ => some k_ ≠ ((.slice Ao21 t159.length co21) : Value).ownBlock ∧ some k_ ≠ ((.slice Ao35 t174.length co35) : Value).ownBlock ∧ some k_ ≠ ((.slice Ao124 t204.length co124) : Value).ownBlock) (.slice Ao28 t191.length co28) t191) ∧ Aside0 (Kd.R k95 95 wc w.heap.size (fun k_ => some k_ ≠ ((.slice Ao24 t162.length co24) : Value).ownBlock ∧ some k_ ≠ ((.slice Ao40 t177.length co40) : Value).ownBlock ∧ some k_ ≠ ((.slice Ao130 t207.length co130) : Value).ownBlock) (.slice Ao32 t192.length co32) t192) ∧ Aside0 (Kd.R k86 86 wc w.heap.size (fun k_ => some k_ ≠ ((.slice Ao21 t159.length co21) : Value).ownBlock ∧ some k_ ≠ ((.slice Ao28 t191.length co28) : Value).ownBlock ∧ some k_ ≠ ((.slice Ao124 t204.length co124) : Value).ownBlock) (.slice Ao35 t174.length co35) t195) ∧ Aside0 (Kd.R k95 95 wc w.heap.size (fun k_ => some k_ ≠ ((.slice Ao24 t162.length co24) : Value).ownBlock ∧ some k_ ≠ ((.slice Ao32 t192.length co32) : Value).ownBlock ∧ some k_ ≠ ((.slice Ao130 t207.length co130) : Value).ownBlock) (.slice Ao40 t177.length co40) t196) ∧ Aside0 (Kd.R k86 86 wc w.heap.size (fun k_ => some k_ ≠ ((.slice Ao21 t159.length co21) : Value).ownBlock ∧ some k_ ≠ ((.slice Ao28 t191.length co28) : Value).ownBlock ∧ some k_ ≠ ((.slice Ao35 t174.length co35) : Value).ownBlock) (.slice Ao124 t204.length co124) t204) ∧ Aside0 (Kd.R k95 95 wc w.heap.size (fun k_ => some k_ ≠ ((.slice Ao24 t162.length co24) : Value).ownBlock ∧ some k_ ≠ ((.slice Ao32 t192.length co32) : Value).ownBlock ∧ some k_ ≠ ((.slice Ao40 t177.length co40) : Value).ownBlock) (.slice Ao130 t207.length co130) t207) ∧ Aside0 (wc.heap[gb151]? = some (.cells #[(.slice A0_0 l0_0.length c0_0), (.slice A0_1 l0_1.length c0_1)] 25 (0, 0))) ∧ Aside0 (wc.heap[gb166]? = some (.cells #[(.slice Ao21 t159.length co21), (.slice Ao24 t162.length co24)] 33 (0, 0))) ∧ Aside0 (wc.heap[gb173]? = some (.cells #[(.slice Ao28 t191.length co28), (.slice Ao32 t192.length co32)] 33 (0, 0))) ∧ Aside0 (wc.heap[gb181]? = some (.cells #[(.slice Ao35 t174.length co35), (.slice Ao40 t177.length co40)] 33 (0, 0))) ∧ Aside0 (wc.heap[gb211]? = some (.cells #[(.slice Ao124 t204.length co124), (.slice Ao130 t207.length co130)] 33 (0, 0))) ∧ Aside0 (Below w.heap.size w wc))
           case first =>
            have H := HC108.out
            clear HC108
            replace H := Option.bind_eq_some_iff.mp H
            obtain ⟨t212, A1310, H⟩ := H
            replace H : (if t212 = true then (laws_FnExactCloseRecord.j2 kj63 t194 (t210 != t165) t195 t196) else (laws_FnExactCloseRecord.j2 kj63 t194 true t195 t196)) = some r := H
            have A131 := Aside0.mk A1310
            clear A1310
            by_cases c132 : t212 = true
            ·subst c132
             have H1 : (laws_FnExactCloseRecord.j2 kj63 t194 (t210 != t165) t195 t196) = some r := by rw [if_pos rfl] at H; exact H
             clear H
             have H := H1
             clear H1
             have H' := Aside0.mk H
             clear H
             have hnb133 := NB211_151.out
             have hnc133 := NB151_211.out
             have hnb134 := NB211_166.out
             have hnc134 := NB166_211.out
             have hnb135 := NB211_173.out
             have hnc135 := NB173_211.out
             have hnb136 := NB211_181.out
             have hnc136 := NB181_211.out
             have hcz137_0 : w123.cell? ⟨gb211, 0, none⟩ = some (.slice none 0 0) := (blk_cell BK211.out 0).trans rfl
             have hcz137_1 : w123.cell? ⟨gb211, 1, none⟩ = some (.slice none 0 0) := (blk_cell BK211.out 1).trans rfl
             have hfz137_0 := blk_frozen BK211.out 0
             have hfz137_1 := blk_frozen BK211.out 1
             have hnb138 := NB166_151.out
             have hnc138 := NB151_166.out
             have hnb139 := NB166_173.out
             have hnc139 := NB173_166.out
             have hnb140 := NB166_181.out
             have hnc140 := NB181_166.out
             have hcz141_0 : w123.cell? ⟨gb166, 0, none⟩ = some (.slice Ao21 t159.length co21) := (blk_cell BK166.out 0).trans rfl
             have hcz141_1 : w123.cell? ⟨gb166, 1, none⟩ = some (.slice Ao24 t162.length co24) := (blk_cell BK166.out 1).trans rfl
             have hfz141_0 := blk_frozen BK166.out 0
             have hfz141_1 := blk_frozen BK166.out 1
             go_wp2_with (first | ((with_reducible refine gate_callee (f := 20) rfl ?_); refine goesL_ (some 81) rfl rfl Try.func20 (by kernel_rfl) rfl #[.agg #[.slice Ao124 t204.length co124, .slice Ao130 t207.length co130], .agg #[.slice Ao21 t159.length co21, .slice Ao24 t162.length co24]] rfl (by (try simp only [List.map_toArray, List.map_cons, List.map_nil]); first | done | rfl | (simp only [List.length_drop, List.length_take]; rfl)) ?_; (with_reducible refine (laws_eqRecord.calls kj63 _ _ t204 _ _ t207 _ _ t159 _ _ t162 true _ ?side1 ?side2 ?side3 ?side4 ?side5 ?side6 ?side7 ?side8 A131.out).mono ?_); (case side1 => refine (Kd.R_reads' (e := 86) (base := w.heap.size) (ok := fun k_ => ((((True ∧ some k_ ≠ (.slice Ao21 t159.length co21 : Value).ownBlock) ∧ some k_ ≠ (.slice Ao28 t191.length co28 : Value).ownBlock) ∧ some k_ ≠ (.slice Ao35 t174.length co35 : Value).ownBlock) ∧ some k_ ≠ (.slice Ao120 t198.length co120 : Value).ownBlock)) (n := t204.length) (c := co124) ?_).2.2; exact (rz_ (Kd.R_mono (Kd.R_far (p := ⟨gb211, 1, none⟩) (Kd.R_far (p := ⟨gb211, 0, none⟩) (Kd.R_types HO206.out BK211.out (by decide)) (fun _ hk => hk.2) (.slice Ao124 t204.length co124)) (fun _ hk => hk.2) (.slice Ao130 t207.length co130)) (fun _ h_ => h_.1)))); (case side2 => exact (Kd.R_reads' HO206.out).2.1); (case side3 => refine (Kd.R_reads' (e := 95) (base := w.heap.size) (ok := fun k_ => ((((True ∧ some k_ ≠ (.slice Ao24 t162.length co24 : Value).ownBlock) ∧ some k_ ≠ (.slice Ao32 t192.length co32 : Value).ownBlock) ∧ some k_ ≠ (.slice Ao40 t177.length co40 : Value).ownBlock) ∧ some k_ ≠ (.slice Ao121 t201.length co121 : Value).ownBlock)) (n := t207.length) (c := co130) ?_).2.2; exact (rz_ (Kd.R_mono (Kd.R_far (p := ⟨gb211, 1, none⟩) (Kd.R_far (p := ⟨gb211, 0, none⟩) (Kd.R_types HO209.out BK211.out (by decide)) (fun _ hk => hk.2) (.slice Ao124 t204.length co124)) (fun _ hk => hk.2) (.slice Ao130 t207.length co130)) (fun _ h_ => h_.1)))); (case side4 => exact (Kd.R_reads' HO209.out).2.1); (case side5 => refine (Kd.R_reads' (e := 86) (base := w.heap.size) (ok := fun k_ => (((some k_ ≠ (.slice Ao28 t191.length co28 : Value).ownBlock ∧ some k_ ≠ (.slice Ao35 t174.length co35 : Value).ownBlock) ∧ some k_ ≠ (.slice Ao120 t198.length co120 : Value).ownBlock) ∧ some k_ ≠ (.slice Ao124 t204.length co124 : Value).ownBlock)) (n := t159.length) (c := co21) ?_).2.2; exact (rz_ (Kd.R_mono (Kd.R_far (p := ⟨gb211, 1, none⟩) (Kd.R_far (p := ⟨gb211, 0, none⟩) (Kd.R_types HO_167000.out BK211.out (by decide)) (fun _ hk => hk.2) (.slice Ao124 t204.length co124)) (fun _ hk => hk.2) (.slice Ao130 t207.length co130)) (fun _ h_ => h_.1)))); (case side6 => exact (Kd.R_reads' HO_167000.out).2.1); (case side7 => refine (Kd.R_reads' (e := 95) (base := w.heap.size) (ok := fun k_ => (((some k_ ≠ (.slice Ao32 t192.length co32 : Value).ownBlock ∧ some k_ ≠ (.slice Ao40 t177.length co40 : Value).ownBlock) ∧ some k_ ≠ (.slice Ao121 t201.length co121 : Value).ownBlock) ∧ some k_ ≠ (.slice Ao130 t207.length co130 : Value).ownBlock)) (n := t162.length) (c := co24) ?_).2.2; exact (rz_ (Kd.R_mono (Kd.R_far (p := ⟨gb211, 1, none⟩) (Kd.R_far (p := ⟨gb211, 0, none⟩) (Kd.R_types HO_167001.out BK211.out (by decide)) (fun _ hk => hk.2) (.slice Ao124 t204.length co124)) (fun _ hk => hk.2) (.slice Ao130 t207.length co130)) (fun _ h_ => h_.1)))); (case side8 => exact (Kd.R_reads' HO_167001.out).2.1); rintro e w142 ⟨rfl, hb⟩; refine ⟨_, rfl, ?_⟩; have n0_ := Aside0.mk (Kd.R_below (rz_ (Kd.R_mono (Kd.R_far (p := ⟨gb211, 1, none⟩) (Kd.R_far (p := ⟨gb211, 0, none⟩) (Kd.R_types HO_167000.out BK211.out (by decide)) (fun _ hk => hk.2) (.slice Ao124 t204.length co124)) (fun _ hk => hk.2) (.slice Ao130 t207.length co130)) (fun _ h_ => h_.1))) hb); have n1_ := Aside0.mk (Kd.R_below (rz_ (Kd.R_mono (Kd.R_far (p := ⟨gb211, 1, none⟩) (Kd.R_far (p := ⟨gb211, 0, none⟩) (Kd.R_types HO_167001.out BK211.out (by decide)) (fun _ hk => hk.2) (.slice Ao124 t204.length co124)) (fun _ hk => hk.2) (.slice Ao130 t207.length co130)) (fun _ h_ => h_.1))) hb); have n2_ := Aside0.mk (Kd.R_below (rz_ (Kd.R_mono (Kd.R_far (p := ⟨gb211, 1, none⟩) (Kd.R_far (p := ⟨gb211, 0, none⟩) (Kd.R_types HO_174000.out BK211.out (by decide)) (fun _ hk => hk.2) (.slice Ao124 t204.length co124)) (fun _ hk => hk.2) (.slice Ao130 t207.length co130)) (fun _ h_ => h_.1))) hb); have n3_ := Aside0.mk (Kd.R_below (rz_ (Kd.R_mono (Kd.R_far (p := ⟨gb211, 1, none⟩) (Kd.R_far (p := ⟨gb211, 0, none⟩) (Kd.R_types HO_174001.out BK211.out (by decide)) (fun _ hk => hk.2) (.slice Ao124 t204.length co124)) (fun _ hk => hk.2) (.slice Ao130 t207.length co130)) (fun _ h_ => h_.1))) hb); have n4_ := Aside0.mk (Kd.R_below (rz_ (Kd.R_mono (Kd.R_far (p := ⟨gb211, 1, none⟩) (Kd.R_far (p := ⟨gb211, 0, none⟩) (Kd.R_types HO_182000.out BK211.out (by decide)) (fun _ hk => hk.2) (.slice Ao124 t204.length co124)) (fun _ hk => hk.2) (.slice Ao130 t207.length co130)) (fun _ h_ => h_.1))) hb); have n5_ := Aside0.mk (Kd.R_below (rz_ (Kd.R_mono (Kd.R_far (p := ⟨gb211, 1, none⟩) (Kd.R_far (p := ⟨gb211, 0, none⟩) (Kd.R_types HO_182001.out BK211.out (by decide)) (fun _ hk => hk.2) (.slice Ao124 t204.length co124)) (fun _ hk => hk.2) (.slice Ao130 t207.length co130)) (fun _ h_ => h_.1))) hb); have n6_ := Aside0.mk (Kd.R_below (rz_ (Kd.R_mono (Kd.R_far (p := ⟨gb211, 1, none⟩) (Kd.R_far (p := ⟨gb211, 0, none⟩) (Kd.R_types HO200.out BK211.out (by decide)) (fun _ hk => hk.2) (.slice Ao124 t204.length co124)) (fun _ hk => hk.2) (.slice Ao130 t207.length co130)) (fun _ h_ => h_.1))) hb); have n7_ := Aside0.mk (Kd.R_below (rz_ (Kd.R_mono (Kd.R_far (p := ⟨gb211, 1, none⟩) (Kd.R_far (p := ⟨gb211, 0, none⟩) (Kd.R_types HO203.out BK211.out (by decide)) (fun _ hk => hk.2) (.slice Ao124 t204.length co124)) (fun _ hk => hk.2) (.slice Ao130 t207.length co130)) (fun _ h_ => h_.1))) hb); have n8_ := Aside0.mk (Kd.R_below (rz_ (Kd.R_mono (Kd.R_far (p := ⟨gb211, 1, none⟩) (Kd.R_far (p := ⟨gb211, 0, none⟩) (Kd.R_types HO206.out BK211.out (by decide)) (fun _ hk => hk.2) (.slice Ao124 t204.length co124)) (fun _ hk => hk.2) (.slice Ao130 t207.length co130)) (fun _ h_ => h_.1))) hb); have n9_ := Aside0.mk (Kd.R_below (rz_ (Kd.R_mono (Kd.R_far (p := ⟨gb211, 1, none⟩) (Kd.R_far (p := ⟨gb211, 0, none⟩) (Kd.R_types HO209.out BK211.out (by decide)) (fun _ hk => hk.2) (.slice Ao124 t204.length co124)) (fun _ hk => hk.2) (.slice Ao130 t207.length co130)) (fun _ h_ => h_.1))) hb); have n10_ := Aside0.mk (blk_below (g := gb151) (o := .cells #[.slice A0_0 l0_0.length c0_0, .slice A0_1 l0_1.length c0_1] 25 (0, 0)) (by (with_reducible repeat (first | refine blk_drewN ?_ _ | refine blk_drew ?_ | refine blk_alloc ?_ _)); refine blk_far ?_ NB151_211.out _; (with_reducible repeat (first | refine blk_drewN ?_ _ | refine blk_drew ?_ | refine blk_alloc ?_ _)); refine blk_far ?_ NB151_211.out _; (with_reducible repeat (first | refine blk_drewN ?_ _ | refine blk_drew ?_ | refine blk_alloc ?_ _)); exact BK151.out) hb); have n11_ := Aside0.mk (blk_below (g := gb166) (o := .cells #[.slice Ao21 t159.length co21, .slice Ao24 t162.length co24] 33 (0, 0)) (by (with_reducible repeat (first | refine blk_drewN ?_ _ | refine blk_drew ?_ | refine blk_alloc ?_ _)); refine blk_far ?_ NB166_211.out _; (with_reducible repeat (first | refine blk_drewN ?_ _ | refine blk_drew ?_ | refine blk_alloc ?_ _)); refine blk_far ?_ NB166_211.out _; (with_reducible repeat (first | refine blk_drewN ?_ _ | refine blk_drew ?_ | refine blk_alloc ?_ _)); exact BK166.out) hb); have n12_ := Aside0.mk (blk_below (g := gb173) (o := .cells #[.slice Ao28 t191.length co28, .slice Ao32 t192.length co32] 33 (0, 0)) (by (with_reducible repeat (first | refine blk_drewN ?_ _ | refine blk_drew ?_ | refine blk_alloc ?_ _)); refine blk_far ?_ NB173_211.out _; (with_reducible repeat (first | refine blk_drewN ?_ _ | refine blk_drew ?_ | refine blk_alloc ?_ _)); refine blk_far ?_ NB173_211.out _; (with_reducible repeat (first | refine blk_drewN ?_ _ | refine blk_drew ?_ | refine blk_alloc ?_ _)); exact BK173.out) hb); have n13_ := Aside0.mk (blk_below (g := gb181) (o := .cells #[.slice Ao35 t174.length co35, .slice Ao40 t177.length co40] 33 (0, 0)) (by (with_reducible repeat (first | refine blk_drewN ?_ _ | refine blk_drew ?_ | refine blk_alloc ?_ _)); refine blk_far ?_ NB181_211.out _; (with_reducible repeat (first | refine blk_drewN ?_ _ | refine blk_drew ?_ | refine blk_alloc ?_ _)); refine blk_far ?_ NB181_211.out _; (with_reducible repeat (first | refine blk_drewN ?_ _ | refine blk_drew ?_ | refine blk_alloc ?_ _)); exact BK181.out) hb); have n14_ := Aside0.mk (blk_below (g := gb211) (o := .cells #[.slice Ao124 t204.length co124, .slice Ao130 t207.length co130] 33 (0, 0)) (by (with_reducible repeat (first | refine blk_drewN ?_ _ | refine blk_drew ?_ | refine blk_alloc ?_ _)); refine blk_put (cs := #[.slice Ao124 t204.length co124, .slice none 0 0]) ?_ 1 _ rfl; (with_reducible repeat (first | refine blk_drewN ?_ _ | refine blk_drew ?_ | refine blk_alloc ?_ _)); refine blk_put (cs := #[.slice none 0 0, .slice none 0 0]) ?_ 0 _ rfl; (with_reducible repeat (first | refine blk_drewN ?_ _ | refine blk_drew ?_ | refine blk_alloc ?_ _)); exact BK211.out) hb); have n15_ := Aside0.mk (below_step (by repeat (first | (with_reducible first | exact HB.out | apply below_alloc | apply pw_below_drewN | apply below_drew1 | refine below_set ?_ GE151.out | refine below_set ?_ GE166.out | refine below_set ?_ GE173.out | refine below_set ?_ GE181.out | refine below_set ?_ GE211.out) | exact HB.out)) hb); clear HO_167000; clear HO_167001; clear HO_174000; clear HO_174001; clear HO_182000; clear HO_182001; clear HO200; clear HO203; clear HO206; clear HO209; clear BK151; clear BK166; clear BK173; clear BK181; clear BK211; clear HB; have HO_167000 := n0_; have HO_167001 := n1_; have HO_174000 := n2_; have HO_174001 := n3_; have HO_182000 := n4_; have HO_182001 := n5_; have HO200 := n6_; have HO203 := n7_; have HO206 := n8_; have HO209 := n9_; have BK151 := n10_; have BK166 := n11_; have BK173 := n12_; have BK181 := n13_; have BK211 := n14_; have HB := n15_; clear n0_ n1_ n2_ n3_ n4_ n5_ n6_ n7_ n8_ n9_ n10_ n11_ n12_ n13_ n14_ n15_; (try clear hb); (try clear hb2); (try clear hk); (try clear hi)))
             go_meet
             case rel => exact ⟨_, ((t210 != t165)), (by first | rfl | (simp; done) | (simp [*]; done)), H', ⟨by have := HJ10.out; have := HJ63.out; first | omega | exact Nat.le_refl _⟩, ⟨by (try simp only [hl174000_63]); (try simp only [hl174001_63]); (with_reducible repeat (first | apply Kd.R_alloc | apply Kd.R_drewN | apply Kd.R_drew)); exact Kd.R_mono HO_167000.out (fun _ hk => ⟨hk.1.1.1, ⟨hk.1.1.2, hk.2⟩⟩)⟩, ⟨by (try simp only [hl174000_63]); (try simp only [hl174001_63]); (with_reducible repeat (first | apply Kd.R_alloc | apply Kd.R_drewN | apply Kd.R_drew)); exact Kd.R_mono HO_167001.out (fun _ hk => ⟨hk.1.1.1, ⟨hk.1.1.2, hk.2⟩⟩)⟩, ⟨by (try simp only [hl174000_63]); (try simp only [hl174001_63]); (with_reducible repeat (first | apply Kd.R_alloc | apply Kd.R_drewN | apply Kd.R_drew)); exact Kd.R_mono HO_174000.out (fun _ hk => ⟨hk.1.1.1, ⟨hk.1.1.2, hk.2⟩⟩)⟩, ⟨by (try simp only [hl174000_63]); (try simp only [hl174001_63]); (with_reducible repeat (first | apply Kd.R_alloc | apply Kd.R_drewN | apply Kd.R_drew)); exact Kd.R_mono HO_174001.out (fun _ hk => ⟨hk.1.1.1, ⟨hk.1.1.2, hk.2⟩⟩)⟩, ⟨by (try simp only [hl174000_63]); (try simp only [hl174001_63]); (with_reducible repeat (first | apply Kd.R_alloc | apply Kd.R_drewN | apply Kd.R_drew)); exact Kd.R_mono HO_182000.out (fun _ hk => ⟨hk.1.1.1, ⟨hk.1.1.2, hk.2⟩⟩)⟩, ⟨by (try simp only [hl174000_63]); (try simp only [hl174001_63]); (with_reducible repeat (first | apply Kd.R_alloc | apply Kd.R_drewN | apply Kd.R_drew)); exact Kd.R_mono HO_182001.out (fun _ hk => ⟨hk.1.1.1, ⟨hk.1.1.2, hk.2⟩⟩)⟩, ⟨by (try simp only [hl174000_63]); (try simp only [hl174001_63]); (with_reducible repeat (first | apply Kd.R_alloc | apply Kd.R_drewN | apply Kd.R_drew)); exact Kd.R_mono HO206.out (fun _ hk => ⟨hk.1.1.1.2, ⟨hk.1.1.2, hk.1.2⟩⟩)⟩, ⟨by (try simp only [hl174000_63]); (try simp only [hl174001_63]); (with_reducible repeat (first | apply Kd.R_alloc | apply Kd.R_drewN | apply Kd.R_drew)); exact Kd.R_mono HO209.out (fun _ hk => ⟨hk.1.1.1.2, ⟨hk.1.1.2, hk.1.2⟩⟩)⟩, ⟨by (try simp only [hl174000_63]); (try simp only [hl174001_63]); (with_reducible repeat (first | refine blk_drewN ?_ _ | refine blk_drew ?_ | refine blk_alloc ?_ _)); exact BK151.out⟩, ⟨by (try simp only [hl174000_63]); (try simp only [hl174001_63]); (with_reducible repeat (first | refine blk_drewN ?_ _ | refine blk_drew ?_ | refine blk_alloc ?_ _)); exact BK166.out⟩, ⟨by (try simp only [hl174000_63]); (try simp only [hl174001_63]); (with_reducible repeat (first | refine blk_drewN ?_ _ | refine blk_drew ?_ | refine blk_alloc ?_ _)); exact BK173.out⟩, ⟨by (try simp only [hl174000_63]); (try simp only [hl174001_63]); (with_reducible repeat (first | refine blk_drewN ?_ _ | refine blk_drew ?_ | refine blk_alloc ?_ _)); exact BK181.out⟩, ⟨by (try simp only [hl174000_63]); (try simp only [hl174001_63]); (with_reducible repeat (first | refine blk_drewN ?_ _ | refine blk_drew ?_ | refine blk_alloc ?_ _)); exact BK211.out⟩, ⟨by repeat (first | (with_reducible first | exact HB.out | apply below_alloc | apply pw_below_drewN | apply below_drew1 | refine below_set ?_ GE151.out | refine below_set ?_ GE166.out | refine below_set ?_ GE173.out | refine below_set ?_ GE181.out | refine below_set ?_ GE211.out) | exact HB.out)⟩⟩
            ·replace c132 := Bool.eq_false_iff.mpr c132
             subst c132
             have H1 : (laws_FnExactCloseRecord.j2 kj63 t194 true t195 t196) = some r := by rw [if_neg (show ¬ (false = true) by decide)] at H; exact H
             clear H
             have H := H1
             clear H1
             have H' := Aside0.mk H
             clear H
             have hnb143 := NB211_151.out
             have hnc143 := NB151_211.out
             have hnb144 := NB211_166.out
             have hnc144 := NB166_211.out
             have hnb145 := NB211_173.out
             have hnc145 := NB173_211.out
             have hnb146 := NB211_181.out
             have hnc146 := NB181_211.out
             have hcz147_0 : w123.cell? ⟨gb211, 0, none⟩ = some (.slice none 0 0) := (blk_cell BK211.out 0).trans rfl
             have hcz147_1 : w123.cell? ⟨gb211, 1, none⟩ = some (.slice none 0 0) := (blk_cell BK211.out 1).trans rfl
             have hfz147_0 := blk_frozen BK211.out 0
             have hfz147_1 := blk_frozen BK211.out 1
             have hnb148 := NB166_151.out
             have hnc148 := NB151_166.out
             have hnb149 := NB166_173.out
             have hnc149 := NB173_166.out
             have hnb150 := NB166_181.out
             have hnc150 := NB181_166.out
             have hcz151_0 : w123.cell? ⟨gb166, 0, none⟩ = some (.slice Ao21 t159.length co21) := (blk_cell BK166.out 0).trans rfl
             have hcz151_1 : w123.cell? ⟨gb166, 1, none⟩ = some (.slice Ao24 t162.length co24) := (blk_cell BK166.out 1).trans rfl
             have hfz151_0 := blk_frozen BK166.out 0
             have hfz151_1 := blk_frozen BK166.out 1
             go_wp2_with (first | ((with_reducible refine gate_callee (f := 20) rfl ?_); refine goesL_ (some 81) rfl rfl Try.func20 (by kernel_rfl) rfl #[.agg #[.slice Ao124 t204.length co124, .slice Ao130 t207.length co130], .agg #[.slice Ao21 t159.length co21, .slice Ao24 t162.length co24]] rfl (by (try simp only [List.map_toArray, List.map_cons, List.map_nil]); first | done | rfl | (simp only [List.length_drop, List.length_take]; rfl)) ?_; (with_reducible refine (laws_eqRecord.calls kj63 _ _ t204 _ _ t207 _ _ t159 _ _ t162 false _ ?side1 ?side2 ?side3 ?side4 ?side5 ?side6 ?side7 ?side8 A131.out).mono ?_); (case side1 => refine (Kd.R_reads' (e := 86) (base := w.heap.size) (ok := fun k_ => ((((True ∧ some k_ ≠ (.slice Ao21 t159.length co21 : Value).ownBlock) ∧ some k_ ≠ (.slice Ao28 t191.length co28 : Value).ownBlock) ∧ some k_ ≠ (.slice Ao35 t174.length co35 : Value).ownBlock) ∧ some k_ ≠ (.slice Ao120 t198.length co120 : Value).ownBlock)) (n := t204.length) (c := co124) ?_).2.2; exact (rz_ (Kd.R_mono (Kd.R_far (p := ⟨gb211, 1, none⟩) (Kd.R_far (p := ⟨gb211, 0, none⟩) (Kd.R_types HO206.out BK211.out (by decide)) (fun _ hk => hk.2) (.slice Ao124 t204.length co124)) (fun _ hk => hk.2) (.slice Ao130 t207.length co130)) (fun _ h_ => h_.1)))); (case side2 => exact (Kd.R_reads' HO206.out).2.1); (case side3 => refine (Kd.R_reads' (e := 95) (base := w.heap.size) (ok := fun k_ => ((((True ∧ some k_ ≠ (.slice Ao24 t162.length co24 : Value).ownBlock) ∧ some k_ ≠ (.slice Ao32 t192.length co32 : Value).ownBlock) ∧ some k_ ≠ (.slice Ao40 t177.length co40 : Value).ownBlock) ∧ some k_ ≠ (.slice Ao121 t201.length co121 : Value).ownBlock)) (n := t207.length) (c := co130) ?_).2.2; exact (rz_ (Kd.R_mono (Kd.R_far (p := ⟨gb211, 1, none⟩) (Kd.R_far (p := ⟨gb211, 0, none⟩) (Kd.R_types HO209.out BK211.out (by decide)) (fun _ hk => hk.2) (.slice Ao124 t204.length co124)) (fun _ hk => hk.2) (.slice Ao130 t207.length co130)) (fun _ h_ => h_.1)))); (case side4 => exact (Kd.R_reads' HO209.out).2.1); (case side5 => refine (Kd.R_reads' (e := 86) (base := w.heap.size) (ok := fun k_ => (((some k_ ≠ (.slice Ao28 t191.length co28 : Value).ownBlock ∧ some k_ ≠ (.slice Ao35 t174.length co35 : Value).ownBlock) ∧ some k_ ≠ (.slice Ao120 t198.length co120 : Value).ownBlock) ∧ some k_ ≠ (.slice Ao124 t204.length co124 : Value).ownBlock)) (n := t159.length) (c := co21) ?_).2.2; exact (rz_ (Kd.R_mono (Kd.R_far (p := ⟨gb211, 1, none⟩) (Kd.R_far (p := ⟨gb211, 0, none⟩) (Kd.R_types HO_167000.out BK211.out (by decide)) (fun _ hk => hk.2) (.slice Ao124 t204.length co124)) (fun _ hk => hk.2) (.slice Ao130 t207.length co130)) (fun _ h_ => h_.1)))); (case side6 => exact (Kd.R_reads' HO_167000.out).2.1); (case side7 => refine (Kd.R_reads' (e := 95) (base := w.heap.size) (ok := fun k_ => (((some k_ ≠ (.slice Ao32 t192.length co32 : Value).ownBlock ∧ some k_ ≠ (.slice Ao40 t177.length co40 : Value).ownBlock) ∧ some k_ ≠ (.slice Ao121 t201.length co121 : Value).ownBlock) ∧ some k_ ≠ (.slice Ao130 t207.length co130 : Value).ownBlock)) (n := t162.length) (c := co24) ?_).2.2; exact (rz_ (Kd.R_mono (Kd.R_far (p := ⟨gb211, 1, none⟩) (Kd.R_far (p := ⟨gb211, 0, none⟩) (Kd.R_types HO_167001.out BK211.out (by decide)) (fun _ hk => hk.2) (.slice Ao124 t204.length co124)) (fun _ hk => hk.2) (.slice Ao130 t207.length co130)) (fun _ h_ => h_.1)))); (case side8 => exact (Kd.R_reads' HO_167001.out).2.1); rintro e w152 ⟨rfl, hb⟩; refine ⟨_, rfl, ?_⟩; have n0_ := Aside0.mk (Kd.R_below (rz_ (Kd.R_mono (Kd.R_far (p := ⟨gb211, 1, none⟩) (Kd.R_far (p := ⟨gb211, 0, none⟩) (Kd.R_types HO_167000.out BK211.out (by decide)) (fun _ hk => hk.2) (.slice Ao124 t204.length co124)) (fun _ hk => hk.2) (.slice Ao130 t207.length co130)) (fun _ h_ => h_.1))) hb); have n1_ := Aside0.mk (Kd.R_below (rz_ (Kd.R_mono (Kd.R_far (p := ⟨gb211, 1, none⟩) (Kd.R_far (p := ⟨gb211, 0, none⟩) (Kd.R_types HO_167001.out BK211.out (by decide)) (fun _ hk => hk.2) (.slice Ao124 t204.length co124)) (fun _ hk => hk.2) (.slice Ao130 t207.length co130)) (fun _ h_ => h_.1))) hb); have n2_ := Aside0.mk (Kd.R_below (rz_ (Kd.R_mono (Kd.R_far (p := ⟨gb211, 1, none⟩) (Kd.R_far (p := ⟨gb211, 0, none⟩) (Kd.R_types HO_174000.out BK211.out (by decide)) (fun _ hk => hk.2) (.slice Ao124 t204.length co124)) (fun _ hk => hk.2) (.slice Ao130 t207.length co130)) (fun _ h_ => h_.1))) hb); have n3_ := Aside0.mk (Kd.R_below (rz_ (Kd.R_mono (Kd.R_far (p := ⟨gb211, 1, none⟩) (Kd.R_far (p := ⟨gb211, 0, none⟩) (Kd.R_types HO_174001.out BK211.out (by decide)) (fun _ hk => hk.2) (.slice Ao124 t204.length co124)) (fun _ hk => hk.2) (.slice Ao130 t207.length co130)) (fun _ h_ => h_.1))) hb); have n4_ := Aside0.mk (Kd.R_below (rz_ (Kd.R_mono (Kd.R_far (p := ⟨gb211, 1, none⟩) (Kd.R_far (p := ⟨gb211, 0, none⟩) (Kd.R_types HO_182000.out BK211.out (by decide)) (fun _ hk => hk.2) (.slice Ao124 t204.length co124)) (fun _ hk => hk.2) (.slice Ao130 t207.length co130)) (fun _ h_ => h_.1))) hb); have n5_ := Aside0.mk (Kd.R_below (rz_ (Kd.R_mono (Kd.R_far (p := ⟨gb211, 1, none⟩) (Kd.R_far (p := ⟨gb211, 0, none⟩) (Kd.R_types HO_182001.out BK211.out (by decide)) (fun _ hk => hk.2) (.slice Ao124 t204.length co124)) (fun _ hk => hk.2) (.slice Ao130 t207.length co130)) (fun _ h_ => h_.1))) hb); have n6_ := Aside0.mk (Kd.R_below (rz_ (Kd.R_mono (Kd.R_far (p := ⟨gb211, 1, none⟩) (Kd.R_far (p := ⟨gb211, 0, none⟩) (Kd.R_types HO200.out BK211.out (by decide)) (fun _ hk => hk.2) (.slice Ao124 t204.length co124)) (fun _ hk => hk.2) (.slice Ao130 t207.length co130)) (fun _ h_ => h_.1))) hb); have n7_ := Aside0.mk (Kd.R_below (rz_ (Kd.R_mono (Kd.R_far (p := ⟨gb211, 1, none⟩) (Kd.R_far (p := ⟨gb211, 0, none⟩) (Kd.R_types HO203.out BK211.out (by decide)) (fun _ hk => hk.2) (.slice Ao124 t204.length co124)) (fun _ hk => hk.2) (.slice Ao130 t207.length co130)) (fun _ h_ => h_.1))) hb); have n8_ := Aside0.mk (Kd.R_below (rz_ (Kd.R_mono (Kd.R_far (p := ⟨gb211, 1, none⟩) (Kd.R_far (p := ⟨gb211, 0, none⟩) (Kd.R_types HO206.out BK211.out (by decide)) (fun _ hk => hk.2) (.slice Ao124 t204.length co124)) (fun _ hk => hk.2) (.slice Ao130 t207.length co130)) (fun _ h_ => h_.1))) hb); have n9_ := Aside0.mk (Kd.R_below (rz_ (Kd.R_mono (Kd.R_far (p := ⟨gb211, 1, none⟩) (Kd.R_far (p := ⟨gb211, 0, none⟩) (Kd.R_types HO209.out BK211.out (by decide)) (fun _ hk => hk.2) (.slice Ao124 t204.length co124)) (fun _ hk => hk.2) (.slice Ao130 t207.length co130)) (fun _ h_ => h_.1))) hb); have n10_ := Aside0.mk (blk_below (g := gb151) (o := .cells #[.slice A0_0 l0_0.length c0_0, .slice A0_1 l0_1.length c0_1] 25 (0, 0)) (by (with_reducible repeat (first | refine blk_drewN ?_ _ | refine blk_drew ?_ | refine blk_alloc ?_ _)); refine blk_far ?_ NB151_211.out _; (with_reducible repeat (first | refine blk_drewN ?_ _ | refine blk_drew ?_ | refine blk_alloc ?_ _)); refine blk_far ?_ NB151_211.out _; (with_reducible repeat (first | refine blk_drewN ?_ _ | refine blk_drew ?_ | refine blk_alloc ?_ _)); exact BK151.out) hb); have n11_ := Aside0.mk (blk_below (g := gb166) (o := .cells #[.slice Ao21 t159.length co21, .slice Ao24 t162.length co24] 33 (0, 0)) (by (with_reducible repeat (first | refine blk_drewN ?_ _ | refine blk_drew ?_ | refine blk_alloc ?_ _)); refine blk_far ?_ NB166_211.out _; (with_reducible repeat (first | refine blk_drewN ?_ _ | refine blk_drew ?_ | refine blk_alloc ?_ _)); refine blk_far ?_ NB166_211.out _; (with_reducible repeat (first | refine blk_drewN ?_ _ | refine blk_drew ?_ | refine blk_alloc ?_ _)); exact BK166.out) hb); have n12_ := Aside0.mk (blk_below (g := gb173) (o := .cells #[.slice Ao28 t191.length co28, .slice Ao32 t192.length co32] 33 (0, 0)) (by (with_reducible repeat (first | refine blk_drewN ?_ _ | refine blk_drew ?_ | refine blk_alloc ?_ _)); refine blk_far ?_ NB173_211.out _; (with_reducible repeat (first | refine blk_drewN ?_ _ | refine blk_drew ?_ | refine blk_alloc ?_ _)); refine blk_far ?_ NB173_211.out _; (with_reducible repeat (first | refine blk_drewN ?_ _ | refine blk_drew ?_ | refine blk_alloc ?_ _)); exact BK173.out) hb); have n13_ := Aside0.mk (blk_below (g := gb181) (o := .cells #[.slice Ao35 t174.length co35, .slice Ao40 t177.length co40] 33 (0, 0)) (by (with_reducible repeat (first | refine blk_drewN ?_ _ | refine blk_drew ?_ | refine blk_alloc ?_ _)); refine blk_far ?_ NB181_211.out _; (with_reducible repeat (first | refine blk_drewN ?_ _ | refine blk_drew ?_ | refine blk_alloc ?_ _)); refine blk_far ?_ NB181_211.out _; (with_reducible repeat (first | refine blk_drewN ?_ _ | refine blk_drew ?_ | refine blk_alloc ?_ _)); exact BK181.out) hb); have n14_ := Aside0.mk (blk_below (g := gb211) (o := .cells #[.slice Ao124 t204.length co124, .slice Ao130 t207.length co130] 33 (0, 0)) (by (with_reducible repeat (first | refine blk_drewN ?_ _ | refine blk_drew ?_ | refine blk_alloc ?_ _)); refine blk_put (cs := #[.slice Ao124 t204.length co124, .slice none 0 0]) ?_ 1 _ rfl; (with_reducible repeat (first | refine blk_drewN ?_ _ | refine blk_drew ?_ | refine blk_alloc ?_ _)); refine blk_put (cs := #[.slice none 0 0, .slice none 0 0]) ?_ 0 _ rfl; (with_reducible repeat (first | refine blk_drewN ?_ _ | refine blk_drew ?_ | refine blk_alloc ?_ _)); exact BK211.out) hb); have n15_ := Aside0.mk (below_step (by repeat (first | (with_reducible first | exact HB.out | apply below_alloc | apply pw_below_drewN | apply below_drew1 | refine below_set ?_ GE151.out | refine below_set ?_ GE166.out | refine below_set ?_ GE173.out | refine below_set ?_ GE181.out | refine below_set ?_ GE211.out) | exact HB.out)) hb); clear HO_167000; clear HO_167001; clear HO_174000; clear HO_174001; clear HO_182000; clear HO_182001; clear HO200; clear HO203; clear HO206; clear HO209; clear BK151; clear BK166; clear BK173; clear BK181; clear BK211; clear HB; have HO_167000 := n0_; have HO_167001 := n1_; have HO_174000 := n2_; have HO_174001 := n3_; have HO_182000 := n4_; have HO_182001 := n5_; have HO200 := n6_; have HO203 := n7_; have HO206 := n8_; have HO209 := n9_; have BK151 := n10_; have BK166 := n11_; have BK173 := n12_; have BK181 := n13_; have BK211 := n14_; have HB := n15_; clear n0_ n1_ n2_ n3_ n4_ n5_ n6_ n7_ n8_ n9_ n10_ n11_ n12_ n13_ n14_ n15_; (try clear hb); (try clear hb2); (try clear hk); (try clear hi)))
             go_meet
             case rel => exact ⟨_, (true), (by first | rfl | (simp; done) | (simp [*]; done)), H', ⟨by have := HJ10.out; have := HJ63.out; first | omega | exact Nat.le_refl _⟩, ⟨by (try simp only [hl174000_63]); (try simp only [hl174001_63]); (with_reducible repeat (first | apply Kd.R_alloc | apply Kd.R_drewN | apply Kd.R_drew)); exact Kd.R_mono HO_167000.out (fun _ hk => ⟨hk.1.1.1, ⟨hk.1.1.2, hk.2⟩⟩)⟩, ⟨by (try simp only [hl174000_63]); (try simp only [hl174001_63]); (with_reducible repeat (first | apply Kd.R_alloc | apply Kd.R_drewN | apply Kd.R_drew)); exact Kd.R_mono HO_167001.out (fun _ hk => ⟨hk.1.1.1, ⟨hk.1.1.2, hk.2⟩⟩)⟩, ⟨by (try simp only [hl174000_63]); (try simp only [hl174001_63]); (with_reducible repeat (first | apply Kd.R_alloc | apply Kd.R_drewN | apply Kd.R_drew)); exact Kd.R_mono HO_174000.out (fun _ hk => ⟨hk.1.1.1, ⟨hk.1.1.2, hk.2⟩⟩)⟩, ⟨by (try simp only [hl174000_63]); (try simp only [hl174001_63]); (with_reducible repeat (first | apply Kd.R_alloc | apply Kd.R_drewN | apply Kd.R_drew)); exact Kd.R_mono HO_174001.out (fun _ hk => ⟨hk.1.1.1, ⟨hk.1.1.2, hk.2⟩⟩)⟩, ⟨by (try simp only [hl174000_63]); (try simp only [hl174001_63]); (with_reducible repeat (first | apply Kd.R_alloc | apply Kd.R_drewN | apply Kd.R_drew)); exact Kd.R_mono HO_182000.out (fun _ hk => ⟨hk.1.1.1, ⟨hk.1.1.2, hk.2⟩⟩)⟩, ⟨by (try simp only [hl174000_63]); (try simp only [hl174001_63]); (with_reducible repeat (first | apply Kd.R_alloc | apply Kd.R_drewN | apply Kd.R_drew)); exact Kd.R_mono HO_182001.out (fun _ hk => ⟨hk.1.1.1, ⟨hk.1.1.2, hk.2⟩⟩)⟩, ⟨by (try simp only [hl174000_63]); (try simp only [hl174001_63]); (with_reducible repeat (first | apply Kd.R_alloc | apply Kd.R_drewN | apply Kd.R_drew)); exact Kd.R_mono HO206.out (fun _ hk => ⟨hk.1.1.1.2, ⟨hk.1.1.2, hk.1.2⟩⟩)⟩, ⟨by (try simp only [hl174000_63]); (try simp only [hl174001_63]); (with_reducible repeat (first | apply Kd.R_alloc | apply Kd.R_drewN | apply Kd.R_drew)); exact Kd.R_mono HO209.out (fun _ hk => ⟨hk.1.1.1.2, ⟨hk.1.1.2, hk.1.2⟩⟩)⟩, ⟨by (try simp only [hl174000_63]); (try simp only [hl174001_63]); (with_reducible repeat (first | refine blk_drewN ?_ _ | refine blk_drew ?_ | refine blk_alloc ?_ _)); exact BK151.out⟩, ⟨by (try simp only [hl174000_63]); (try simp only [hl174001_63]); (with_reducible repeat (first | refine blk_drewN ?_ _ | refine blk_drew ?_ | refine blk_alloc ?_ _)); exact BK166.out⟩, ⟨by (try simp only [hl174000_63]); (try simp only [hl174001_63]); (with_reducible repeat (first | refine blk_drewN ?_ _ | refine blk_drew ?_ | refine blk_alloc ?_ _)); exact BK173.out⟩, ⟨by (try simp only [hl174000_63]); (try simp only [hl174001_63]); (with_reducible repeat (first | refine blk_drewN ?_ _ | refine blk_drew ?_ | refine blk_alloc ?_ _)); exact BK181.out⟩, ⟨by (try simp only [hl174000_63]); (try simp only [hl174001_63]); (with_reducible repeat (first | refine blk_drewN ?_ _ | refine blk_drew ?_ | refine blk_alloc ?_ _)); exact BK211.out⟩, ⟨by repeat (first | (with_reducible first | exact HB.out | apply below_alloc | apply pw_below_drewN | apply below_drew1 | refine below_set ?_ GE151.out | refine below_set ?_ GE166.out | refine below_set ?_ GE173.out | refine below_set ?_ GE181.out | refine below_set ?_ GE211.out) | exact HB.out)⟩⟩
           case rest =>
            clear HC108
            try clear c1
            try clear c2
            try clear p2
            try clear c3
            try clear c3b0
            try clear c4
            try clear c5
            try clear c6
            try clear c7
            try clear c8
            try clear c9
            try clear c10
            try clear c11
            try clear c12
            try clear c13
            try clear c14
            try clear c15
            try clear c17
            try clear c20
            try clear c21
            try clear c22
            try clear c29
            try clear c30
            try clear c31
            try clear c36
            try clear c37
            try clear c38
            try clear c42
            try clear c43
            try clear c44
            try clear c45
            try clear c47
            try clear c48
            try clear c51
            try clear c52
            try clear c53
            try clear c55
            try clear c56
            try clear c59
            try clear c62
            try clear c70
            try clear c71
            try clear c72
            try clear c75
            try clear c75b0
            try clear c77
            try clear c78
            try clear c79
            try clear c80
            try clear c82
            try clear c83
            try clear c86
            try clear c87
            try clear c88
            try clear c90
            try clear c91
            try clear c94
            try clear c97
            try clear c97b0
            try clear c98
            try clear c99
            try clear c100
            try clear c105
            try clear c105b0
            try clear c105b1
            try clear c109
            try clear c110
            try clear c111
            try clear c116
            try clear c117
            try clear c125
            try clear c126
            try clear c127
            try clear c128
            try clear c132
            try clear c133
            try clear c134
            try clear c135
            try clear c136
            try clear c138
            try clear c139
            try clear c140
            try clear c143
            try clear c144
            try clear c145
            try clear c146
            try clear c148
            try clear c149
            try clear c150
            try clear hcz101_0
            try clear hcz101_1
            try clear hcz103_0
            try clear hcz103_1
            try clear hcz112_0
            try clear hcz112_1
            try clear hcz114_0
            try clear hcz114_1
            try clear hcz118_0
            try clear hcz118_1
            try clear hcz129_0
            try clear hcz129_1
            try clear hcz137_0
            try clear hcz137_1
            try clear hcz13_0
            try clear hcz13_1
            try clear hcz141_0
            try clear hcz141_1
            try clear hcz147_0
            try clear hcz147_1
            try clear hcz151_0
            try clear hcz151_1
            try clear hcz15_0
            try clear hcz15_1
            try clear hcz23_0
            try clear hcz23_1
            try clear hcz25_0
            try clear hcz25_1
            try clear hcz31_0
            try clear hcz31_1
            try clear hcz39_0
            try clear hcz39_1
            try clear hcz46_0
            try clear hcz46_1
            try clear hcz49_0
            try clear hcz49_1
            try clear hcz54_0
            try clear hcz54_1
            try clear hcz57_0
            try clear hcz57_1
            try clear hcz5_0
            try clear hcz5_1
            try clear hcz73_0
            try clear hcz73_1
            try clear hcz81_0
            try clear hcz81_1
            try clear hcz84_0
            try clear hcz84_1
            try clear hcz89_0
            try clear hcz89_1
            try clear hcz92_0
            try clear hcz92_1
            try clear hfz101_0
            try clear hfz101_1
            try clear hfz103_0
            try clear hfz103_1
            try clear hfz112_0
            try clear hfz112_1
            try clear hfz114_0
            try clear hfz114_1
            try clear hfz118_0
            try clear hfz118_1
            try clear hfz129_0
            try clear hfz129_1
            try clear hfz137_0
            try clear hfz137_1
            try clear hfz13_0
            try clear hfz13_1
            try clear hfz141_0
            try clear hfz141_1
            try clear hfz147_0
            try clear hfz147_1
            try clear hfz151_0
            try clear hfz151_1
            try clear hfz15_0
            try clear hfz15_1
            try clear hfz23_0
            try clear hfz23_1
            try clear hfz25_0
            try clear hfz25_1
            try clear hfz31_0
            try clear hfz31_1
            try clear hfz39_0
            try clear hfz39_1
            try clear hfz46_0
            try clear hfz46_1
            try clear hfz49_0
            try clear hfz49_1
            try clear hfz54_0
            try clear hfz54_1
            try clear hfz57_0
            try clear hfz57_1
            try clear hfz5_0
            try clear hfz5_1
            try clear hfz73_0
            try clear hfz73_1
            try clear hfz81_0
            try clear hfz81_1
            try clear hfz84_0
            try clear hfz84_1
            try clear hfz89_0
            try clear hfz89_1
            try clear hfz92_0
            try clear hfz92_1
            try clear p2
            obtain ⟨kq, x87_107, rfl, HA, HJ107, HO_167000, HO_167001, HO_174000, HO_174001, HO_182000, HO_182001, HO_212000, HO_212001, BK151, BK166, BK173, BK181, BK211, HB⟩ := hcut
            have hl182000_107 := (Kd.R_reads' HO_182000.out).1
            rw [hl182000_107] at HO_182000
            (try simp only [hl182000_107])
            (try simp only [hl182000_107] at BK151)
            (try simp only [hl182000_107] at BK166)
            (try simp only [hl182000_107] at BK173)
            (try simp only [hl182000_107] at BK181)
            (try simp only [hl182000_107] at BK211)
            (try simp only [hl182000_107] at HO_167000)
            (try simp only [hl182000_107] at HO_167001)
            (try simp only [hl182000_107] at HO_174000)
            (try simp only [hl182000_107] at HO_174001)
            (try simp only [hl182000_107] at HO_182001)
            (try simp only [hl182000_107] at HO_212000)
            (try simp only [hl182000_107] at HO_212001)
            have hl182001_107 := (Kd.R_reads' HO_182001.out).1
            rw [hl182001_107] at HO_182001
            (try simp only [hl182001_107])
            (try simp only [hl182001_107] at BK151)
            (try simp only [hl182001_107] at BK166)
            (try simp only [hl182001_107] at BK173)
            (try simp only [hl182001_107] at BK181)
            (try simp only [hl182001_107] at BK211)
            (try simp only [hl182001_107] at HO_167000)
            (try simp only [hl182001_107] at HO_167001)
            (try simp only [hl182001_107] at HO_174000)
            (try simp only [hl182001_107] at HO_174001)
            (try simp only [hl182001_107] at HO_182000)
            (try simp only [hl182001_107] at HO_212000)
            (try simp only [hl182001_107] at HO_212001)
            cases kq with
            | zero => exact absurd HA.out (by simp [laws_FnExactCloseRecord.j2])
            | succ kj107 =>
             have H := HA.out
             clear HA
             simp only [laws_FnExactCloseRecord.j2] at H
             by_cases c153 : x87_107 = true
             ·subst c153
              have H1 : (some false) = some r := by rw [if_pos rfl] at H; exact H
              clear H
              have H := H1
              clear H1
              obtain rfl := Option.some.inj H
              go_wp2
              go_ret
              exact ⟨by first | rfl | (simp [errW_none, errW_some] <;> rfl) | (simp [*, errW_none, errW_some] <;> rfl), by repeat (first | (with_reducible first | exact HB.out | apply below_alloc | apply pw_below_drewN | apply below_drew1 | refine below_set ?_ GE151.out | refine below_set ?_ GE166.out | refine below_set ?_ GE173.out | refine below_set ?_ GE181.out | refine below_set ?_ GE211.out) | exact HB.out)⟩
             ·replace c153 := Bool.eq_false_iff.mpr c153
              subst c153
              have H1 : ((laws_heldRecord.f kj107 t195 t196 1).bind fun t213 => (if t213 < 0 then (some false) else (if t213 = t194 then (some true) else (some false)))) = some r := by rw [if_neg (show ¬ (false = true) by decide)] at H; exact H
              clear H
              have H := H1
              clear H1
              replace H := Option.bind_eq_some_iff.mp H
              obtain ⟨t213, A1540, H⟩ := H
              replace H : (if t213 < 0 then (some false) else (if t213 = t194 then (some true) else (some false))) = some r := H
              have A154 := Aside0.mk A1540
              clear A1540
              by_cases c155 : t213 < 0
              ·rw [if_pos c155] at H
               have c155b0 : decide (t213 < 0) = true := decide_eq_true c155
               clear c155
               obtain rfl := Option.some.inj H
               have hnb156 := NB181_151.out
               have hnc156 := NB151_181.out
               have hnb157 := NB181_166.out
               have hnc157 := NB166_181.out
               have hnb158 := NB181_173.out
               have hnc158 := NB173_181.out
               have hnb159 := NB181_211.out
               have hnc159 := NB211_181.out
               have hcz160_0 : wc.cell? ⟨gb181, 0, none⟩ = some (.slice Ao35 t195.length co35) := (blk_cell BK181.out 0).trans rfl
               have hcz160_1 : wc.cell? ⟨gb181, 1, none⟩ = some (.slice Ao40 t196.length co40) := (blk_cell BK181.out 1).trans rfl
               have hfz160_0 := blk_frozen BK181.out 0
               have hfz160_1 := blk_frozen BK181.out 1
               go_wp2_with (first | ((with_reducible refine gate_callee (f := 31) rfl ?_); refine goesL_ (some 90) rfl rfl Try.func31 (by kernel_rfl) rfl #[.agg #[.slice Ao35 t195.length co35, .slice Ao40 t196.length co40], .int .i64 1] rfl (by (try simp only [List.map_toArray, List.map_cons, List.map_nil]); first | done | rfl | (simp only [List.length_drop, List.length_take]; rfl)) ?_; (with_reducible refine (laws_heldRecord.calls kj107 _ _ t195 _ _ t196 1 t213 _ ?side1 ?side2 ?side3 ?side4 A154.out).mono ?_); (case side1 => exact cz_ (Kd.R_reads' HO_182000.out).2.2); (case side2 => exact (Kd.R_reads' HO_182000.out).2.1); (case side3 => exact cz_ (Kd.R_reads' HO_182001.out).2.2); (case side4 => exact (Kd.R_reads' HO_182001.out).2.1); rintro e w161 ⟨rfl, hb⟩; refine ⟨_, rfl, ?_⟩; have n0_ := Aside0.mk (Kd.R_below (rz_ HO_167000.out) hb); have n1_ := Aside0.mk (Kd.R_below (rz_ HO_167001.out) hb); have n2_ := Aside0.mk (Kd.R_below (rz_ HO_174000.out) hb); have n3_ := Aside0.mk (Kd.R_below (rz_ HO_174001.out) hb); have n4_ := Aside0.mk (Kd.R_below (rz_ HO_182000.out) hb); have n5_ := Aside0.mk (Kd.R_below (rz_ HO_182001.out) hb); have n6_ := Aside0.mk (Kd.R_below (rz_ HO_212000.out) hb); have n7_ := Aside0.mk (Kd.R_below (rz_ HO_212001.out) hb); have n8_ := Aside0.mk (blk_below (bz_ BK151.out) hb); have n9_ := Aside0.mk (blk_below (bz_ BK166.out) hb); have n10_ := Aside0.mk (blk_below (bz_ BK173.out) hb); have n11_ := Aside0.mk (blk_below (bz_ BK181.out) hb); have n12_ := Aside0.mk (blk_below (bz_ BK211.out) hb); have n13_ := Aside0.mk (below_step (by repeat (first | (with_reducible first | exact HB.out | apply below_alloc | apply pw_below_drewN | apply below_drew1 | refine below_set ?_ GE151.out | refine below_set ?_ GE166.out | refine below_set ?_ GE173.out | refine below_set ?_ GE181.out | refine below_set ?_ GE211.out) | exact HB.out)) hb); clear HO_167000; clear HO_167001; clear HO_174000; clear HO_174001; clear HO_182000; clear HO_182001; clear HO_212000; clear HO_212001; clear BK151; clear BK166; clear BK173; clear BK181; clear BK211; clear HB; have HO_167000 := n0_; have HO_167001 := n1_; have HO_174000 := n2_; have HO_174001 := n3_; have HO_182000 := n4_; have HO_182001 := n5_; have HO_212000 := n6_; have HO_212001 := n7_; have BK151 := n8_; have BK166 := n9_; have BK173 := n10_; have BK181 := n11_; have BK211 := n12_; have HB := n13_; clear n0_ n1_ n2_ n3_ n4_ n5_ n6_ n7_ n8_ n9_ n10_ n11_ n12_ n13_; (try clear hb); (try clear hb2); (try clear hk); (try clear hi)))
               go_ret
               exact ⟨by first | rfl | (simp [errW_none, errW_some] <;> rfl) | (simp [*, errW_none, errW_some] <;> rfl), by repeat (first | (with_reducible first | exact HB.out | apply below_alloc | apply pw_below_drewN | apply below_drew1 | refine below_set ?_ GE151.out | refine below_set ?_ GE166.out | refine below_set ?_ GE173.out | refine below_set ?_ GE181.out | refine below_set ?_ GE211.out) | exact HB.out)⟩
              ·rw [if_neg c155] at H
               have c155b0 : decide (t213 < 0) = false := decide_eq_false c155
               clear c155
               by_cases c162 : t213 = t194
               ·rw [if_pos c162] at H
                have c162b0 : (t213 == t194) = true := beq_iff_eq.mpr c162
                have c162b1 : (t213 != t194) = false := bne_eq_false_iff_eq.mpr c162
                clear c162
                obtain rfl := Option.some.inj H
                have hnb163 := NB181_151.out
                have hnc163 := NB151_181.out
                have hnb164 := NB181_166.out
                have hnc164 := NB166_181.out
                have hnb165 := NB181_173.out
                have hnc165 := NB173_181.out
                have hnb166 := NB181_211.out
                have hnc166 := NB211_181.out
                have hcz167_0 : wc.cell? ⟨gb181, 0, none⟩ = some (.slice Ao35 t195.length co35) := (blk_cell BK181.out 0).trans rfl
                have hcz167_1 : wc.cell? ⟨gb181, 1, none⟩ = some (.slice Ao40 t196.length co40) := (blk_cell BK181.out 1).trans rfl
                have hfz167_0 := blk_frozen BK181.out 0
                have hfz167_1 := blk_frozen BK181.out 1
                go_wp2_with (first | ((with_reducible refine gate_callee (f := 31) rfl ?_); refine goesL_ (some 90) rfl rfl Try.func31 (by kernel_rfl) rfl #[.agg #[.slice Ao35 t195.length co35, .slice Ao40 t196.length co40], .int .i64 1] rfl (by (try simp only [List.map_toArray, List.map_cons, List.map_nil]); first | done | rfl | (simp only [List.length_drop, List.length_take]; rfl)) ?_; (with_reducible refine (laws_heldRecord.calls kj107 _ _ t195 _ _ t196 1 t213 _ ?side1 ?side2 ?side3 ?side4 A154.out).mono ?_); (case side1 => exact cz_ (Kd.R_reads' HO_182000.out).2.2); (case side2 => exact (Kd.R_reads' HO_182000.out).2.1); (case side3 => exact cz_ (Kd.R_reads' HO_182001.out).2.2); (case side4 => exact (Kd.R_reads' HO_182001.out).2.1); rintro e w168 ⟨rfl, hb⟩; refine ⟨_, rfl, ?_⟩; have n0_ := Aside0.mk (Kd.R_below (rz_ HO_167000.out) hb); have n1_ := Aside0.mk (Kd.R_below (rz_ HO_167001.out) hb); have n2_ := Aside0.mk (Kd.R_below (rz_ HO_174000.out) hb); have n3_ := Aside0.mk (Kd.R_below (rz_ HO_174001.out) hb); have n4_ := Aside0.mk (Kd.R_below (rz_ HO_182000.out) hb); have n5_ := Aside0.mk (Kd.R_below (rz_ HO_182001.out) hb); have n6_ := Aside0.mk (Kd.R_below (rz_ HO_212000.out) hb); have n7_ := Aside0.mk (Kd.R_below (rz_ HO_212001.out) hb); have n8_ := Aside0.mk (blk_below (bz_ BK151.out) hb); have n9_ := Aside0.mk (blk_below (bz_ BK166.out) hb); have n10_ := Aside0.mk (blk_below (bz_ BK173.out) hb); have n11_ := Aside0.mk (blk_below (bz_ BK181.out) hb); have n12_ := Aside0.mk (blk_below (bz_ BK211.out) hb); have n13_ := Aside0.mk (below_step (by repeat (first | (with_reducible first | exact HB.out | apply below_alloc | apply pw_below_drewN | apply below_drew1 | refine below_set ?_ GE151.out | refine below_set ?_ GE166.out | refine below_set ?_ GE173.out | refine below_set ?_ GE181.out | refine below_set ?_ GE211.out) | exact HB.out)) hb); clear HO_167000; clear HO_167001; clear HO_174000; clear HO_174001; clear HO_182000; clear HO_182001; clear HO_212000; clear HO_212001; clear BK151; clear BK166; clear BK173; clear BK181; clear BK211; clear HB; have HO_167000 := n0_; have HO_167001 := n1_; have HO_174000 := n2_; have HO_174001 := n3_; have HO_182000 := n4_; have HO_182001 := n5_; have HO_212000 := n6_; have HO_212001 := n7_; have BK151 := n8_; have BK166 := n9_; have BK173 := n10_; have BK181 := n11_; have BK211 := n12_; have HB := n13_; clear n0_ n1_ n2_ n3_ n4_ n5_ n6_ n7_ n8_ n9_ n10_ n11_ n12_ n13_; (try clear hb); (try clear hb2); (try clear hk); (try clear hi)))
                go_ret
                exact ⟨by first | rfl | (simp [errW_none, errW_some] <;> rfl) | (simp [*, errW_none, errW_some] <;> rfl), by repeat (first | (with_reducible first | exact HB.out | apply below_alloc | apply pw_below_drewN | apply below_drew1 | refine below_set ?_ GE151.out | refine below_set ?_ GE166.out | refine below_set ?_ GE173.out | refine below_set ?_ GE181.out | refine below_set ?_ GE211.out) | exact HB.out)⟩
               ·rw [if_neg c162] at H
                have c162b0 : (t213 == t194) = false := beq_eq_false_iff_ne.mpr c162
                have c162b1 : (t213 != t194) = true := bne_iff_ne.mpr c162
                obtain rfl := Option.some.inj H
                have hnb169 := NB181_151.out
                have hnc169 := NB151_181.out
                have hnb170 := NB181_166.out
                have hnc170 := NB166_181.out
                have hnb171 := NB181_173.out
                have hnc171 := NB173_181.out
                have hnb172 := NB181_211.out
                have hnc172 := NB211_181.out
                have hcz173_0 : wc.cell? ⟨gb181, 0, none⟩ = some (.slice Ao35 t195.length co35) := (blk_cell BK181.out 0).trans rfl
                have hcz173_1 : wc.cell? ⟨gb181, 1, none⟩ = some (.slice Ao40 t196.length co40) := (blk_cell BK181.out 1).trans rfl
                have hfz173_0 := blk_frozen BK181.out 0
                have hfz173_1 := blk_frozen BK181.out 1
                go_wp2_with (first | ((with_reducible refine gate_callee (f := 31) rfl ?_); refine goesL_ (some 90) rfl rfl Try.func31 (by kernel_rfl) rfl #[.agg #[.slice Ao35 t195.length co35, .slice Ao40 t196.length co40], .int .i64 1] rfl (by (try simp only [List.map_toArray, List.map_cons, List.map_nil]); first | done | rfl | (simp only [List.length_drop, List.length_take]; rfl)) ?_; (with_reducible refine (laws_heldRecord.calls kj107 _ _ t195 _ _ t196 1 t213 _ ?side1 ?side2 ?side3 ?side4 A154.out).mono ?_); (case side1 => exact cz_ (Kd.R_reads' HO_182000.out).2.2); (case side2 => exact (Kd.R_reads' HO_182000.out).2.1); (case side3 => exact cz_ (Kd.R_reads' HO_182001.out).2.2); (case side4 => exact (Kd.R_reads' HO_182001.out).2.1); rintro e w174 ⟨rfl, hb⟩; refine ⟨_, rfl, ?_⟩; have n0_ := Aside0.mk (Kd.R_below (rz_ HO_167000.out) hb); have n1_ := Aside0.mk (Kd.R_below (rz_ HO_167001.out) hb); have n2_ := Aside0.mk (Kd.R_below (rz_ HO_174000.out) hb); have n3_ := Aside0.mk (Kd.R_below (rz_ HO_174001.out) hb); have n4_ := Aside0.mk (Kd.R_below (rz_ HO_182000.out) hb); have n5_ := Aside0.mk (Kd.R_below (rz_ HO_182001.out) hb); have n6_ := Aside0.mk (Kd.R_below (rz_ HO_212000.out) hb); have n7_ := Aside0.mk (Kd.R_below (rz_ HO_212001.out) hb); have n8_ := Aside0.mk (blk_below (bz_ BK151.out) hb); have n9_ := Aside0.mk (blk_below (bz_ BK166.out) hb); have n10_ := Aside0.mk (blk_below (bz_ BK173.out) hb); have n11_ := Aside0.mk (blk_below (bz_ BK181.out) hb); have n12_ := Aside0.mk (blk_below (bz_ BK211.out) hb); have n13_ := Aside0.mk (below_step (by repeat (first | (with_reducible first | exact HB.out | apply below_alloc | apply pw_below_drewN | apply below_drew1 | refine below_set ?_ GE151.out | refine below_set ?_ GE166.out | refine below_set ?_ GE173.out | refine below_set ?_ GE181.out | refine below_set ?_ GE211.out) | exact HB.out)) hb); clear HO_167000; clear HO_167001; clear HO_174000; clear HO_174001; clear HO_182000; clear HO_182001; clear HO_212000; clear HO_212001; clear BK151; clear BK166; clear BK173; clear BK181; clear BK211; clear HB; have HO_167000 := n0_; have HO_167001 := n1_; have HO_174000 := n2_; have HO_174001 := n3_; have HO_182000 := n4_; have HO_182001 := n5_; have HO_212000 := n6_; have HO_212001 := n7_; have BK151 := n8_; have BK166 := n9_; have BK173 := n10_; have BK181 := n11_; have BK211 := n12_; have HB := n13_; clear n0_ n1_ n2_ n3_ n4_ n5_ n6_ n7_ n8_ n9_ n10_ n11_ n12_ n13_; (try clear hb); (try clear hb2); (try clear hk); (try clear hi)))
                go_ret
                exact ⟨by first | rfl | (simp [errW_none, errW_some] <;> rfl) | (simp [*, errW_none, errW_some] <;> rfl), by repeat (first | (with_reducible first | exact HB.out | apply below_alloc | apply pw_below_drewN | apply below_drew1 | refine below_set ?_ GE151.out | refine below_set ?_ GE166.out | refine below_set ?_ GE173.out | refine below_set ?_ GE181.out | refine below_set ?_ GE211.out) | exact HB.out)⟩
          ·rw [if_neg c105] at H
           have c105b0 : (t197 == t194) = false := beq_eq_false_iff_ne.mpr c105
           have c105b1 : (t197 != t194) = true := bne_iff_ne.mpr c105
           obtain rfl := Option.some.inj H
           have hnb175 := NB181_151.out
           have hnc175 := NB151_181.out
           have hnb176 := NB181_166.out
           have hnc176 := NB166_181.out
           have hnb177 := NB181_173.out
           have hnc177 := NB173_181.out
           have hcz178_0 : wc.cell? ⟨gb181, 0, none⟩ = some (.slice Ao35 t174.length co35) := (blk_cell BK181.out 0).trans rfl
           have hcz178_1 : wc.cell? ⟨gb181, 1, none⟩ = some (.slice Ao40 t177.length co40) := (blk_cell BK181.out 1).trans rfl
           have hfz178_0 := blk_frozen BK181.out 0
           have hfz178_1 := blk_frozen BK181.out 1
           go_wp2_with (first | ((with_reducible refine gate_callee (f := 21) rfl ?_); refine goesL_ (some 64) rfl rfl Try.func21 (by kernel_rfl) rfl #[.agg #[.slice Ao35 t174.length co35, .slice Ao40 t177.length co40], .int .i64 1] rfl (by (try simp only [List.map_toArray, List.map_cons, List.map_nil]); first | done | rfl | (simp only [List.length_drop, List.length_take]; rfl)) ?_; (with_reducible refine (laws_markRecord.calls kj63 (fun k_ => some k_ = (.slice Ao35 t174.length co35 : Value).ownBlock) (.slice Ao35 t174.length co35) t174 (fun k_ => some k_ = (.slice Ao40 t177.length co40 : Value).ownBlock) (.slice Ao40 t177.length co40) t177 1 t194 t195 t196 w _ ?side1 ?side2 ?side3 A95.out).mono ?_); (case side1 => repeat (first | (with_reducible first | exact HB.out | apply below_alloc | apply pw_below_drewN | apply below_drew1 | refine below_set ?_ GE151.out | refine below_set ?_ GE166.out | refine below_set ?_ GE173.out | refine below_set ?_ GE181.out) | exact HB.out)); (case side2 => exact Kd.R_tight rfl HO_182000.out); (case side3 => exact Kd.R_tight rfl HO_182001.out); rintro e w179 ⟨rfl, hy0, hy1, hb, hkp⟩; refine ⟨_, rfl, ?_⟩; have n0_ := Aside0.mk (Kd.R_mono (ok' := fun k_ => some k_ ≠ (.slice Ao28 t191.length co28 : Value).ownBlock ∧ some k_ ≠ (.slice Ao35 t174.length co35 : Value).ownBlock) (Kd.R_keptB ((Kd.R_apart' HO_167000.out (Kd.R_typed HO_182001.out) (by decide))) hkp (fun k_ hk_ hs_ => Or.elim hs_ (fun e_ => (hk_.1.2) e_) (fun e_ => (hk_.2) e_))) (fun k_ hk_ => ⟨hk_.1.1.1, hk_.1.1.2⟩)); have n1_ := Aside0.mk (Kd.R_mono (ok' := fun k_ => some k_ ≠ (.slice Ao32 t192.length co32 : Value).ownBlock ∧ some k_ ≠ (.slice Ao40 t177.length co40 : Value).ownBlock) (Kd.R_keptB ((Kd.R_apart' HO_167001.out (Kd.R_typed HO_182000.out) (by decide))) hkp (fun k_ hk_ hs_ => Or.elim hs_ (fun e_ => (hk_.2) e_) (fun e_ => (hk_.1.2) e_))) (fun k_ hk_ => ⟨hk_.1.1.1, hk_.1.1.2⟩)); have n2_ := Aside0.mk (Kd.R_mono (ok' := fun k_ => some k_ ≠ (.slice Ao21 t159.length co21 : Value).ownBlock ∧ some k_ ≠ (.slice Ao35 t174.length co35 : Value).ownBlock) (Kd.R_keptB ((Kd.R_apart' HO_174000.out (Kd.R_typed HO_182001.out) (by decide))) hkp (fun k_ hk_ hs_ => Or.elim hs_ (fun e_ => (hk_.1.2) e_) (fun e_ => (hk_.2) e_))) (fun k_ hk_ => ⟨hk_.1.1.1, hk_.1.1.2⟩)); have n3_ := Aside0.mk (Kd.R_mono (ok' := fun k_ => some k_ ≠ (.slice Ao24 t162.length co24 : Value).ownBlock ∧ some k_ ≠ (.slice Ao40 t177.length co40 : Value).ownBlock) (Kd.R_keptB ((Kd.R_apart' HO_174001.out (Kd.R_typed HO_182000.out) (by decide))) hkp (fun k_ hk_ hs_ => Or.elim hs_ (fun e_ => (hk_.2) e_) (fun e_ => (hk_.1.2) e_))) (fun k_ hk_ => ⟨hk_.1.1.1, hk_.1.1.2⟩)); have n4_ := Aside0.mk (Kd.R_reok rfl hy0 (fun k_ e_ => HO_182000.out.1 k_ e_)); have n5_ := Aside0.mk (Kd.R_reok rfl hy1 (fun k_ e_ => HO_182001.out.1 k_ e_)); have n6_ := Aside0.mk (blk_kept (bz_ BK151.out) hkp (fun hs_ => Or.elim hs_ (fun e_ => (fun e_ => (Kd.R_ne HO_182000.out BK151.out (by decide)) e_) e_) (fun e_ => (fun e_ => (Kd.R_ne HO_182001.out BK151.out (by decide)) e_) e_))); have n7_ := Aside0.mk (blk_kept (bz_ BK166.out) hkp (fun hs_ => Or.elim hs_ (fun e_ => (fun e_ => (Kd.R_ne HO_182000.out BK166.out (by decide)) e_) e_) (fun e_ => (fun e_ => (Kd.R_ne HO_182001.out BK166.out (by decide)) e_) e_))); have n8_ := Aside0.mk (blk_kept (bz_ BK173.out) hkp (fun hs_ => Or.elim hs_ (fun e_ => (fun e_ => (Kd.R_ne HO_182000.out BK173.out (by decide)) e_) e_) (fun e_ => (fun e_ => (Kd.R_ne HO_182001.out BK173.out (by decide)) e_) e_))); have n9_ := Aside0.mk (blk_kept (bz_ BK181.out) hkp (fun hs_ => Or.elim hs_ (fun e_ => (fun e_ => (Kd.R_ne HO_182000.out BK181.out (by decide)) e_) e_) (fun e_ => (fun e_ => (Kd.R_ne HO_182001.out BK181.out (by decide)) e_) e_))); have n10_ := Aside0.mk (hb); clear HO_167000; clear HO_167001; clear HO_174000; clear HO_174001; clear HO_182000; clear HO_182001; clear BK151; clear BK166; clear BK173; clear BK181; clear HB; have HO_167000 := n0_; have HO_167001 := n1_; have HO_174000 := n2_; have HO_174001 := n3_; have HO_182000 := n4_; have HO_182001 := n5_; have BK151 := n6_; have BK166 := n7_; have BK173 := n8_; have BK181 := n9_; have HB := n10_; clear n0_ n1_ n2_ n3_ n4_ n5_ n6_ n7_ n8_ n9_ n10_; (try clear hb); (try clear hkp); (try clear hy0); (try clear hy1); have hcz180_0 : w179.cell? ⟨gb181, 0, none⟩ = some (.slice Ao35 t174.length co35) := (blk_cell BK181.out 0).trans rfl; have hcz180_1 : w179.cell? ⟨gb181, 1, none⟩ = some (.slice Ao40 t177.length co40) := (blk_cell BK181.out 1).trans rfl; have hfz180_0 := blk_frozen BK181.out 0; have hfz180_1 := blk_frozen BK181.out 1) | ((with_reducible refine gate_callee (f := 31) rfl ?_); refine goesL_ (some 67) rfl rfl Try.func31 (by kernel_rfl) rfl #[.agg #[.slice Ao35 t195.length co35, .slice Ao40 t196.length co40], .int .i64 1] rfl (by (try simp only [List.map_toArray, List.map_cons, List.map_nil]); first | done | (rw [show t195.length = t174.length from (Kd.R_reads' HO_182000.out).1.symm, show t196.length = t177.length from (Kd.R_reads' HO_182001.out).1.symm] <;> rfl) | rfl | (simp only [List.length_drop, List.length_take]; rfl)) ?_; (with_reducible refine (laws_heldRecord.calls kj63 _ _ t195 _ _ t196 1 t197 _ ?side1 ?side2 ?side3 ?side4 A96.out).mono ?_); (case side1 => exact cz_ (Kd.R_reads' HO_182000.out).2.2); (case side2 => rw [show t195.length = t174.length from (Kd.R_reads' HO_182000.out).1.symm]; exact (Kd.R_reads' HO_182000.out).2.1); (case side3 => exact cz_ (Kd.R_reads' HO_182001.out).2.2); (case side4 => rw [show t196.length = t177.length from (Kd.R_reads' HO_182001.out).1.symm]; exact (Kd.R_reads' HO_182001.out).2.1); rintro e w181 ⟨rfl, hb⟩; refine ⟨_, rfl, ?_⟩; have n0_ := Aside0.mk (Kd.R_below (rz_ HO_167000.out) hb); have n1_ := Aside0.mk (Kd.R_below (rz_ HO_167001.out) hb); have n2_ := Aside0.mk (Kd.R_below (rz_ HO_174000.out) hb); have n3_ := Aside0.mk (Kd.R_below (rz_ HO_174001.out) hb); have n4_ := Aside0.mk (Kd.R_below (rz_ HO_182000.out) hb); have n5_ := Aside0.mk (Kd.R_below (rz_ HO_182001.out) hb); have n6_ := Aside0.mk (blk_below (bz_ BK151.out) hb); have n7_ := Aside0.mk (blk_below (bz_ BK166.out) hb); have n8_ := Aside0.mk (blk_below (bz_ BK173.out) hb); have n9_ := Aside0.mk (blk_below (bz_ BK181.out) hb); have n10_ := Aside0.mk (below_step (by repeat (first | (with_reducible first | exact HB.out | apply below_alloc | apply pw_below_drewN | apply below_drew1 | refine below_set ?_ GE151.out | refine below_set ?_ GE166.out | refine below_set ?_ GE173.out | refine below_set ?_ GE181.out) | exact HB.out)) hb); clear HO_167000; clear HO_167001; clear HO_174000; clear HO_174001; clear HO_182000; clear HO_182001; clear BK151; clear BK166; clear BK173; clear BK181; clear HB; have HO_167000 := n0_; have HO_167001 := n1_; have HO_174000 := n2_; have HO_174001 := n3_; have HO_182000 := n4_; have HO_182001 := n5_; have BK151 := n6_; have BK166 := n7_; have BK173 := n8_; have BK181 := n9_; have HB := n10_; clear n0_ n1_ n2_ n3_ n4_ n5_ n6_ n7_ n8_ n9_ n10_; (try clear hb); (try clear hb2); (try clear hk); (try clear hi)))
           go_ret
           exact ⟨by first | rfl | (simp [errW_none, errW_some] <;> rfl) | (simp [*, errW_none, errW_some] <;> rfl), by repeat (first | (with_reducible first | exact HB.out | apply below_alloc | apply pw_below_drewN | apply below_drew1 | refine below_set ?_ GE151.out | refine below_set ?_ GE166.out | refine below_set ?_ GE173.out | refine below_set ?_ GE181.out) | exact HB.out)⟩
     ·replace c62 := Bool.eq_false_iff.mpr c62
      subst c62
      have H1 : (some false) = some r := by rw [if_neg (show ¬ (false = true) by decide)] at H; exact H
      clear H
      have H := H1
      clear H1
      obtain rfl := Option.some.inj H
      try go_wp2
      have n0_ := Aside0.mk (Kd.R_drew HO_167000.out)
      have n1_ := Aside0.mk (Kd.R_drew HO_167001.out)
      have n2_ := Aside0.mk (Kd.R_drew HO_174000.out)
      have n3_ := Aside0.mk (Kd.R_drew HO_174001.out)
      have n4_ := Aside0.mk (Kd.R_drew HO_182000.out)
      have n5_ := Aside0.mk (Kd.R_drew HO_182001.out)
      have n6_ := Aside0.mk (blk_drew BK151.out)
      have n7_ := Aside0.mk (blk_drew BK166.out)
      have n8_ := Aside0.mk (blk_drew BK173.out)
      have n9_ := Aside0.mk (blk_drew BK181.out)
      have n10_ := Aside0.mk (below_drew1 HB.out)
      clear HO_167000
      clear HO_167001
      clear HO_174000
      clear HO_174001
      clear HO_182000
      clear HO_182001
      clear BK151
      clear BK166
      clear BK173
      clear BK181
      clear HB
      have HO_167000 := n0_
      have HO_167001 := n1_
      have HO_174000 := n2_
      have HO_174001 := n3_
      have HO_182000 := n4_
      have HO_182001 := n5_
      have BK151 := n6_
      have BK166 := n7_
      have BK173 := n8_
      have BK181 := n9_
      have HB := n10_
      clear n0_ n1_ n2_ n3_ n4_ n5_ n6_ n7_ n8_ n9_ n10_
      refine start_ (n := 5) (S := fun w' => w'.cell? ⟨gb173, 0, none⟩ = some (.slice Ao28 t167.length co28) ∧ w'.cell? ⟨gb173, 1, none⟩ = some (.slice Ao32 t170.length co32) ∧ w'.cell? ⟨gb151, 0, none⟩ = some (.slice A0_0 l0_0.length c0_0) ∧ w'.cell? ⟨gb151, 1, none⟩ = some (.slice A0_1 l0_1.length c0_1)) (ds := []) #[false, false, false, false, false] (by kernel_rfl) rfl rfl ⟨(blk_cell BK173.out 0).trans rfl, (blk_cell BK173.out 1).trans rfl, (blk_cell BK151.out 0).trans rfl, (blk_cell BK151.out 1).trans rfl⟩ (fun hHeld => ?_)
      generalize wc.drew = w182 at HO_167000 HO_167001 HO_174000 HO_174001 HO_182000 HO_182001 BK151 BK166 BK173 BK181 HB hHeld ⊢
      refine take_ (i := 0) (N := some 41) (v := ?_) (a' := ?_) #[true, false, false, false, false] rfl rfl (by kernel_rfl) (fun _ _ _ h => h) (Or.inl ⟨by rfl, ?_⟩) hHeld ?_ ?_
      rotate_left
      ·rintro w' ⟨s0, s1, s2, s3⟩
       go_simp
       with_reducible rfl
      rotate_left
      ·simp only [Act.put, List.setIfInBounds_toArray, List.set_cons_zero, List.set_cons_succ, i64_w, i32_w]
       rfl
      refine take_ (i := 1) (N := some 42) (v := ?_) (a' := ?_) #[true, true, false, false, false] rfl rfl (by kernel_rfl) (fun _ _ _ h => h) (Or.inl ⟨by rfl, ?_⟩) hHeld ?_ ?_
      rotate_left
      ·rintro w' ⟨s0, s1, s2, s3⟩
       go_simp
       with_reducible rfl
      rotate_left
      ·simp only [Act.put, List.setIfInBounds_toArray, List.set_cons_zero, List.set_cons_succ, i64_w, i32_w]
       rfl
      refine one_ (i := 2) (N := some 43) (bl 3 5) rfl rfl (by kernel_rfl) (by decide) (fun K hK => ?_)
      refine goes_ Try.func17 (by kernel_rfl) rfl #[.agg #[.slice A0_0 l0_0.length c0_0, .slice A0_1 l0_1.length c0_1]] (by rfl) rfl rfl (by (try simp only [List.map_toArray, List.map_cons, List.map_nil]); first | done | rfl | (simp only [List.length_drop, List.length_take]; rfl)) ?_
      with_reducible refine (laws_toRecord.calls kj10 _ _ l0_0 _ _ l0_1 t183 t186 _ ?side1 ?side2 ?side3 ?side4 A60.out).mono ?_
      (case side1 => exact cz_ (Kd.C_below HR0_0.out HB.out))
      (case side2 => exact HC0_0.out)
      (case side3 => exact cz_ (Kd.C_below HR0_1.out HB.out))
      (case side4 => exact HC0_1.out)
      rintro e w183 ⟨v184, v187, rfl, ho0, ho1, hb⟩
      refine ⟨_, rfl, ?_⟩
      have n0_ := Aside0.mk (Kd.R_elder' (rz_ HO_167000.out) (Kd.R_base ho0) hb)
      have n1_ := Aside0.mk (Kd.R_elder' (rz_ HO_167001.out) (Kd.R_base ho1) hb)
      have n2_ := Aside0.mk (Kd.R_elder' (rz_ HO_174000.out) (Kd.R_base ho0) hb)
      have n3_ := Aside0.mk (Kd.R_elder' (rz_ HO_174001.out) (Kd.R_base ho1) hb)
      have n4_ := Aside0.mk (Kd.R_elder' (rz_ HO_182000.out) (Kd.R_base ho0) hb)
      have n5_ := Aside0.mk (Kd.R_elder' (rz_ HO_182001.out) (Kd.R_base ho1) hb)
      have n6_ := Aside0.mk (Kd.R_lower (Kd.R_new' (Kd.R_new' (Kd.R_new' ho0 (Kd.R_lt (rz_ HO_167000.out))) (Kd.R_lt (rz_ HO_174000.out))) (Kd.R_lt (rz_ HO_182000.out))) (below_size (by repeat (first | (with_reducible first | exact HB.out | apply below_alloc | apply pw_below_drewN | apply below_drew1 | refine below_set ?_ GE151.out | refine below_set ?_ GE166.out | refine below_set ?_ GE173.out | refine below_set ?_ GE181.out) | exact HB.out))))
      have n7_ := Aside0.mk (Kd.R_lower (Kd.R_new' (Kd.R_new' (Kd.R_new' ho1 (Kd.R_lt (rz_ HO_167001.out))) (Kd.R_lt (rz_ HO_174001.out))) (Kd.R_lt (rz_ HO_182001.out))) (below_size (by repeat (first | (with_reducible first | exact HB.out | apply below_alloc | apply pw_below_drewN | apply below_drew1 | refine below_set ?_ GE151.out | refine below_set ?_ GE166.out | refine below_set ?_ GE173.out | refine below_set ?_ GE181.out) | exact HB.out))))
      have n8_ := Aside0.mk (blk_below (bz_ BK151.out) hb)
      have n9_ := Aside0.mk (blk_below (bz_ BK166.out) hb)
      have n10_ := Aside0.mk (blk_below (bz_ BK173.out) hb)
      have n11_ := Aside0.mk (blk_below (bz_ BK181.out) hb)
      have n12_ := Aside0.mk (below_step (by repeat (first | (with_reducible first | exact HB.out | apply below_alloc | apply pw_below_drewN | apply below_drew1 | refine below_set ?_ GE151.out | refine below_set ?_ GE166.out | refine below_set ?_ GE173.out | refine below_set ?_ GE181.out) | exact HB.out)) hb)
      clear HO_167000
      clear HO_167001
      clear HO_174000
      clear HO_174001
      clear HO_182000
      clear HO_182001
      clear BK151
      clear BK166
      clear BK173
      clear BK181
      clear HB
      have HO_167000 := n0_
      have HO_167001 := n1_
      have HO_174000 := n2_
      have HO_174001 := n3_
      have HO_182000 := n4_
      have HO_182001 := n5_
      have HO185 := n6_
      have HO188 := n7_
      have BK151 := n8_
      have BK166 := n9_
      have BK173 := n10_
      have BK181 := n11_
      have HB := n12_
      clear n0_ n1_ n2_ n3_ n4_ n5_ n6_ n7_ n8_ n9_ n10_ n11_ n12_
      (try clear hb)
      (try clear hb2)
      (try clear hk)
      (try clear hi)
      (try clear ho0)
      (try clear ho1)
      obtain ⟨Ao184, co184, eo184⟩ := Kd.R_slice HO185.out
      (first | subst eo184 | (injection eo184 with f1_ f2_ f3_; have f4_ := f1_.symm; have f5_ := f3_.symm; clear f1_ f2_ f3_; subst f4_; subst f5_))
      obtain ⟨Ao185, co185, eo185⟩ := Kd.R_slice HO188.out
      (first | subst eo185 | (injection eo185 with f1_ f2_ f3_; have f4_ := f1_.symm; have f5_ := f3_.symm; clear f1_ f2_ f3_; subst f4_; subst f5_))
      refine hK.out _ _ ⟨(blk_cell BK173.out 0).trans rfl, (blk_cell BK173.out 1).trans rfl, (blk_cell BK151.out 0).trans rfl, (blk_cell BK151.out 1).trans rfl⟩ (fun hHeld => ?_)
      clear hK K
      refine norm_ (a' := ?_) ?_ ?_
      rotate_left
      ·show Act.put _ (some 43) _ = _
       simp only [Act.put, List.setIfInBounds_toArray, List.set_cons_zero, List.set_cons_succ, i64_w, i32_w]
       rfl
      refine one_ (i := 3) (N := some 44) (bl 4 5) rfl rfl (by kernel_rfl) (by decide) (fun K hK => ?_)
      refine goes_ Try.func20 (by kernel_rfl) rfl #[.agg #[.slice Ao28 t167.length co28, .slice Ao32 t170.length co32], .agg #[.slice Ao184 t183.length co184, .slice Ao185 t186.length co185]] (by rfl) rfl rfl (by (try simp only [List.map_toArray, List.map_cons, List.map_nil]); first | done | rfl | (simp only [List.length_drop, List.length_take]; rfl)) ?_
      with_reducible refine (laws_eqRecord.calls kj10 _ _ t167 _ _ t170 _ _ t183 _ _ t186 false _ ?side1 ?side2 ?side3 ?side4 ?side5 ?side6 ?side7 ?side8 A61.out).mono ?_
      (case side1 => exact cz_ (Kd.R_reads' HO_174000.out).2.2)
      (case side2 => exact (Kd.R_reads' HO_174000.out).2.1)
      (case side3 => exact cz_ (Kd.R_reads' HO_174001.out).2.2)
      (case side4 => exact (Kd.R_reads' HO_174001.out).2.1)
      (case side5 => exact cz_ (Kd.R_reads' HO185.out).2.2)
      (case side6 => exact (Kd.R_reads' HO185.out).2.1)
      (case side7 => exact cz_ (Kd.R_reads' HO188.out).2.2)
      (case side8 => exact (Kd.R_reads' HO188.out).2.1)
      rintro e w186 ⟨rfl, hb⟩
      refine ⟨_, rfl, ?_⟩
      have n0_ := Aside0.mk (Kd.R_below (rz_ HO_167000.out) hb)
      have n1_ := Aside0.mk (Kd.R_below (rz_ HO_167001.out) hb)
      have n2_ := Aside0.mk (Kd.R_below (rz_ HO_174000.out) hb)
      have n3_ := Aside0.mk (Kd.R_below (rz_ HO_174001.out) hb)
      have n4_ := Aside0.mk (Kd.R_below (rz_ HO_182000.out) hb)
      have n5_ := Aside0.mk (Kd.R_below (rz_ HO_182001.out) hb)
      have n6_ := Aside0.mk (Kd.R_below (rz_ HO185.out) hb)
      have n7_ := Aside0.mk (Kd.R_below (rz_ HO188.out) hb)
      have n8_ := Aside0.mk (blk_below (bz_ BK151.out) hb)
      have n9_ := Aside0.mk (blk_below (bz_ BK166.out) hb)
      have n10_ := Aside0.mk (blk_below (bz_ BK173.out) hb)
      have n11_ := Aside0.mk (blk_below (bz_ BK181.out) hb)
      have n12_ := Aside0.mk (below_step (by repeat (first | (with_reducible first | exact HB.out | apply below_alloc | apply pw_below_drewN | apply below_drew1 | refine below_set ?_ GE151.out | refine below_set ?_ GE166.out | refine below_set ?_ GE173.out | refine below_set ?_ GE181.out) | exact HB.out)) hb)
      clear HO_167000
      clear HO_167001
      clear HO_174000
      clear HO_174001
      clear HO_182000
      clear HO_182001
      clear HO185
      clear HO188
      clear BK151
      clear BK166
      clear BK173
      clear BK181
      clear HB
      have HO_167000 := n0_
      have HO_167001 := n1_
      have HO_174000 := n2_
      have HO_174001 := n3_
      have HO_182000 := n4_
      have HO_182001 := n5_
      have HO185 := n6_
      have HO188 := n7_
      have BK151 := n8_
      have BK166 := n9_
      have BK173 := n10_
      have BK181 := n11_
      have HB := n12_
      clear n0_ n1_ n2_ n3_ n4_ n5_ n6_ n7_ n8_ n9_ n10_ n11_ n12_
      (try clear hb)
      (try clear hb2)
      (try clear hk)
      (try clear hi)
      refine hK.out _ _ ⟨(blk_cell BK173.out 0).trans rfl, (blk_cell BK173.out 1).trans rfl, (blk_cell BK151.out 0).trans rfl, (blk_cell BK151.out 1).trans rfl⟩ (fun hHeld => ?_)
      clear hK K
      refine norm_ (a' := ?_) ?_ ?_
      rotate_left
      ·show Act.put _ (some 44) _ = _
       simp only [Act.put, List.setIfInBounds_toArray, List.set_cons_zero, List.set_cons_succ, i64_w, i32_w]
       rfl
      refine pure_ (i := 4) (N := some 45) (v := ?_) (a' := ?_) #[true, true, true, true, true] rfl rfl (by kernel_rfl) (fun _ _ _ h => h) (Or.inl ⟨by rfl, ?_⟩) ?_ ?_
      rotate_left
      ·intro w'
       go_simp
       with_reducible rfl
      rotate_left
      ·simp only [Act.put, List.setIfInBounds_toArray, List.set_cons_zero, List.set_cons_succ, i64_w, i32_w]
       rfl
      refine done_ (by kernel_rfl) ?_
      try go_wp2
      go_ret
      exact ⟨by first | rfl | (simp [errW_none, errW_some] <;> rfl) | (simp [*, errW_none, errW_some] <;> rfl), by repeat (first | (with_reducible first | exact HB.out | apply below_alloc | apply pw_below_drewN | apply below_drew1 | refine below_set ?_ GE151.out | refine below_set ?_ GE166.out | refine below_set ?_ GE173.out | refine below_set ?_ GE181.out) | exact HB.out)⟩

end Go.Proofs.Ytdiejmhphhdcfaa.Q

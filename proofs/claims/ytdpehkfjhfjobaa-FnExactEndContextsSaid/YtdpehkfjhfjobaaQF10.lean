-- Written by a program of this session (wip/xprint.py over the kit's printer).
import Derived.Test.YtdpehkfjhfjobaaQ0
import Derived.Test.YtdpehkfjhfjobaaQB0
import Derived.Test.YtdpehkfjhfjobaaQB1
import Derived.Test.YtdpehkfjhfjobaaQF24
import Derived.Test.YtdpehkfjhfjobaaQF26
import Derived.Test.YtdpehkfjhfjobaaQF27
import Derived.Test.YtdpehkfjhfjobaaQF42
import Derived.Test.YtdpehkfjhfjobaaQF43
import Derived.Test.YtdpehkfjhfjobaaQM0
namespace Go.Proofs.Ytdpehkfjhfjobaa.Q
open Go.RowKit Go.Proofs.YtdpehkfjhfjobaaW.PrintWords Go.Proofs.YtdpehkfjhfjobaaW.PrintLast Go.Proofs.YtdpehkfjhfjobaaW.PrintMore
attribute [local go_sem] max2_int min2_int max_two min_two max_three min_three max_four min_four   -- for this text's walks alone
set_option linter.unusedVariables false
set_option linter.unusedSimpArgs false

/-! ### laws_FnExactEndContexts: function 10 -/
mutual
def laws_FnExactEndContexts.j0 : Nat → List Int → List Int → Bool → List Int → List Int → Bool → Bool → List (S110) → List (S102) → List (S76) → List (S90) → Option (Bool)
 | 0, _, _, _, _, _, _, _, _, _, _, _ => none
 | k + 1, x4, x5, x6, x8, x9, x10, x51, x152000, x152001, x173000, x173001 => if x51 = true then (some false) else ((laws_toRecord.f k x152000 x152001).bind fun bt182 => ((laws_eqRecord.f k x173000 x173001 bt182.1 bt182.2).bind fun t188 => (if t188 = true then ((laws_markRecord.f k x173000 x173001 1).bind fun bt189 => (if bt189.1 < 0 then (laws_FnExactEndContexts.j1 k x4 x5 x6 x8 x9 true x152000 x152001) else ((laws_eqIntS.f k x8 x4).bind fun t192 => (if t192 = true then ((laws_eqIntS.f k x9 x5).bind fun t193 => (if t193 = true then (laws_FnExactEndContexts.j1 k x4 x5 x6 x8 x9 (x10 != x6) x152000 x152001) else (laws_FnExactEndContexts.j1 k x4 x5 x6 x8 x9 true x152000 x152001))) else (laws_FnExactEndContexts.j1 k x4 x5 x6 x8 x9 true x152000 x152001))))) else (some false))))
def laws_FnExactEndContexts.j1 : Nat → List Int → List Int → Bool → List Int → List Int → Bool → List (S110) → List (S102) → Option (Bool)
 | 0, _, _, _, _, _, _, _, _ => none
 | k + 1, x4, x5, x6, x8, x9, x78, x152000, x152001 => if x78 = true then (some false) else ((laws_markIntS.f k x8 1).bind fun bt194 => ((laws_markIntS.f k x9 bt194.1).bind fun bt196 => ((laws_heldIntS.f k bt194.2 1).bind fun t198 => (if t198 < 0 then (some false) else ((laws_heldIntS.f k bt196.2 t198).bind fun t199 => (if t199 < 0 then (some false) else (if t199 = bt196.1 then ((laws_toRecord.f k x152000 x152001).bind fun bt200 => ((impl_EndContexts.f bt200.1 bt200.2).bind fun bt206 => ((laws_eqIntS.f k bt206.1 x4).bind fun t213 => (if t213 = true then ((laws_eqIntS.f k bt206.2.1 x5).bind fun t214 => (if t214 = true then (laws_FnExactEndContexts.j2 k bt194.2 bt196.2 bt196.1 (bt206.2.2 != x6)) else (laws_FnExactEndContexts.j2 k bt194.2 bt196.2 bt196.1 true))) else (laws_FnExactEndContexts.j2 k bt194.2 bt196.2 bt196.1 true))))) else (some false))))))))
def laws_FnExactEndContexts.j2 : Nat → List Int → List Int → Int → Bool → Option (Bool)
 | 0, _, _, _, _ => none
 | k + 1, x8, x9, x12, x119 => if x119 = true then (some false) else ((laws_heldIntS.f k x8 1).bind fun t215 => (if t215 < 0 then (some false) else ((laws_heldIntS.f k x9 t215).bind fun t216 => (if t216 < 0 then (some false) else (if t216 = x12 then (some true) else (some false))))))
end
def laws_FnExactEndContexts.f (k : Nat) (l0_0 : List (S110)) (l0_1 : List (S102)) : Option (Bool) := (laws_szRecord.f l0_0 l0_1 1048576).bind fun t152 => (if t152 < 0 then (some true) else ((laws_toRecord.f k l0_0 l0_1).bind fun bt153 => ((spec_EndContexts.f k bt153.1 bt153.2).bind fun bt159 => ((laws_toRecord.f k l0_0 l0_1).bind fun bt166 => ((impl_EndContexts.f bt166.1 bt166.2).bind fun bt173 => ((laws_eqIntS.f k bt173.1 bt159.1).bind fun t180 => (if t180 = true then ((laws_eqIntS.f k bt173.2.1 bt159.2.1).bind fun t181 => (if t181 = true then (laws_FnExactEndContexts.j0 k bt159.1 bt159.2.1 bt159.2.2 bt173.1 bt173.2.1 bt173.2.2 (bt173.2.2 != bt159.2.2) l0_0 l0_1 bt166.1 bt166.2) else (laws_FnExactEndContexts.j0 k bt159.1 bt159.2.1 bt159.2.2 bt173.1 bt173.2.1 bt173.2.2 true l0_0 l0_1 bt166.1 bt166.2))) else (laws_FnExactEndContexts.j0 k bt159.1 bt159.2.1 bt159.2.2 bt173.1 bt173.2.1 bt173.2.2 true l0_0 l0_1 bt166.1 bt166.2))))))))
theorem laws_FnExactEndContexts.mono_l : ∀ k, (∀ y0 y1 y2 y3 y4 y5 y6 y7 y8 y9 y10, LeO (laws_FnExactEndContexts.j0 k y0 y1 y2 y3 y4 y5 y6 y7 y8 y9 y10) (laws_FnExactEndContexts.j0 (k + 1) y0 y1 y2 y3 y4 y5 y6 y7 y8 y9 y10)) ∧ (∀ y0 y1 y2 y3 y4 y5 y6 y7, LeO (laws_FnExactEndContexts.j1 k y0 y1 y2 y3 y4 y5 y6 y7) (laws_FnExactEndContexts.j1 (k + 1) y0 y1 y2 y3 y4 y5 y6 y7)) ∧ (∀ y0 y1 y2 y3, LeO (laws_FnExactEndContexts.j2 k y0 y1 y2 y3) (laws_FnExactEndContexts.j2 (k + 1) y0 y1 y2 y3))
 | 0 => ⟨fun _ _ _ _ _ _ _ _ _ _ _ r h => by simp [laws_FnExactEndContexts.j0] at h, fun _ _ _ _ _ _ _ _ r h => by simp [laws_FnExactEndContexts.j1] at h, fun _ _ _ _ r h => by simp [laws_FnExactEndContexts.j2] at h⟩
 | k + 1 => by
  obtain ⟨ih0, ih1, ih2⟩ := laws_FnExactEndContexts.mono_l k
  refine ⟨?_, ?_, ?_⟩
  ·intro y0 y1 y2 y3 y4 y5 y6 y7 y8 y9 y10
   unfold laws_FnExactEndContexts.j0
   repeat' first
   | (with_reducible exact ih0 _ _ _ _ _ _ _ _ _ _ _)
   | (with_reducible exact ih1 _ _ _ _ _ _ _ _)
   | (with_reducible exact ih2 _ _ _ _)
   | (with_reducible exact laws_eqIntS.mono _ _ _)
   | (with_reducible exact laws_eqRecord.mono _ _ _ _ _)
   | (with_reducible exact laws_heldIntS.mono _ _ _)
   | (with_reducible exact laws_markIntS.mono _ _ _)
   | (with_reducible exact laws_markRecord.mono _ _ _ _)
   | (with_reducible exact laws_toRecord.mono _ _ _)
   | (with_reducible exact spec_EndContexts.mono _ _ _)
   | (with_reducible exact LeO.refl _)
   | (with_reducible exact LeO.none _)
   | (with_reducible refine LeO.ite ?_ ?_)
   | (with_reducible refine LeO.bind ?_ (fun _ => ?_))
   | exact ih0 _ _ _ _ _ _ _ _ _ _ _
   | exact ih1 _ _ _ _ _ _ _ _
   | exact ih2 _ _ _ _
   | exact laws_eqIntS.mono _ _ _
   | exact laws_eqRecord.mono _ _ _ _ _
   | exact laws_heldIntS.mono _ _ _
   | exact laws_markIntS.mono _ _ _
   | exact laws_markRecord.mono _ _ _ _
   | exact laws_toRecord.mono _ _ _
   | exact spec_EndContexts.mono _ _ _
   | exact LeO.none _
   | refine LeO.ite ?_ ?_
   | refine LeO.bind ?_ (fun _ => ?_)
  ·intro y0 y1 y2 y3 y4 y5 y6 y7
   unfold laws_FnExactEndContexts.j1
   repeat' first
   | (with_reducible exact ih0 _ _ _ _ _ _ _ _ _ _ _)
   | (with_reducible exact ih1 _ _ _ _ _ _ _ _)
   | (with_reducible exact ih2 _ _ _ _)
   | (with_reducible exact laws_eqIntS.mono _ _ _)
   | (with_reducible exact laws_eqRecord.mono _ _ _ _ _)
   | (with_reducible exact laws_heldIntS.mono _ _ _)
   | (with_reducible exact laws_markIntS.mono _ _ _)
   | (with_reducible exact laws_markRecord.mono _ _ _ _)
   | (with_reducible exact laws_toRecord.mono _ _ _)
   | (with_reducible exact spec_EndContexts.mono _ _ _)
   | (with_reducible exact LeO.refl _)
   | (with_reducible exact LeO.none _)
   | (with_reducible refine LeO.ite ?_ ?_)
   | (with_reducible refine LeO.bind ?_ (fun _ => ?_))
   | exact ih0 _ _ _ _ _ _ _ _ _ _ _
   | exact ih1 _ _ _ _ _ _ _ _
   | exact ih2 _ _ _ _
   | exact laws_eqIntS.mono _ _ _
   | exact laws_eqRecord.mono _ _ _ _ _
   | exact laws_heldIntS.mono _ _ _
   | exact laws_markIntS.mono _ _ _
   | exact laws_markRecord.mono _ _ _ _
   | exact laws_toRecord.mono _ _ _
   | exact spec_EndContexts.mono _ _ _
   | exact LeO.none _
   | refine LeO.ite ?_ ?_
   | refine LeO.bind ?_ (fun _ => ?_)
  ·intro y0 y1 y2 y3
   unfold laws_FnExactEndContexts.j2
   repeat' first
   | (with_reducible exact ih0 _ _ _ _ _ _ _ _ _ _ _)
   | (with_reducible exact ih1 _ _ _ _ _ _ _ _)
   | (with_reducible exact ih2 _ _ _ _)
   | (with_reducible exact laws_eqIntS.mono _ _ _)
   | (with_reducible exact laws_eqRecord.mono _ _ _ _ _)
   | (with_reducible exact laws_heldIntS.mono _ _ _)
   | (with_reducible exact laws_markIntS.mono _ _ _)
   | (with_reducible exact laws_markRecord.mono _ _ _ _)
   | (with_reducible exact laws_toRecord.mono _ _ _)
   | (with_reducible exact spec_EndContexts.mono _ _ _)
   | (with_reducible exact LeO.refl _)
   | (with_reducible exact LeO.none _)
   | (with_reducible refine LeO.ite ?_ ?_)
   | (with_reducible refine LeO.bind ?_ (fun _ => ?_))
   | exact ih0 _ _ _ _ _ _ _ _ _ _ _
   | exact ih1 _ _ _ _ _ _ _ _
   | exact ih2 _ _ _ _
   | exact laws_eqIntS.mono _ _ _
   | exact laws_eqRecord.mono _ _ _ _ _
   | exact laws_heldIntS.mono _ _ _
   | exact laws_markIntS.mono _ _ _
   | exact laws_markRecord.mono _ _ _ _
   | exact laws_toRecord.mono _ _ _
   | exact spec_EndContexts.mono _ _ _
   | exact LeO.none _
   | refine LeO.ite ?_ ?_
   | refine LeO.bind ?_ (fun _ => ?_)
theorem laws_FnExactEndContexts.mono : ∀ a0 a1 k, LeO (laws_FnExactEndContexts.f k a0 a1) (laws_FnExactEndContexts.f (k + 1) a0 a1) := by
 intro a0 a1 k
 obtain ⟨ih0, ih1, ih2⟩ := laws_FnExactEndContexts.mono_l k
 unfold laws_FnExactEndContexts.f
 repeat' first
   | (with_reducible exact ih0 _ _ _ _ _ _ _ _ _ _ _)
   | (with_reducible exact ih1 _ _ _ _ _ _ _ _)
   | (with_reducible exact ih2 _ _ _ _)
   | (with_reducible exact laws_eqIntS.mono _ _ _)
   | (with_reducible exact laws_eqRecord.mono _ _ _ _ _)
   | (with_reducible exact laws_heldIntS.mono _ _ _)
   | (with_reducible exact laws_markIntS.mono _ _ _)
   | (with_reducible exact laws_markRecord.mono _ _ _ _)
   | (with_reducible exact laws_toRecord.mono _ _ _)
   | (with_reducible exact spec_EndContexts.mono _ _ _)
   | (with_reducible exact LeO.refl _)
   | (with_reducible exact LeO.none _)
   | (with_reducible refine LeO.ite ?_ ?_)
   | (with_reducible refine LeO.bind ?_ (fun _ => ?_))
   | exact ih0 _ _ _ _ _ _ _ _ _ _ _
   | exact ih1 _ _ _ _ _ _ _ _
   | exact ih2 _ _ _ _
   | exact laws_eqIntS.mono _ _ _
   | exact laws_eqRecord.mono _ _ _ _ _
   | exact laws_heldIntS.mono _ _ _
   | exact laws_markIntS.mono _ _ _
   | exact laws_markRecord.mono _ _ _ _
   | exact laws_toRecord.mono _ _ _
   | exact spec_EndContexts.mono _ _ _
   | exact LeO.none _
   | refine LeO.ite ?_ ?_
   | refine LeO.bind ?_ (fun _ => ?_)
set_option maxHeartbeats 8000000 in
set_option maxRecDepth 100000 in
theorem laws_FnExactEndContexts.calls (k : Nat) (A0_0 : Option Addr) (c0_0 : Nat) (l0_0 : List (S110)) (A0_1 : Option Addr) (c0_1 : Nat) (l0_1 : List (S102)) (r : Bool) (w : World) (hr0_0 : Kd.C k110 w A0_0 l0_0.length l0_0) (hc0_0 : l0_0.length ≤ c0_0) (hr0_1 : Kd.C k102 w A0_1 l0_1.length l0_1) (hc0_1 : l0_1.length ≤ c0_1) (h : laws_FnExactEndContexts.f k l0_0 l0_1 = some r) :
  Calls Try.prog 10 #[.agg #[.slice A0_0 l0_0.length c0_0, .slice A0_1 l0_1.length c0_1]] w fun e w' => e = .returned (.bool r) ∧ Below w.heap.size w w' := by
 have hu25 := Try.underlying25
 have hu32 := Try.underlying32
 have HR0_0 := Aside0.mk hr0_0
 have HC0_0 := Aside0.mk hc0_0
 clear hr0_0 hc0_0
 have HR0_1 := Aside0.mk hr0_1
 have HC0_1 := Aside0.mk hc0_1
 clear hr0_1 hc0_1
 have HB := Aside0.mk (Below.refl w.heap.size w)
 have H : ((laws_szRecord.f l0_0 l0_1 1048576).bind fun t152 => (if t152 < 0 then (some true) else ((laws_toRecord.f k l0_0 l0_1).bind fun bt153 => ((spec_EndContexts.f k bt153.1 bt153.2).bind fun bt159 => ((laws_toRecord.f k l0_0 l0_1).bind fun bt166 => ((impl_EndContexts.f bt166.1 bt166.2).bind fun bt173 => ((laws_eqIntS.f k bt173.1 bt159.1).bind fun t180 => (if t180 = true then ((laws_eqIntS.f k bt173.2.1 bt159.2.1).bind fun t181 => (if t181 = true then (laws_FnExactEndContexts.j0 k bt159.1 bt159.2.1 bt159.2.2 bt173.1 bt173.2.1 bt173.2.2 (bt173.2.2 != bt159.2.2) l0_0 l0_1 bt166.1 bt166.2) else (laws_FnExactEndContexts.j0 k bt159.1 bt159.2.1 bt159.2.2 bt173.1 bt173.2.1 bt173.2.2 true l0_0 l0_1 bt166.1 bt166.2))) else (laws_FnExactEndContexts.j0 k bt159.1 bt159.2.1 bt159.2.2 bt173.1 bt173.2.1 bt173.2.2 true l0_0 l0_1 bt166.1 bt166.2))))))))) = some r := h
 clear h
 replace H := Option.bind_eq_some_iff.mp H
 obtain ⟨t152, A20, H⟩ := H
 replace H : (if t152 < 0 then (some true) else ((laws_toRecord.f k l0_0 l0_1).bind fun bt153 => ((spec_EndContexts.f k bt153.1 bt153.2).bind fun bt159 => ((laws_toRecord.f k l0_0 l0_1).bind fun bt166 => ((impl_EndContexts.f bt166.1 bt166.2).bind fun bt173 => ((laws_eqIntS.f k bt173.1 bt159.1).bind fun t180 => (if t180 = true then ((laws_eqIntS.f k bt173.2.1 bt159.2.1).bind fun t181 => (if t181 = true then (laws_FnExactEndContexts.j0 k bt159.1 bt159.2.1 bt159.2.2 bt173.1 bt173.2.1 bt173.2.2 (bt173.2.2 != bt159.2.2) l0_0 l0_1 bt166.1 bt166.2) else (laws_FnExactEndContexts.j0 k bt159.1 bt159.2.1 bt159.2.2 bt173.1 bt173.2.1 bt173.2.2 true l0_0 l0_1 bt166.1 bt166.2))) else (laws_FnExactEndContexts.j0 k bt159.1 bt159.2.1 bt159.2.2 bt173.1 bt173.2.1 bt173.2.2 true l0_0 l0_1 bt166.1 bt166.2)))))))) = some r := H
 have A2 := Aside0.mk A20
 clear A20
 by_cases c3 : t152 < 0
 ·rw [if_pos c3] at H
  have c3b0 : decide (t152 < 0) = true := decide_eq_true c3
  clear c3
  obtain rfl := Option.some.inj H
  go_enter Try.func10, Try.ntmps10
  go_wp2_with (first | ((with_reducible refine gate_dst (N := 1) rfl ?_); refine box_event ?hg (N := 1) ?hd (cs := #[.slice A0_0 l0_0.length c0_0, .slice A0_1 l0_1.length c0_1]) (t := 25) ?hr ?_; (case hd => rfl); (case hg => rfl); (case hr => first | (go_simp; done) | (go_simp; rfl)); intro gb151 hg w4 hbox hb; have n0_ := Aside0.mk (below_step (wz_ HB.out) hb); have n1_ := Aside0.mk (hbox); have n2_ := Aside0.mk ((by rw [hg]; exact (below_size (wz_ HB.out)) : w.heap.size ≤ gb151)); have n3_ := Aside0.mk ((by rw [hg]; exact (below_size (wz_ HB.out)) : w.heap.size ≤ gb151)); clear HB; have HB := n0_; have BK151 := n1_; have GW151 := n2_; have GE151 := n3_; clear n0_ n1_ n2_ n3_; clear hb hbox hg; have hcz5_0 : w4.cell? ⟨gb151, 0, none⟩ = some (.slice A0_0 l0_0.length c0_0) := (blk_cell BK151.out 0).trans rfl; have hcz5_1 : w4.cell? ⟨gb151, 1, none⟩ = some (.slice A0_1 l0_1.length c0_1) := (blk_cell BK151.out 1).trans rfl; have hfz5_0 := blk_frozen BK151.out 0; have hfz5_1 := blk_frozen BK151.out 1) | ((with_reducible refine gate_callee (f := 15) rfl ?_); refine goesL_ (some 19) rfl rfl Try.func15 (by kernel_rfl) rfl #[.agg #[.slice A0_0 l0_0.length c0_0, .slice A0_1 l0_1.length c0_1], .int .i64 1048576] rfl (by (try simp only [List.map_toArray, List.map_cons, List.map_nil]); first | done | rfl | (simp only [List.length_drop, List.length_take]; rfl)) ?_; (with_reducible refine (laws_szRecord.calls _ _ l0_0 _ _ l0_1 1048576 t152 _ ?side1 ?side2 ?side3 ?side4 A2.out).mono ?_); (case side1 => exact cz_ (Kd.C_below HR0_0.out HB.out)); (case side2 => exact HC0_0.out); (case side3 => exact cz_ (Kd.C_below HR0_1.out HB.out)); (case side4 => exact HC0_1.out); rintro e w6 ⟨rfl, hb⟩; refine ⟨_, rfl, ?_⟩; have n0_ := Aside0.mk (blk_below (bz_ BK151.out) hb); have n1_ := Aside0.mk (below_step (by repeat (first | (with_reducible first | exact HB.out | apply below_alloc | apply pw_below_drewN | apply below_drew1 | refine below_set ?_ GE151.out) | exact HB.out)) hb); clear BK151; clear HB; have BK151 := n0_; have HB := n1_; clear n0_ n1_; (try clear hb); (try clear hb2); (try clear hk); (try clear hi)))
  go_ret
  exact ⟨by first | rfl | (simp [errW_none, errW_some] <;> rfl) | (simp [*, errW_none, errW_some] <;> rfl), by repeat (first | (with_reducible first | exact HB.out | apply below_alloc | apply pw_below_drewN | apply below_drew1 | refine below_set ?_ GE151.out) | exact HB.out)⟩
 ·rw [if_neg c3] at H
  have c3b0 : decide (t152 < 0) = false := decide_eq_false c3
  clear c3
  replace H := Option.bind_eq_some_iff.mp H
  obtain ⟨⟨t153, t156⟩, A70, H⟩ := H
  replace H : ((spec_EndContexts.f k t153 t156).bind fun bt159 => ((laws_toRecord.f k l0_0 l0_1).bind fun bt166 => ((impl_EndContexts.f bt166.1 bt166.2).bind fun bt173 => ((laws_eqIntS.f k bt173.1 bt159.1).bind fun t180 => (if t180 = true then ((laws_eqIntS.f k bt173.2.1 bt159.2.1).bind fun t181 => (if t181 = true then (laws_FnExactEndContexts.j0 k bt159.1 bt159.2.1 bt159.2.2 bt173.1 bt173.2.1 bt173.2.2 (bt173.2.2 != bt159.2.2) l0_0 l0_1 bt166.1 bt166.2) else (laws_FnExactEndContexts.j0 k bt159.1 bt159.2.1 bt159.2.2 bt173.1 bt173.2.1 bt173.2.2 true l0_0 l0_1 bt166.1 bt166.2))) else (laws_FnExactEndContexts.j0 k bt159.1 bt159.2.1 bt159.2.2 bt173.1 bt173.2.1 bt173.2.2 true l0_0 l0_1 bt166.1 bt166.2)))))) = some r := H
  have A7 := Aside0.mk A70
  clear A70
  replace H := Option.bind_eq_some_iff.mp H
  obtain ⟨⟨t159, t162, t165⟩, A80, H⟩ := H
  replace H : ((laws_toRecord.f k l0_0 l0_1).bind fun bt166 => ((impl_EndContexts.f bt166.1 bt166.2).bind fun bt173 => ((laws_eqIntS.f k bt173.1 t159).bind fun t180 => (if t180 = true then ((laws_eqIntS.f k bt173.2.1 t162).bind fun t181 => (if t181 = true then (laws_FnExactEndContexts.j0 k t159 t162 t165 bt173.1 bt173.2.1 bt173.2.2 (bt173.2.2 != t165) l0_0 l0_1 bt166.1 bt166.2) else (laws_FnExactEndContexts.j0 k t159 t162 t165 bt173.1 bt173.2.1 bt173.2.2 true l0_0 l0_1 bt166.1 bt166.2))) else (laws_FnExactEndContexts.j0 k t159 t162 t165 bt173.1 bt173.2.1 bt173.2.2 true l0_0 l0_1 bt166.1 bt166.2))))) = some r := H
  have A8 := Aside0.mk A80
  clear A80
  replace H := Option.bind_eq_some_iff.mp H
  obtain ⟨⟨t166, t169⟩, A90, H⟩ := H
  replace H : ((impl_EndContexts.f t166 t169).bind fun bt173 => ((laws_eqIntS.f k bt173.1 t159).bind fun t180 => (if t180 = true then ((laws_eqIntS.f k bt173.2.1 t162).bind fun t181 => (if t181 = true then (laws_FnExactEndContexts.j0 k t159 t162 t165 bt173.1 bt173.2.1 bt173.2.2 (bt173.2.2 != t165) l0_0 l0_1 t166 t169) else (laws_FnExactEndContexts.j0 k t159 t162 t165 bt173.1 bt173.2.1 bt173.2.2 true l0_0 l0_1 t166 t169))) else (laws_FnExactEndContexts.j0 k t159 t162 t165 bt173.1 bt173.2.1 bt173.2.2 true l0_0 l0_1 t166 t169)))) = some r := H
  have A9 := Aside0.mk A90
  clear A90
  replace H := Option.bind_eq_some_iff.mp H
  obtain ⟨⟨t173, t176, t179⟩, A100, H⟩ := H
  replace H : ((laws_eqIntS.f k t173 t159).bind fun t180 => (if t180 = true then ((laws_eqIntS.f k t176 t162).bind fun t181 => (if t181 = true then (laws_FnExactEndContexts.j0 k t159 t162 t165 t173 t176 t179 (t179 != t165) l0_0 l0_1 t166 t169) else (laws_FnExactEndContexts.j0 k t159 t162 t165 t173 t176 t179 true l0_0 l0_1 t166 t169))) else (laws_FnExactEndContexts.j0 k t159 t162 t165 t173 t176 t179 true l0_0 l0_1 t166 t169))) = some r := H
  have A10 := Aside0.mk A100
  clear A100
  have HC11 := Aside0.mk H
  clear H
  go_enter Try.func10, Try.ntmps10
  go_upto_region 8 with (first | ((with_reducible refine gate_dst (N := 1) rfl ?_); refine box_event ?hg (N := 1) ?hd (cs := #[.slice A0_0 l0_0.length c0_0, .slice A0_1 l0_1.length c0_1]) (t := 25) ?hr ?_; (case hd => rfl); (case hg => rfl); (case hr => first | (go_simp; done) | (go_simp; rfl)); intro gb151 hg w12 hbox hb; have n0_ := Aside0.mk (below_step (wz_ HB.out) hb); have n1_ := Aside0.mk (hbox); have n2_ := Aside0.mk ((by rw [hg]; exact (below_size (wz_ HB.out)) : w.heap.size ≤ gb151)); have n3_ := Aside0.mk ((by rw [hg]; exact (below_size (wz_ HB.out)) : w.heap.size ≤ gb151)); clear HB; have HB := n0_; have BK151 := n1_; have GW151 := n2_; have GE151 := n3_; clear n0_ n1_ n2_ n3_; clear hb hbox hg; have hcz13_0 : w12.cell? ⟨gb151, 0, none⟩ = some (.slice A0_0 l0_0.length c0_0) := (blk_cell BK151.out 0).trans rfl; have hcz13_1 : w12.cell? ⟨gb151, 1, none⟩ = some (.slice A0_1 l0_1.length c0_1) := (blk_cell BK151.out 1).trans rfl; have hfz13_0 := blk_frozen BK151.out 0; have hfz13_1 := blk_frozen BK151.out 1) | ((with_reducible refine gate_callee (f := 15) rfl ?_); refine goesL_ (some 19) rfl rfl Try.func15 (by kernel_rfl) rfl #[.agg #[.slice A0_0 l0_0.length c0_0, .slice A0_1 l0_1.length c0_1], .int .i64 1048576] rfl (by (try simp only [List.map_toArray, List.map_cons, List.map_nil]); first | done | rfl | (simp only [List.length_drop, List.length_take]; rfl)) ?_; (with_reducible refine (laws_szRecord.calls _ _ l0_0 _ _ l0_1 1048576 t152 _ ?side1 ?side2 ?side3 ?side4 A2.out).mono ?_); (case side1 => exact cz_ (Kd.C_below HR0_0.out HB.out)); (case side2 => exact HC0_0.out); (case side3 => exact cz_ (Kd.C_below HR0_1.out HB.out)); (case side4 => exact HC0_1.out); rintro e w14 ⟨rfl, hb⟩; refine ⟨_, rfl, ?_⟩; have n0_ := Aside0.mk (blk_below (bz_ BK151.out) hb); have n1_ := Aside0.mk (below_step (by repeat (first | (with_reducible first | exact HB.out | apply below_alloc | apply pw_below_drewN | apply below_drew1 | refine below_set ?_ GE151.out) | exact HB.out)) hb); clear BK151; clear HB; have BK151 := n0_; have HB := n1_; clear n0_ n1_; (try clear hb); (try clear hb2); (try clear hk); (try clear hi); have hcz15_0 : w14.cell? ⟨gb151, 0, none⟩ = some (.slice A0_0 l0_0.length c0_0) := (blk_cell BK151.out 0).trans rfl; have hcz15_1 : w14.cell? ⟨gb151, 1, none⟩ = some (.slice A0_1 l0_1.length c0_1) := (blk_cell BK151.out 1).trans rfl; have hfz15_0 := blk_frozen BK151.out 0; have hfz15_1 := blk_frozen BK151.out 1) | ((with_reducible refine gate_callee (f := 17) rfl ?_); refine goesL_ (some 24) rfl rfl Try.func17 (by kernel_rfl) rfl #[.agg #[.slice A0_0 l0_0.length c0_0, .slice A0_1 l0_1.length c0_1]] rfl (by (try simp only [List.map_toArray, List.map_cons, List.map_nil]); first | done | rfl | (simp only [List.length_drop, List.length_take]; rfl)) ?_; (with_reducible refine (laws_toRecord.calls k _ _ l0_0 _ _ l0_1 t153 t156 _ ?side1 ?side2 ?side3 ?side4 A7.out).mono ?_); (case side1 => exact cz_ (Kd.C_below HR0_0.out HB.out)); (case side2 => exact HC0_0.out); (case side3 => exact cz_ (Kd.C_below HR0_1.out HB.out)); (case side4 => exact HC0_1.out); rintro e w16 ⟨v154, v157, rfl, ho0, ho1, hb⟩; refine ⟨_, rfl, ?_⟩; have n0_ := Aside0.mk (Kd.R_lower ho0 (below_size (by repeat (first | (with_reducible first | exact HB.out | apply below_alloc | apply pw_below_drewN | apply below_drew1 | refine below_set ?_ GE151.out) | exact HB.out)))); have n1_ := Aside0.mk (Kd.R_lower ho1 (below_size (by repeat (first | (with_reducible first | exact HB.out | apply below_alloc | apply pw_below_drewN | apply below_drew1 | refine below_set ?_ GE151.out) | exact HB.out)))); have n2_ := Aside0.mk (blk_below (bz_ BK151.out) hb); have n3_ := Aside0.mk (below_step (by repeat (first | (with_reducible first | exact HB.out | apply below_alloc | apply pw_below_drewN | apply below_drew1 | refine below_set ?_ GE151.out) | exact HB.out)) hb); clear BK151; clear HB; have HO155 := n0_; have HO158 := n1_; have BK151 := n2_; have HB := n3_; clear n0_ n1_ n2_ n3_; (try clear hb); (try clear hb2); (try clear hk); (try clear hi); (try clear ho0); (try clear ho1); obtain ⟨Ao17, co17, eo17⟩ := Kd.R_slice HO155.out; subst eo17; obtain ⟨Ao18, co18, eo18⟩ := Kd.R_slice HO158.out; subst eo18) | ((with_reducible refine gate_callee (f := 42) rfl ?_); refine goesL_ (some 25) rfl rfl Try.func42 (by kernel_rfl) rfl #[.agg #[.slice Ao17 t153.length co17, .slice Ao18 t156.length co18]] rfl (by (try simp only [List.map_toArray, List.map_cons, List.map_nil]); first | done | rfl | (simp only [List.length_drop, List.length_take]; rfl)) ?_; (with_reducible refine (spec_EndContexts.calls k _ _ t153 _ _ t156 t159 t162 t165 _ ?side1 ?side2 ?side3 ?side4 A8.out).mono ?_); (case side1 => exact cz_ (Kd.R_reads' HO155.out).2.2); (case side2 => exact (Kd.R_reads' HO155.out).2.1); (case side3 => exact cz_ (Kd.R_reads' HO158.out).2.2); (case side4 => exact (Kd.R_reads' HO158.out).2.1); rintro e w19 ⟨v160, v163, rfl, ho0, ho1, hb⟩; refine ⟨_, rfl, ?_⟩; have n0_ := Aside0.mk (Kd.R_below (rz_ HO155.out) hb); have n1_ := Aside0.mk (Kd.R_below (rz_ HO158.out) hb); have n2_ := Aside0.mk (Kd.R_lower ho0 (below_size (by repeat (first | (with_reducible first | exact HB.out | apply below_alloc | apply pw_below_drewN | apply below_drew1 | refine below_set ?_ GE151.out) | exact HB.out)))); have n3_ := Aside0.mk (Kd.R_lower ho1 (below_size (by repeat (first | (with_reducible first | exact HB.out | apply below_alloc | apply pw_below_drewN | apply below_drew1 | refine below_set ?_ GE151.out) | exact HB.out)))); have n4_ := Aside0.mk (blk_below (bz_ BK151.out) hb); have n5_ := Aside0.mk (below_step (by repeat (first | (with_reducible first | exact HB.out | apply below_alloc | apply pw_below_drewN | apply below_drew1 | refine below_set ?_ GE151.out) | exact HB.out)) hb); clear HO155; clear HO158; clear BK151; clear HB; have HO155 := n0_; have HO158 := n1_; have HO161 := n2_; have HO164 := n3_; have BK151 := n4_; have HB := n5_; clear n0_ n1_ n2_ n3_ n4_ n5_; (try clear hb); (try clear hb2); (try clear hk); (try clear hi); (try clear ho0); (try clear ho1); have hcz20_0 : w19.cell? ⟨gb151, 0, none⟩ = some (.slice A0_0 l0_0.length c0_0) := (blk_cell BK151.out 0).trans rfl; have hcz20_1 : w19.cell? ⟨gb151, 1, none⟩ = some (.slice A0_1 l0_1.length c0_1) := (blk_cell BK151.out 1).trans rfl; have hfz20_0 := blk_frozen BK151.out 0; have hfz20_1 := blk_frozen BK151.out 1) | ((with_reducible refine gate_callee (f := 17) rfl ?_); refine goesL_ (some 30) rfl rfl Try.func17 (by kernel_rfl) rfl #[.agg #[.slice A0_0 l0_0.length c0_0, .slice A0_1 l0_1.length c0_1]] rfl (by (try simp only [List.map_toArray, List.map_cons, List.map_nil]); first | done | rfl | (simp only [List.length_drop, List.length_take]; rfl)) ?_; (with_reducible refine (laws_toRecord.calls k _ _ l0_0 _ _ l0_1 t166 t169 _ ?side1 ?side2 ?side3 ?side4 A9.out).mono ?_); (case side1 => exact cz_ (Kd.C_below HR0_0.out HB.out)); (case side2 => exact HC0_0.out); (case side3 => exact cz_ (Kd.C_below HR0_1.out HB.out)); (case side4 => exact HC0_1.out); rintro e w21 ⟨v167, v170, rfl, ho0, ho1, hb⟩; refine ⟨_, rfl, ?_⟩; have n0_ := Aside0.mk (Kd.R_elder' (rz_ HO155.out) (Kd.R_base ho0) hb); have n1_ := Aside0.mk (Kd.R_elder' (rz_ HO158.out) (Kd.R_base ho1) hb); have n2_ := Aside0.mk (Kd.R_below (rz_ HO161.out) hb); have n3_ := Aside0.mk (Kd.R_below (rz_ HO164.out) hb); have n4_ := Aside0.mk (Kd.R_lower (Kd.R_new' ho0 (Kd.R_lt (rz_ HO155.out))) (below_size (by repeat (first | (with_reducible first | exact HB.out | apply below_alloc | apply pw_below_drewN | apply below_drew1 | refine below_set ?_ GE151.out) | exact HB.out)))); have n5_ := Aside0.mk (Kd.R_lower (Kd.R_new' ho1 (Kd.R_lt (rz_ HO158.out))) (below_size (by repeat (first | (with_reducible first | exact HB.out | apply below_alloc | apply pw_below_drewN | apply below_drew1 | refine below_set ?_ GE151.out) | exact HB.out)))); have n6_ := Aside0.mk (blk_below (bz_ BK151.out) hb); have n7_ := Aside0.mk (below_step (by repeat (first | (with_reducible first | exact HB.out | apply below_alloc | apply pw_below_drewN | apply below_drew1 | refine below_set ?_ GE151.out) | exact HB.out)) hb); clear HO155; clear HO158; clear HO161; clear HO164; clear BK151; clear HB; have HO155 := n0_; have HO158 := n1_; have HO161 := n2_; have HO164 := n3_; have HO168 := n4_; have HO171 := n5_; have BK151 := n6_; have HB := n7_; clear n0_ n1_ n2_ n3_ n4_ n5_ n6_ n7_; (try clear hb); (try clear hb2); (try clear hk); (try clear hi); (try clear ho0); (try clear ho1)) | ((with_reducible refine gate_dst (N := 7) rfl ?_); refine box_event ?hg (N := 7) ?hd (cs := #[.slice none 0 0, .slice none 0 0]) (t := 32) ?hr ?_; (case hd => rfl); (case hg => rfl); (case hr => first | (go_simp; done) | (go_simp; rfl)); intro gb172 hg w22 hbox hb; have n0_ := Aside0.mk (Kd.R_below (rz_ HO155.out) hb); have n1_ := Aside0.mk (Kd.R_below (rz_ HO158.out) hb); have n2_ := Aside0.mk (Kd.R_below (rz_ HO161.out) hb); have n3_ := Aside0.mk (Kd.R_below (rz_ HO164.out) hb); have n4_ := Aside0.mk (Kd.R_below (rz_ HO168.out) hb); have n5_ := Aside0.mk (Kd.R_below (rz_ HO171.out) hb); have n6_ := Aside0.mk (blk_below (bz_ BK151.out) hb); have n7_ := Aside0.mk (below_step (by repeat (first | (with_reducible first | exact HB.out | apply below_alloc | apply pw_below_drewN | apply below_drew1 | refine below_set ?_ GE151.out) | exact HB.out)) hb); have n8_ := Aside0.mk (hbox); have n9_ := Aside0.mk ((by rw [hg]; exact (below_size (by repeat (first | (with_reducible first | exact HB.out | apply below_alloc | apply pw_below_drewN | apply below_drew1 | refine below_set ?_ GE151.out) | exact HB.out))) : w.heap.size ≤ gb172)); have n10_ := Aside0.mk ((by rw [hg]; exact (below_size (by repeat (first | (with_reducible first | exact HB.out | apply below_alloc | apply pw_below_drewN | apply below_drew1 | refine below_set ?_ GE151.out) | exact HB.out))) : w.heap.size ≤ gb172)); have n11_ := Aside0.mk ((by rw [hg]; exact Nat.ne_of_lt (blk_lt (g := gb151) (o := .cells #[.slice A0_0 l0_0.length c0_0, .slice A0_1 l0_1.length c0_1] 25 (0, 0)) (bz_ BK151.out)) : gb151 ≠ gb172)); have n12_ := Aside0.mk ((by rw [hg]; exact Nat.ne_of_gt (blk_lt (g := gb151) (o := .cells #[.slice A0_0 l0_0.length c0_0, .slice A0_1 l0_1.length c0_1] 25 (0, 0)) (bz_ BK151.out)) : gb172 ≠ gb151)); clear HO155; clear HO158; clear HO161; clear HO164; clear HO168; clear HO171; clear BK151; clear HB; have HO155 := n0_; have HO158 := n1_; have HO161 := n2_; have HO164 := n3_; have HO168 := n4_; have HO171 := n5_; have BK151 := n6_; have HB := n7_; have BK172 := n8_; have GW172 := n9_; have GE172 := n10_; have NB151_172 := n11_; have NB172_151 := n12_; clear n0_ n1_ n2_ n3_ n4_ n5_ n6_ n7_ n8_ n9_ n10_ n11_ n12_; clear hb hbox hg; obtain ⟨Ao23, co23, eo23⟩ := Kd.R_slice HO168.out; subst eo23; have hnb24 := NB172_151.out; have hnc24 := NB151_172.out; have hcz25_0 : w22.cell? ⟨gb172, 0, none⟩ = some (.slice none 0 0) := (blk_cell BK172.out 0).trans rfl; have hcz25_1 : w22.cell? ⟨gb172, 1, none⟩ = some (.slice none 0 0) := (blk_cell BK172.out 1).trans rfl; have hfz25_0 := blk_frozen BK172.out 0; have hfz25_1 := blk_frozen BK172.out 1; obtain ⟨Ao26, co26, eo26⟩ := Kd.R_slice HO171.out; subst eo26) | ((with_reducible refine gate_callee (f := 43) rfl ?_); refine goesL_ (some 33) rfl rfl Try.func43 (by kernel_rfl) rfl #[.agg #[.slice Ao23 t166.length co23, .slice Ao26 t169.length co26]] rfl (by (try simp only [List.map_toArray, List.map_cons, List.map_nil]); first | done | rfl | (simp only [List.length_drop, List.length_take]; rfl)) ?_; (with_reducible refine (impl_EndContexts.calls _ _ t166 _ _ t169 t173 t176 t179 _ ?side1 ?side2 ?side3 ?side4 A10.out).mono ?_); (case side1 => refine (Kd.R_reads' (e := 76) (base := w.heap.size) (ok := fun k_ => (True ∧ some k_ ≠ (.slice Ao17 t153.length co17 : Value).ownBlock)) (n := t166.length) (c := co23) ?_).2.2; exact (rz_ (Kd.R_mono (Kd.R_far (p := ⟨gb172, 1, none⟩) (Kd.R_far (p := ⟨gb172, 0, none⟩) (Kd.R_types HO168.out BK172.out (by decide)) (fun _ hk => hk.2) (.slice Ao23 t166.length co23)) (fun _ hk => hk.2) (.slice Ao26 t169.length co26)) (fun _ h_ => h_.1)))); (case side2 => exact (Kd.R_reads' HO168.out).2.1); (case side3 => refine (Kd.R_reads' (e := 90) (base := w.heap.size) (ok := fun k_ => (True ∧ some k_ ≠ (.slice Ao18 t156.length co18 : Value).ownBlock)) (n := t169.length) (c := co26) ?_).2.2; exact (rz_ (Kd.R_mono (Kd.R_far (p := ⟨gb172, 1, none⟩) (Kd.R_far (p := ⟨gb172, 0, none⟩) (Kd.R_types HO171.out BK172.out (by decide)) (fun _ hk => hk.2) (.slice Ao23 t166.length co23)) (fun _ hk => hk.2) (.slice Ao26 t169.length co26)) (fun _ h_ => h_.1)))); (case side4 => exact (Kd.R_reads' HO171.out).2.1); rintro e w27 ⟨v174, v177, rfl, ho0, ho1, hb⟩; refine ⟨_, rfl, ?_⟩; have n0_ := Aside0.mk (Kd.R_below (rz_ (Kd.R_mono (Kd.R_far (p := ⟨gb172, 1, none⟩) (Kd.R_far (p := ⟨gb172, 0, none⟩) (Kd.R_types HO155.out BK172.out (by decide)) (fun _ hk => hk.2) (.slice Ao23 t166.length co23)) (fun _ hk => hk.2) (.slice Ao26 t169.length co26)) (fun _ h_ => h_.1))) hb); have n1_ := Aside0.mk (Kd.R_below (rz_ (Kd.R_mono (Kd.R_far (p := ⟨gb172, 1, none⟩) (Kd.R_far (p := ⟨gb172, 0, none⟩) (Kd.R_types HO158.out BK172.out (by decide)) (fun _ hk => hk.2) (.slice Ao23 t166.length co23)) (fun _ hk => hk.2) (.slice Ao26 t169.length co26)) (fun _ h_ => h_.1))) hb); have n2_ := Aside0.mk (Kd.R_mono (Kd.R_told (Kd.R_told (Kd.R_old (rz_ (Kd.R_mono (Kd.R_far (p := ⟨gb172, 1, none⟩) (Kd.R_far (p := ⟨gb172, 0, none⟩) (Kd.R_types HO161.out BK172.out (by decide)) (fun _ hk => hk.2) (.slice Ao23 t166.length co23)) (fun _ hk => hk.2) (.slice Ao26 t169.length co26)) (fun _ h_ => h_.1))) hb) (Kd.R_base ho0)) (Kd.R_base ho1)) (fun _ h_ => h_.1)); have n3_ := Aside0.mk (Kd.R_mono (Kd.R_told (Kd.R_told (Kd.R_old (rz_ (Kd.R_mono (Kd.R_far (p := ⟨gb172, 1, none⟩) (Kd.R_far (p := ⟨gb172, 0, none⟩) (Kd.R_types HO164.out BK172.out (by decide)) (fun _ hk => hk.2) (.slice Ao23 t166.length co23)) (fun _ hk => hk.2) (.slice Ao26 t169.length co26)) (fun _ h_ => h_.1))) hb) (Kd.R_base ho0)) (Kd.R_base ho1)) (fun _ h_ => h_.1)); have n4_ := Aside0.mk (Kd.R_below (rz_ (Kd.R_mono (Kd.R_far (p := ⟨gb172, 1, none⟩) (Kd.R_far (p := ⟨gb172, 0, none⟩) (Kd.R_types HO168.out BK172.out (by decide)) (fun _ hk => hk.2) (.slice Ao23 t166.length co23)) (fun _ hk => hk.2) (.slice Ao26 t169.length co26)) (fun _ h_ => h_.1))) hb); have n5_ := Aside0.mk (Kd.R_below (rz_ (Kd.R_mono (Kd.R_far (p := ⟨gb172, 1, none⟩) (Kd.R_far (p := ⟨gb172, 0, none⟩) (Kd.R_types HO171.out BK172.out (by decide)) (fun _ hk => hk.2) (.slice Ao23 t166.length co23)) (fun _ hk => hk.2) (.slice Ao26 t169.length co26)) (fun _ h_ => h_.1))) hb); have n6_ := Aside0.mk (Kd.R_lower (Kd.R_new' (Kd.R_new' ho0 (Kd.R_lt (rz_ (Kd.R_mono (Kd.R_far (p := ⟨gb172, 1, none⟩) (Kd.R_far (p := ⟨gb172, 0, none⟩) (Kd.R_types HO161.out BK172.out (by decide)) (fun _ hk => hk.2) (.slice Ao23 t166.length co23)) (fun _ hk => hk.2) (.slice Ao26 t169.length co26)) (fun _ h_ => h_.1))))) (Kd.R_lt (rz_ (Kd.R_mono (Kd.R_far (p := ⟨gb172, 1, none⟩) (Kd.R_far (p := ⟨gb172, 0, none⟩) (Kd.R_types HO164.out BK172.out (by decide)) (fun _ hk => hk.2) (.slice Ao23 t166.length co23)) (fun _ hk => hk.2) (.slice Ao26 t169.length co26)) (fun _ h_ => h_.1))))) (below_size (by repeat (first | (with_reducible first | exact HB.out | apply below_alloc | apply pw_below_drewN | apply below_drew1 | refine below_set ?_ GE151.out | refine below_set ?_ GE172.out) | exact HB.out)))); have n7_ := Aside0.mk (Kd.R_lower (Kd.R_new' (Kd.R_new' ho1 (Kd.R_lt (rz_ (Kd.R_mono (Kd.R_far (p := ⟨gb172, 1, none⟩) (Kd.R_far (p := ⟨gb172, 0, none⟩) (Kd.R_types HO161.out BK172.out (by decide)) (fun _ hk => hk.2) (.slice Ao23 t166.length co23)) (fun _ hk => hk.2) (.slice Ao26 t169.length co26)) (fun _ h_ => h_.1))))) (Kd.R_lt (rz_ (Kd.R_mono (Kd.R_far (p := ⟨gb172, 1, none⟩) (Kd.R_far (p := ⟨gb172, 0, none⟩) (Kd.R_types HO164.out BK172.out (by decide)) (fun _ hk => hk.2) (.slice Ao23 t166.length co23)) (fun _ hk => hk.2) (.slice Ao26 t169.length co26)) (fun _ h_ => h_.1))))) (below_size (by repeat (first | (with_reducible first | exact HB.out | apply below_alloc | apply pw_below_drewN | apply below_drew1 | refine below_set ?_ GE151.out | refine below_set ?_ GE172.out) | exact HB.out)))); have n8_ := Aside0.mk (blk_below (g := gb151) (o := .cells #[.slice A0_0 l0_0.length c0_0, .slice A0_1 l0_1.length c0_1] 25 (0, 0)) (by (with_reducible repeat (first | refine blk_drewN ?_ _ | refine blk_drew ?_ | refine blk_alloc ?_ _)); refine blk_far ?_ NB151_172.out _; (with_reducible repeat (first | refine blk_drewN ?_ _ | refine blk_drew ?_ | refine blk_alloc ?_ _)); refine blk_far ?_ NB151_172.out _; (with_reducible repeat (first | refine blk_drewN ?_ _ | refine blk_drew ?_ | refine blk_alloc ?_ _)); exact BK151.out) hb); have n9_ := Aside0.mk (blk_below (g := gb172) (o := .cells #[.slice Ao23 t166.length co23, .slice Ao26 t169.length co26] 32 (0, 0)) (by (with_reducible repeat (first | refine blk_drewN ?_ _ | refine blk_drew ?_ | refine blk_alloc ?_ _)); refine blk_put (cs := #[.slice Ao23 t166.length co23, .slice none 0 0]) ?_ 1 _ rfl; (with_reducible repeat (first | refine blk_drewN ?_ _ | refine blk_drew ?_ | refine blk_alloc ?_ _)); refine blk_put (cs := #[.slice none 0 0, .slice none 0 0]) ?_ 0 _ rfl; (with_reducible repeat (first | refine blk_drewN ?_ _ | refine blk_drew ?_ | refine blk_alloc ?_ _)); exact BK172.out) hb); have n10_ := Aside0.mk (below_step (by repeat (first | (with_reducible first | exact HB.out | apply below_alloc | apply pw_below_drewN | apply below_drew1 | refine below_set ?_ GE151.out | refine below_set ?_ GE172.out) | exact HB.out)) hb); clear HO155; clear HO158; clear HO161; clear HO164; clear HO168; clear HO171; clear BK151; clear BK172; clear HB; have HO155 := n0_; have HO158 := n1_; have HO161 := n2_; have HO164 := n3_; have HO168 := n4_; have HO171 := n5_; have HO175 := n6_; have HO178 := n7_; have BK151 := n8_; have BK172 := n9_; have HB := n10_; clear n0_ n1_ n2_ n3_ n4_ n5_ n6_ n7_ n8_ n9_ n10_; (try clear hb); (try clear hb2); (try clear hk); (try clear hi); (try clear ho0); (try clear ho1)))
  (try simp only [Act.put, List.setIfInBounds_toArray, List.set_cons_zero, List.set_cons_succ])
  go_cut [51] (fun v51 wc => ∃ (kq : Nat) (x51_10 : Bool), v51 = .bool x51_10 ∧ Aside0 (laws_FnExactEndContexts.j0 kq t159 t162 t165 t173 t176 t179 x51_10 l0_0 l0_1 t166 t169 = some r) ∧ Aside0 (kq ≤ k) ∧ Aside0 (Kd.R (Kd.int .i64) 3 wc w.heap.size (fun k_ => some k_ ≠ (v163 : Value).ownBlock ∧ some k_ ≠ (v174 : Value).ownBlock ∧ some k_ ≠ (v177 : Value).ownBlock) v160 t159) ∧ Aside0 (Kd.R (Kd.int .i64) 3 wc w.heap.size (fun k_ => some k_ ≠ (v160 : Value).ownBlock ∧ some k_ ≠ (v174 : Value).ownBlock ∧ some k_ ≠ (v177 : Value).ownBlock) v163 t162) ∧ Aside0 (Kd.R (Kd.int .i64) 3 wc w.heap.size (fun k_ => some k_ ≠ (v160 : Value).ownBlock ∧ some k_ ≠ (v163 : Value).ownBlock ∧ some k_ ≠ (v177 : Value).ownBlock) v174 t173) ∧ Aside0 (Kd.R (Kd.int .i64) 3 wc w.heap.size (fun k_ => some k_ ≠ (v160 : Value).ownBlock ∧ some k_ ≠ (v163 : Value).ownBlock ∧ some k_ ≠ (v174 : Value).ownBlock) v177 t176) ∧ Aside0 (Kd.R k76 76 wc w.heap.size (fun _ => True) (.slice Ao23 t166.length co23) t166) ∧ Aside0 (Kd.R k90 90 wc w.heap.size (fun _ => True) (.slice Ao26 t169.length co26) t169) ∧ Aside0 (wc.heap[gb151]? = some (.cells #[(.slice A0_0 l0_0.length c0_0), (.slice A0_1 l0_1.length c0_1)] 25 (0, 0))) ∧ Aside0 (wc.heap[gb172]? = some (.cells #[(.slice Ao23 t166.length co23), (.slice Ao26 t169.length co26)] 32 (0, 0))) ∧ Aside0 (Below w.heap.size w wc))
  case first =>
   have H := HC11.out
   clear HC11
   replace H := Option.bind_eq_some_iff.mp H
   obtain ⟨t180, A280, H⟩ := H
   replace H : (if t180 = true then ((laws_eqIntS.f k t176 t162).bind fun t181 => (if t181 = true then (laws_FnExactEndContexts.j0 k t159 t162 t165 t173 t176 t179 (t179 != t165) l0_0 l0_1 t166 t169) else (laws_FnExactEndContexts.j0 k t159 t162 t165 t173 t176 t179 true l0_0 l0_1 t166 t169))) else (laws_FnExactEndContexts.j0 k t159 t162 t165 t173 t176 t179 true l0_0 l0_1 t166 t169)) = some r := H
   have A28 := Aside0.mk A280
   clear A280
   by_cases c29 : t180 = true
   ·subst c29
    have H1 : ((laws_eqIntS.f k t176 t162).bind fun t181 => (if t181 = true then (laws_FnExactEndContexts.j0 k t159 t162 t165 t173 t176 t179 (t179 != t165) l0_0 l0_1 t166 t169) else (laws_FnExactEndContexts.j0 k t159 t162 t165 t173 t176 t179 true l0_0 l0_1 t166 t169))) = some r := by rw [if_pos rfl] at H; exact H
    clear H
    have H := H1
    clear H1
    replace H := Option.bind_eq_some_iff.mp H
    obtain ⟨t181, A300, H⟩ := H
    replace H : (if t181 = true then (laws_FnExactEndContexts.j0 k t159 t162 t165 t173 t176 t179 (t179 != t165) l0_0 l0_1 t166 t169) else (laws_FnExactEndContexts.j0 k t159 t162 t165 t173 t176 t179 true l0_0 l0_1 t166 t169)) = some r := H
    have A30 := Aside0.mk A300
    clear A300
    by_cases c31 : t181 = true
    ·subst c31
     have H1 : (laws_FnExactEndContexts.j0 k t159 t162 t165 t173 t176 t179 (t179 != t165) l0_0 l0_1 t166 t169) = some r := by rw [if_pos rfl] at H; exact H
     clear H
     have H := H1
     clear H1
     have H' := Aside0.mk H
     clear H
     obtain ⟨Ao32, co32, eo32⟩ := Kd.R_slice HO175.out
     subst eo32
     obtain ⟨Ao33, co33, eo33⟩ := Kd.R_slice HO161.out
     subst eo33
     go_wp2_with (first | ((with_reducible refine gate_callee (f := 24) rfl ?_); refine goesL_ (some 39) rfl rfl Try.func24 (by kernel_rfl) rfl #[.slice Ao32 t173.length co32, .slice Ao33 t159.length co33] rfl (by (try simp only [List.map_toArray, List.map_cons, List.map_nil]); first | done | rfl | (simp only [List.length_drop, List.length_take]; rfl)) ?_; (with_reducible refine (laws_eqIntS.calls k _ _ t173 _ _ t159 true _ ?side1 ?side2 ?side3 ?side4 A28.out).mono ?_); (case side1 => exact cz_ (Kd.R_reads' HO175.out).2.2); (case side2 => exact (Kd.R_reads' HO175.out).2.1); (case side3 => exact cz_ (Kd.R_reads' HO161.out).2.2); (case side4 => exact (Kd.R_reads' HO161.out).2.1); rintro e w' ⟨rfl, ⟨nd, rfl⟩⟩; refine ⟨_, rfl, ?_⟩; obtain ⟨Ao34, co34, eo34⟩ := Kd.R_slice HO178.out; subst eo34; obtain ⟨Ao35, co35, eo35⟩ := Kd.R_slice HO164.out; subst eo35) | (go_at_call 24; (with_reducible refine (laws_eqIntS.calls k _ _ t176 _ _ t162 true _ ?side1 ?side2 ?side3 ?side4 A30.out).mono ?_); (case side1 => exact cz_ (Kd.R_reads' HO178.out).2.2); (case side2 => exact (Kd.R_reads' HO178.out).2.1); (case side3 => exact cz_ (Kd.R_reads' HO164.out).2.2); (case side4 => exact (Kd.R_reads' HO164.out).2.1); rintro e w' ⟨rfl, ⟨nd, rfl⟩⟩))
     go_meet
     case rel => exact ⟨_, ((t179 != t165)), (by first | rfl | (simp; done) | (simp [*]; done)), H', ⟨by first | omega | exact Nat.le_refl _⟩, ⟨rz_ (Kd.R_mono HO161.out (fun _ hk => ⟨hk.1.1, ⟨hk.1.2, hk.2⟩⟩))⟩, ⟨rz_ (Kd.R_mono HO164.out (fun _ hk => ⟨hk.1.1, ⟨hk.1.2, hk.2⟩⟩))⟩, ⟨rz_ (Kd.R_mono HO175.out (fun _ hk => ⟨hk.1.2, ⟨hk.2, hk.1.1⟩⟩))⟩, ⟨rz_ (Kd.R_mono HO178.out (fun _ hk => ⟨hk.1.2, ⟨hk.2, hk.1.1⟩⟩))⟩, ⟨rz_ (Kd.R_mono HO168.out (fun _ hk => trivial))⟩, ⟨rz_ (Kd.R_mono HO171.out (fun _ hk => trivial))⟩, ⟨bz_ BK151.out⟩, ⟨bz_ BK172.out⟩, ⟨by repeat (first | (with_reducible first | exact HB.out | apply below_alloc | apply pw_below_drewN | apply below_drew1 | refine below_set ?_ GE151.out | refine below_set ?_ GE172.out) | exact HB.out)⟩⟩
    ·replace c31 := Bool.eq_false_iff.mpr c31
     subst c31
     have H1 : (laws_FnExactEndContexts.j0 k t159 t162 t165 t173 t176 t179 true l0_0 l0_1 t166 t169) = some r := by rw [if_neg (show ¬ (false = true) by decide)] at H; exact H
     clear H
     have H := H1
     clear H1
     have H' := Aside0.mk H
     clear H
     obtain ⟨Ao36, co36, eo36⟩ := Kd.R_slice HO175.out
     subst eo36
     obtain ⟨Ao37, co37, eo37⟩ := Kd.R_slice HO161.out
     subst eo37
     go_wp2_with (first | ((with_reducible refine gate_callee (f := 24) rfl ?_); refine goesL_ (some 39) rfl rfl Try.func24 (by kernel_rfl) rfl #[.slice Ao36 t173.length co36, .slice Ao37 t159.length co37] rfl (by (try simp only [List.map_toArray, List.map_cons, List.map_nil]); first | done | rfl | (simp only [List.length_drop, List.length_take]; rfl)) ?_; (with_reducible refine (laws_eqIntS.calls k _ _ t173 _ _ t159 true _ ?side1 ?side2 ?side3 ?side4 A28.out).mono ?_); (case side1 => exact cz_ (Kd.R_reads' HO175.out).2.2); (case side2 => exact (Kd.R_reads' HO175.out).2.1); (case side3 => exact cz_ (Kd.R_reads' HO161.out).2.2); (case side4 => exact (Kd.R_reads' HO161.out).2.1); rintro e w' ⟨rfl, ⟨nd, rfl⟩⟩; refine ⟨_, rfl, ?_⟩; obtain ⟨Ao38, co38, eo38⟩ := Kd.R_slice HO178.out; subst eo38; obtain ⟨Ao39, co39, eo39⟩ := Kd.R_slice HO164.out; subst eo39) | (go_at_call 24; (with_reducible refine (laws_eqIntS.calls k _ _ t176 _ _ t162 false _ ?side1 ?side2 ?side3 ?side4 A30.out).mono ?_); (case side1 => exact cz_ (Kd.R_reads' HO178.out).2.2); (case side2 => exact (Kd.R_reads' HO178.out).2.1); (case side3 => exact cz_ (Kd.R_reads' HO164.out).2.2); (case side4 => exact (Kd.R_reads' HO164.out).2.1); rintro e w' ⟨rfl, ⟨nd, rfl⟩⟩))
     go_meet
     case rel => exact ⟨_, (true), (by first | rfl | (simp; done) | (simp [*]; done)), H', ⟨by first | omega | exact Nat.le_refl _⟩, ⟨rz_ (Kd.R_mono HO161.out (fun _ hk => ⟨hk.1.1, ⟨hk.1.2, hk.2⟩⟩))⟩, ⟨rz_ (Kd.R_mono HO164.out (fun _ hk => ⟨hk.1.1, ⟨hk.1.2, hk.2⟩⟩))⟩, ⟨rz_ (Kd.R_mono HO175.out (fun _ hk => ⟨hk.1.2, ⟨hk.2, hk.1.1⟩⟩))⟩, ⟨rz_ (Kd.R_mono HO178.out (fun _ hk => ⟨hk.1.2, ⟨hk.2, hk.1.1⟩⟩))⟩, ⟨rz_ (Kd.R_mono HO168.out (fun _ hk => trivial))⟩, ⟨rz_ (Kd.R_mono HO171.out (fun _ hk => trivial))⟩, ⟨bz_ BK151.out⟩, ⟨bz_ BK172.out⟩, ⟨by repeat (first | (with_reducible first | exact HB.out | apply below_alloc | apply pw_below_drewN | apply below_drew1 | refine below_set ?_ GE151.out | refine below_set ?_ GE172.out) | exact HB.out)⟩⟩
   ·replace c29 := Bool.eq_false_iff.mpr c29
    subst c29
    have H1 : (laws_FnExactEndContexts.j0 k t159 t162 t165 t173 t176 t179 true l0_0 l0_1 t166 t169) = some r := by rw [if_neg (show ¬ (false = true) by decide)] at H; exact H
    clear H
    have H := H1
    clear H1
    have H' := Aside0.mk H
    clear H
    obtain ⟨Ao40, co40, eo40⟩ := Kd.R_slice HO175.out
    subst eo40
    obtain ⟨Ao41, co41, eo41⟩ := Kd.R_slice HO161.out
    subst eo41
    go_wp2_with (first | ((with_reducible refine gate_callee (f := 24) rfl ?_); refine goesL_ (some 39) rfl rfl Try.func24 (by kernel_rfl) rfl #[.slice Ao40 t173.length co40, .slice Ao41 t159.length co41] rfl (by (try simp only [List.map_toArray, List.map_cons, List.map_nil]); first | done | rfl | (simp only [List.length_drop, List.length_take]; rfl)) ?_; (with_reducible refine (laws_eqIntS.calls k _ _ t173 _ _ t159 false _ ?side1 ?side2 ?side3 ?side4 A28.out).mono ?_); (case side1 => exact cz_ (Kd.R_reads' HO175.out).2.2); (case side2 => exact (Kd.R_reads' HO175.out).2.1); (case side3 => exact cz_ (Kd.R_reads' HO161.out).2.2); (case side4 => exact (Kd.R_reads' HO161.out).2.1); rintro e w' ⟨rfl, ⟨nd, rfl⟩⟩; refine ⟨_, rfl, ?_⟩))
    go_meet
    case rel => exact ⟨_, (true), (by first | rfl | (simp; done) | (simp [*]; done)), H', ⟨by first | omega | exact Nat.le_refl _⟩, ⟨rz_ (Kd.R_mono HO161.out (fun _ hk => ⟨hk.1.1, ⟨hk.1.2, hk.2⟩⟩))⟩, ⟨rz_ (Kd.R_mono HO164.out (fun _ hk => ⟨hk.1.1, ⟨hk.1.2, hk.2⟩⟩))⟩, ⟨rz_ (Kd.R_mono HO175.out (fun _ hk => ⟨hk.1.2, ⟨hk.2, hk.1.1⟩⟩))⟩, ⟨rz_ (Kd.R_mono HO178.out (fun _ hk => ⟨hk.1.2, ⟨hk.2, hk.1.1⟩⟩))⟩, ⟨rz_ (Kd.R_mono HO168.out (fun _ hk => trivial))⟩, ⟨rz_ (Kd.R_mono HO171.out (fun _ hk => trivial))⟩, ⟨bz_ BK151.out⟩, ⟨bz_ BK172.out⟩, ⟨by repeat (first | (with_reducible first | exact HB.out | apply below_alloc | apply pw_below_drewN | apply below_drew1 | refine below_set ?_ GE151.out | refine below_set ?_ GE172.out) | exact HB.out)⟩⟩
  case rest =>
   clear HC11
   try clear c1
   try clear c2
   try clear p2
   try clear c3
   try clear c3b0
   try clear c4
   try clear c10
   try clear c15
   try clear c17
   try clear c24
   try clear c29
   try clear c31
   try clear hcz13_0
   try clear hcz13_1
   try clear hcz15_0
   try clear hcz15_1
   try clear hcz20_0
   try clear hcz20_1
   try clear hcz25_0
   try clear hcz25_1
   try clear hcz5_0
   try clear hcz5_1
   try clear hfz13_0
   try clear hfz13_1
   try clear hfz15_0
   try clear hfz15_1
   try clear hfz20_0
   try clear hfz20_1
   try clear hfz25_0
   try clear hfz25_1
   try clear hfz5_0
   try clear hfz5_1
   obtain ⟨kq, x51_10, rfl, HA, HJ10, HO_4, HO_5, HO_8, HO_9, HO_173000, HO_173001, BK151, BK172, HB⟩ := hcut
   cases kq with
   | zero => exact absurd HA.out (by simp [laws_FnExactEndContexts.j0])
   | succ kj10 =>
    have H := HA.out
    clear HA
    simp only [laws_FnExactEndContexts.j0] at H
    by_cases c42 : x51_10 = true
    ·subst c42
     have H1 : (some false) = some r := by rw [if_pos rfl] at H; exact H
     clear H
     have H := H1
     clear H1
     obtain rfl := Option.some.inj H
     go_wp2
     go_ret
     exact ⟨by first | rfl | (simp [errW_none, errW_some] <;> rfl) | (simp [*, errW_none, errW_some] <;> rfl), by repeat (first | (with_reducible first | exact HB.out | apply below_alloc | apply pw_below_drewN | apply below_drew1 | refine below_set ?_ GE151.out | refine below_set ?_ GE172.out) | exact HB.out)⟩
    ·replace c42 := Bool.eq_false_iff.mpr c42
     subst c42
     have H1 : ((laws_toRecord.f kj10 l0_0 l0_1).bind fun bt182 => ((laws_eqRecord.f kj10 t166 t169 bt182.1 bt182.2).bind fun t188 => (if t188 = true then ((laws_markRecord.f kj10 t166 t169 1).bind fun bt189 => (if bt189.1 < 0 then (laws_FnExactEndContexts.j1 kj10 t159 t162 t165 t173 t176 true l0_0 l0_1) else ((laws_eqIntS.f kj10 t173 t159).bind fun t192 => (if t192 = true then ((laws_eqIntS.f kj10 t176 t162).bind fun t193 => (if t193 = true then (laws_FnExactEndContexts.j1 kj10 t159 t162 t165 t173 t176 (t179 != t165) l0_0 l0_1) else (laws_FnExactEndContexts.j1 kj10 t159 t162 t165 t173 t176 true l0_0 l0_1))) else (laws_FnExactEndContexts.j1 kj10 t159 t162 t165 t173 t176 true l0_0 l0_1))))) else (some false)))) = some r := by rw [if_neg (show ¬ (false = true) by decide)] at H; exact H
     clear H
     have H := H1
     clear H1
     replace H := Option.bind_eq_some_iff.mp H
     obtain ⟨⟨t182, t185⟩, A430, H⟩ := H
     replace H : ((laws_eqRecord.f kj10 t166 t169 t182 t185).bind fun t188 => (if t188 = true then ((laws_markRecord.f kj10 t166 t169 1).bind fun bt189 => (if bt189.1 < 0 then (laws_FnExactEndContexts.j1 kj10 t159 t162 t165 t173 t176 true l0_0 l0_1) else ((laws_eqIntS.f kj10 t173 t159).bind fun t192 => (if t192 = true then ((laws_eqIntS.f kj10 t176 t162).bind fun t193 => (if t193 = true then (laws_FnExactEndContexts.j1 kj10 t159 t162 t165 t173 t176 (t179 != t165) l0_0 l0_1) else (laws_FnExactEndContexts.j1 kj10 t159 t162 t165 t173 t176 true l0_0 l0_1))) else (laws_FnExactEndContexts.j1 kj10 t159 t162 t165 t173 t176 true l0_0 l0_1))))) else (some false))) = some r := H
     have A43 := Aside0.mk A430
     clear A430
     replace H := Option.bind_eq_some_iff.mp H
     obtain ⟨t188, A440, H⟩ := H
     replace H : (if t188 = true then ((laws_markRecord.f kj10 t166 t169 1).bind fun bt189 => (if bt189.1 < 0 then (laws_FnExactEndContexts.j1 kj10 t159 t162 t165 t173 t176 true l0_0 l0_1) else ((laws_eqIntS.f kj10 t173 t159).bind fun t192 => (if t192 = true then ((laws_eqIntS.f kj10 t176 t162).bind fun t193 => (if t193 = true then (laws_FnExactEndContexts.j1 kj10 t159 t162 t165 t173 t176 (t179 != t165) l0_0 l0_1) else (laws_FnExactEndContexts.j1 kj10 t159 t162 t165 t173 t176 true l0_0 l0_1))) else (laws_FnExactEndContexts.j1 kj10 t159 t162 t165 t173 t176 true l0_0 l0_1))))) else (some false)) = some r := H
     have A44 := Aside0.mk A440
     clear A440
     by_cases c45 : t188 = true
     ·subst c45
      have H1 : ((laws_markRecord.f kj10 t166 t169 1).bind fun bt189 => (if bt189.1 < 0 then (laws_FnExactEndContexts.j1 kj10 t159 t162 t165 t173 t176 true l0_0 l0_1) else ((laws_eqIntS.f kj10 t173 t159).bind fun t192 => (if t192 = true then ((laws_eqIntS.f kj10 t176 t162).bind fun t193 => (if t193 = true then (laws_FnExactEndContexts.j1 kj10 t159 t162 t165 t173 t176 (t179 != t165) l0_0 l0_1) else (laws_FnExactEndContexts.j1 kj10 t159 t162 t165 t173 t176 true l0_0 l0_1))) else (laws_FnExactEndContexts.j1 kj10 t159 t162 t165 t173 t176 true l0_0 l0_1))))) = some r := by rw [if_pos rfl] at H; exact H
      clear H
      have H := H1
      clear H1
      replace H := Option.bind_eq_some_iff.mp H
      obtain ⟨⟨t189, t190, t191⟩, A460, H⟩ := H
      replace H : (if t189 < 0 then (laws_FnExactEndContexts.j1 kj10 t159 t162 t165 t173 t176 true l0_0 l0_1) else ((laws_eqIntS.f kj10 t173 t159).bind fun t192 => (if t192 = true then ((laws_eqIntS.f kj10 t176 t162).bind fun t193 => (if t193 = true then (laws_FnExactEndContexts.j1 kj10 t159 t162 t165 t173 t176 (t179 != t165) l0_0 l0_1) else (laws_FnExactEndContexts.j1 kj10 t159 t162 t165 t173 t176 true l0_0 l0_1))) else (laws_FnExactEndContexts.j1 kj10 t159 t162 t165 t173 t176 true l0_0 l0_1)))) = some r := H
      have A46 := Aside0.mk A460
      clear A460
      have HC47 := Aside0.mk H
      clear H
      try go_wp2
      have n0_ := Aside0.mk (Kd.R_drew HO_4.out)
      have n1_ := Aside0.mk (Kd.R_drew HO_5.out)
      have n2_ := Aside0.mk (Kd.R_drew HO_8.out)
      have n3_ := Aside0.mk (Kd.R_drew HO_9.out)
      have n4_ := Aside0.mk (Kd.R_drew HO_173000.out)
      have n5_ := Aside0.mk (Kd.R_drew HO_173001.out)
      have n6_ := Aside0.mk (blk_drew BK151.out)
      have n7_ := Aside0.mk (blk_drew BK172.out)
      have n8_ := Aside0.mk (below_drew1 HB.out)
      clear HO_4
      clear HO_5
      clear HO_8
      clear HO_9
      clear HO_173000
      clear HO_173001
      clear BK151
      clear BK172
      clear HB
      have HO_4 := n0_
      have HO_5 := n1_
      have HO_8 := n2_
      have HO_9 := n3_
      have HO_173000 := n4_
      have HO_173001 := n5_
      have BK151 := n6_
      have BK172 := n7_
      have HB := n8_
      clear n0_ n1_ n2_ n3_ n4_ n5_ n6_ n7_ n8_
      refine start_ (n := 5) (S := fun w' => w'.cell? ⟨gb172, 0, none⟩ = some (.slice Ao23 t166.length co23) ∧ w'.cell? ⟨gb172, 1, none⟩ = some (.slice Ao26 t169.length co26) ∧ w'.cell? ⟨gb151, 0, none⟩ = some (.slice A0_0 l0_0.length c0_0) ∧ w'.cell? ⟨gb151, 1, none⟩ = some (.slice A0_1 l0_1.length c0_1)) (ds := []) #[false, false, false, false, false] (by kernel_rfl) rfl rfl ⟨(blk_cell BK172.out 0).trans rfl, (blk_cell BK172.out 1).trans rfl, (blk_cell BK151.out 0).trans rfl, (blk_cell BK151.out 1).trans rfl⟩ (fun hHeld => ?_)
      generalize wc.drew = w48 at HO_4 HO_5 HO_8 HO_9 HO_173000 HO_173001 BK151 BK172 HB hHeld ⊢
      refine take_ (i := 0) (N := some 52) (v := ?_) (a' := ?_) #[true, false, false, false, false] rfl rfl (by kernel_rfl) (fun _ _ _ h => h) (Or.inl ⟨by rfl, ?_⟩) hHeld ?_ ?_
      rotate_left
      ·rintro w' ⟨s0, s1, s2, s3⟩
       go_simp
       with_reducible rfl
      rotate_left
      ·simp only [Act.put, List.setIfInBounds_toArray, List.set_cons_zero, List.set_cons_succ, i64_w, i32_w]
       rfl
      refine take_ (i := 1) (N := some 53) (v := ?_) (a' := ?_) #[true, true, false, false, false] rfl rfl (by kernel_rfl) (fun _ _ _ h => h) (Or.inl ⟨by rfl, ?_⟩) hHeld ?_ ?_
      rotate_left
      ·rintro w' ⟨s0, s1, s2, s3⟩
       go_simp
       with_reducible rfl
      rotate_left
      ·simp only [Act.put, List.setIfInBounds_toArray, List.set_cons_zero, List.set_cons_succ, i64_w, i32_w]
       rfl
      refine one_ (i := 2) (N := some 54) (bl 3 5) rfl rfl (by kernel_rfl) (by decide) (fun K hK => ?_)
      refine goes_ Try.func17 (by kernel_rfl) rfl #[.agg #[.slice A0_0 l0_0.length c0_0, .slice A0_1 l0_1.length c0_1]] (by rfl) rfl rfl (by (try simp only [List.map_toArray, List.map_cons, List.map_nil]); first | done | rfl | (simp only [List.length_drop, List.length_take]; rfl)) ?_
      with_reducible refine (laws_toRecord.calls kj10 _ _ l0_0 _ _ l0_1 t182 t185 _ ?side1 ?side2 ?side3 ?side4 A43.out).mono ?_
      (case side1 => exact cz_ (Kd.C_below HR0_0.out HB.out))
      (case side2 => exact HC0_0.out)
      (case side3 => exact cz_ (Kd.C_below HR0_1.out HB.out))
      (case side4 => exact HC0_1.out)
      rintro e w49 ⟨v183, v186, rfl, ho0, ho1, hb⟩
      refine ⟨_, rfl, ?_⟩
      have n0_ := Aside0.mk (Kd.R_below (rz_ HO_4.out) hb)
      have n1_ := Aside0.mk (Kd.R_below (rz_ HO_5.out) hb)
      have n2_ := Aside0.mk (Kd.R_below (rz_ HO_8.out) hb)
      have n3_ := Aside0.mk (Kd.R_below (rz_ HO_9.out) hb)
      have n4_ := Aside0.mk (Kd.R_elder' (rz_ HO_173000.out) (Kd.R_base ho0) hb)
      have n5_ := Aside0.mk (Kd.R_elder' (rz_ HO_173001.out) (Kd.R_base ho1) hb)
      have n6_ := Aside0.mk (Kd.R_lower (Kd.R_new' ho0 (Kd.R_lt (rz_ HO_173000.out))) (below_size (by repeat (first | (with_reducible first | exact HB.out | apply below_alloc | apply pw_below_drewN | apply below_drew1 | refine below_set ?_ GE151.out | refine below_set ?_ GE172.out) | exact HB.out))))
      have n7_ := Aside0.mk (Kd.R_lower (Kd.R_new' ho1 (Kd.R_lt (rz_ HO_173001.out))) (below_size (by repeat (first | (with_reducible first | exact HB.out | apply below_alloc | apply pw_below_drewN | apply below_drew1 | refine below_set ?_ GE151.out | refine below_set ?_ GE172.out) | exact HB.out))))
      have n8_ := Aside0.mk (blk_below (bz_ BK151.out) hb)
      have n9_ := Aside0.mk (blk_below (bz_ BK172.out) hb)
      have n10_ := Aside0.mk (below_step (by repeat (first | (with_reducible first | exact HB.out | apply below_alloc | apply pw_below_drewN | apply below_drew1 | refine below_set ?_ GE151.out | refine below_set ?_ GE172.out) | exact HB.out)) hb)
      clear HO_4
      clear HO_5
      clear HO_8
      clear HO_9
      clear HO_173000
      clear HO_173001
      clear BK151
      clear BK172
      clear HB
      have HO_4 := n0_
      have HO_5 := n1_
      have HO_8 := n2_
      have HO_9 := n3_
      have HO_173000 := n4_
      have HO_173001 := n5_
      have HO184 := n6_
      have HO187 := n7_
      have BK151 := n8_
      have BK172 := n9_
      have HB := n10_
      clear n0_ n1_ n2_ n3_ n4_ n5_ n6_ n7_ n8_ n9_ n10_
      (try clear hb)
      (try clear hb2)
      (try clear hk)
      (try clear hi)
      (try clear ho0)
      (try clear ho1)
      obtain ⟨Ao50, co50, eo50⟩ := Kd.R_slice HO184.out
      (first | subst eo50 | (injection eo50 with f1_ f2_ f3_; have f4_ := f1_.symm; have f5_ := f3_.symm; clear f1_ f2_ f3_; subst f4_; subst f5_))
      obtain ⟨Ao51, co51, eo51⟩ := Kd.R_slice HO187.out
      (first | subst eo51 | (injection eo51 with f1_ f2_ f3_; have f4_ := f1_.symm; have f5_ := f3_.symm; clear f1_ f2_ f3_; subst f4_; subst f5_))
      refine hK.out _ _ ⟨(blk_cell BK172.out 0).trans rfl, (blk_cell BK172.out 1).trans rfl, (blk_cell BK151.out 0).trans rfl, (blk_cell BK151.out 1).trans rfl⟩ (fun hHeld => ?_)
      clear hK K
      refine norm_ (a' := ?_) ?_ ?_
      rotate_left
      ·show Act.put _ (some 54) _ = _
       simp only [Act.put, List.setIfInBounds_toArray, List.set_cons_zero, List.set_cons_succ, i64_w, i32_w]
       rfl
      refine one_ (i := 3) (N := some 55) (bl 4 5) rfl rfl (by kernel_rfl) (by decide) (fun K hK => ?_)
      refine goes_ Try.func19 (by kernel_rfl) rfl #[.agg #[.slice Ao23 t166.length co23, .slice Ao26 t169.length co26], .agg #[.slice Ao50 t182.length co50, .slice Ao51 t185.length co51]] (by rfl) rfl rfl (by (try simp only [List.map_toArray, List.map_cons, List.map_nil]); first | done | rfl | (simp only [List.length_drop, List.length_take]; rfl)) ?_
      with_reducible refine (laws_eqRecord.calls kj10 _ _ t166 _ _ t169 _ _ t182 _ _ t185 true _ ?side1 ?side2 ?side3 ?side4 ?side5 ?side6 ?side7 ?side8 A44.out).mono ?_
      (case side1 => exact cz_ (Kd.R_reads' HO_173000.out).2.2)
      (case side2 => exact (Kd.R_reads' HO_173000.out).2.1)
      (case side3 => exact cz_ (Kd.R_reads' HO_173001.out).2.2)
      (case side4 => exact (Kd.R_reads' HO_173001.out).2.1)
      (case side5 => exact cz_ (Kd.R_reads' HO184.out).2.2)
      (case side6 => exact (Kd.R_reads' HO184.out).2.1)
      (case side7 => exact cz_ (Kd.R_reads' HO187.out).2.2)
      (case side8 => exact (Kd.R_reads' HO187.out).2.1)
      rintro e w52 ⟨rfl, hb⟩
      refine ⟨_, rfl, ?_⟩
      have n0_ := Aside0.mk (Kd.R_below (rz_ HO_4.out) hb)
      have n1_ := Aside0.mk (Kd.R_below (rz_ HO_5.out) hb)
      have n2_ := Aside0.mk (Kd.R_below (rz_ HO_8.out) hb)
      have n3_ := Aside0.mk (Kd.R_below (rz_ HO_9.out) hb)
      have n4_ := Aside0.mk (Kd.R_below (rz_ HO_173000.out) hb)
      have n5_ := Aside0.mk (Kd.R_below (rz_ HO_173001.out) hb)
      have n6_ := Aside0.mk (Kd.R_below (rz_ HO184.out) hb)
      have n7_ := Aside0.mk (Kd.R_below (rz_ HO187.out) hb)
      have n8_ := Aside0.mk (blk_below (bz_ BK151.out) hb)
      have n9_ := Aside0.mk (blk_below (bz_ BK172.out) hb)
      have n10_ := Aside0.mk (below_step (by repeat (first | (with_reducible first | exact HB.out | apply below_alloc | apply pw_below_drewN | apply below_drew1 | refine below_set ?_ GE151.out | refine below_set ?_ GE172.out) | exact HB.out)) hb)
      clear HO_4
      clear HO_5
      clear HO_8
      clear HO_9
      clear HO_173000
      clear HO_173001
      clear HO184
      clear HO187
      clear BK151
      clear BK172
      clear HB
      have HO_4 := n0_
      have HO_5 := n1_
      have HO_8 := n2_
      have HO_9 := n3_
      have HO_173000 := n4_
      have HO_173001 := n5_
      have HO184 := n6_
      have HO187 := n7_
      have BK151 := n8_
      have BK172 := n9_
      have HB := n10_
      clear n0_ n1_ n2_ n3_ n4_ n5_ n6_ n7_ n8_ n9_ n10_
      (try clear hb)
      (try clear hb2)
      (try clear hk)
      (try clear hi)
      refine hK.out _ _ ⟨(blk_cell BK172.out 0).trans rfl, (blk_cell BK172.out 1).trans rfl, (blk_cell BK151.out 0).trans rfl, (blk_cell BK151.out 1).trans rfl⟩ (fun hHeld => ?_)
      clear hK K
      refine norm_ (a' := ?_) ?_ ?_
      rotate_left
      ·show Act.put _ (some 55) _ = _
       simp only [Act.put, List.setIfInBounds_toArray, List.set_cons_zero, List.set_cons_succ, i64_w, i32_w]
       rfl
      refine pure_ (i := 4) (N := some 56) (v := ?_) (a' := ?_) #[true, true, true, true, true] rfl rfl (by kernel_rfl) (fun _ _ _ h => h) (Or.inl ⟨by rfl, ?_⟩) ?_ ?_
      rotate_left
      ·intro w'
       go_simp
       with_reducible rfl
      rotate_left
      ·simp only [Act.put, List.setIfInBounds_toArray, List.set_cons_zero, List.set_cons_succ, i64_w, i32_w]
       rfl
      refine done_ (by kernel_rfl) ?_
      have hnb53 := NB172_151.out
      have hnc53 := NB151_172.out
      have hcz54_0 : w52.cell? ⟨gb172, 0, none⟩ = some (.slice Ao23 t166.length co23) := (blk_cell BK172.out 0).trans rfl
      have hcz54_1 : w52.cell? ⟨gb172, 1, none⟩ = some (.slice Ao26 t169.length co26) := (blk_cell BK172.out 1).trans rfl
      have hfz54_0 := blk_frozen BK172.out 0
      have hfz54_1 := blk_frozen BK172.out 1
      go_upto_region 14 with (first | ((with_reducible refine gate_callee (f := 25) rfl ?_); refine goesL_ (some 59) rfl rfl Try.func25 (by kernel_rfl) rfl #[.agg #[.slice Ao23 t166.length co23, .slice Ao26 t169.length co26], .int .i64 1] rfl (by (try simp only [List.map_toArray, List.map_cons, List.map_nil]); first | done | rfl | (simp only [List.length_drop, List.length_take]; rfl)) ?_; (with_reducible refine (laws_markRecord.calls kj10 (fun k_ => some k_ = (.slice Ao23 t166.length co23 : Value).ownBlock) (.slice Ao23 t166.length co23) t166 (fun k_ => some k_ = (.slice Ao26 t169.length co26 : Value).ownBlock) (.slice Ao26 t169.length co26) t169 1 t189 t190 t191 w _ ?side1 ?side2 ?side3 A46.out).mono ?_); (case side1 => repeat (first | (with_reducible first | exact HB.out | apply below_alloc | apply pw_below_drewN | apply below_drew1 | refine below_set ?_ GE151.out | refine below_set ?_ GE172.out) | exact HB.out)); (case side2 => exact Kd.R_tight rfl HO_173000.out); (case side3 => exact Kd.R_tight rfl HO_173001.out); rintro e w55 ⟨rfl, hy0, hy1, hb, hkp⟩; refine ⟨_, rfl, ?_⟩; have n0_ := Aside0.mk (Kd.R_mono (ok' := fun k_ => some k_ ≠ (v163 : Value).ownBlock ∧ some k_ ≠ (v174 : Value).ownBlock ∧ some k_ ≠ (v177 : Value).ownBlock) (Kd.R_keptB ((Kd.R_apart' (Kd.R_apart' HO_4.out (Kd.R_typed HO_173000.out) (by decide)) (Kd.R_typed HO_173001.out) (by decide))) hkp (fun k_ hk_ hs_ => Or.elim hs_ (fun e_ => (hk_.1.2) e_) (fun e_ => (hk_.2) e_))) (fun k_ hk_ => ⟨hk_.1.1.1.1, hk_.1.1.1.2.1, hk_.1.1.1.2.2⟩)); have n1_ := Aside0.mk (Kd.R_mono (ok' := fun k_ => some k_ ≠ (v160 : Value).ownBlock ∧ some k_ ≠ (v174 : Value).ownBlock ∧ some k_ ≠ (v177 : Value).ownBlock) (Kd.R_keptB ((Kd.R_apart' (Kd.R_apart' HO_5.out (Kd.R_typed HO_173000.out) (by decide)) (Kd.R_typed HO_173001.out) (by decide))) hkp (fun k_ hk_ hs_ => Or.elim hs_ (fun e_ => (hk_.1.2) e_) (fun e_ => (hk_.2) e_))) (fun k_ hk_ => ⟨hk_.1.1.1.1, hk_.1.1.1.2.1, hk_.1.1.1.2.2⟩)); have n2_ := Aside0.mk (Kd.R_mono (ok' := fun k_ => some k_ ≠ (v160 : Value).ownBlock ∧ some k_ ≠ (v163 : Value).ownBlock ∧ some k_ ≠ (v177 : Value).ownBlock) (Kd.R_keptB ((Kd.R_apart' (Kd.R_apart' HO_8.out (Kd.R_typed HO_173000.out) (by decide)) (Kd.R_typed HO_173001.out) (by decide))) hkp (fun k_ hk_ hs_ => Or.elim hs_ (fun e_ => (hk_.1.2) e_) (fun e_ => (hk_.2) e_))) (fun k_ hk_ => ⟨hk_.1.1.1.1, hk_.1.1.1.2.1, hk_.1.1.1.2.2⟩)); have n3_ := Aside0.mk (Kd.R_mono (ok' := fun k_ => some k_ ≠ (v160 : Value).ownBlock ∧ some k_ ≠ (v163 : Value).ownBlock ∧ some k_ ≠ (v174 : Value).ownBlock) (Kd.R_keptB ((Kd.R_apart' (Kd.R_apart' HO_9.out (Kd.R_typed HO_173000.out) (by decide)) (Kd.R_typed HO_173001.out) (by decide))) hkp (fun k_ hk_ hs_ => Or.elim hs_ (fun e_ => (hk_.1.2) e_) (fun e_ => (hk_.2) e_))) (fun k_ hk_ => ⟨hk_.1.1.1.1, hk_.1.1.1.2.1, hk_.1.1.1.2.2⟩)); have n4_ := Aside0.mk (Kd.R_reok rfl hy0 (fun k_ e_ => HO_173000.out.1 k_ e_)); have n5_ := Aside0.mk (Kd.R_reok rfl hy1 (fun k_ e_ => HO_173001.out.1 k_ e_)); have n6_ := Aside0.mk (blk_kept (bz_ BK151.out) hkp (fun hs_ => Or.elim hs_ (fun e_ => (fun e_ => (Kd.R_ne HO_173000.out BK151.out (by decide)) e_) e_) (fun e_ => (fun e_ => (Kd.R_ne HO_173001.out BK151.out (by decide)) e_) e_))); have n7_ := Aside0.mk (blk_kept (bz_ BK172.out) hkp (fun hs_ => Or.elim hs_ (fun e_ => (fun e_ => (Kd.R_ne HO_173000.out BK172.out (by decide)) e_) e_) (fun e_ => (fun e_ => (Kd.R_ne HO_173001.out BK172.out (by decide)) e_) e_))); have n8_ := Aside0.mk (Kd.R_mono (ok' := fun k_ => some k_ ≠ (.slice Ao23 t166.length co23 : Value).ownBlock) (Kd.R_keptB ((Kd.R_apart' HO184.out (Kd.R_typed HO_173001.out) (by decide))) hkp (fun k_ hk_ hs_ => Or.elim hs_ (fun e_ => (hk_.1.2) e_) (fun e_ => (hk_.2) e_))) (fun k_ hk_ => hk_.1.1.2)); have n9_ := Aside0.mk (Kd.R_mono (ok' := fun k_ => some k_ ≠ (.slice Ao26 t169.length co26 : Value).ownBlock) (Kd.R_keptB ((Kd.R_apart' HO187.out (Kd.R_typed HO_173000.out) (by decide))) hkp (fun k_ hk_ hs_ => Or.elim hs_ (fun e_ => (hk_.2) e_) (fun e_ => (hk_.1.2) e_))) (fun k_ hk_ => hk_.1.1.2)); have n10_ := Aside0.mk (hb); clear HO_4; clear HO_5; clear HO_8; clear HO_9; clear HO_173000; clear HO_173001; clear BK151; clear BK172; clear HO184; clear HO187; clear HB; have HO_4 := n0_; have HO_5 := n1_; have HO_8 := n2_; have HO_9 := n3_; have HO_173000 := n4_; have HO_173001 := n5_; have BK151 := n6_; have BK172 := n7_; have HO184 := n8_; have HO187 := n9_; have HB := n10_; clear n0_ n1_ n2_ n3_ n4_ n5_ n6_ n7_ n8_ n9_ n10_; (try clear hb); (try clear hkp); (try clear hy0); (try clear hy1)))
      (try simp only [Act.put, List.setIfInBounds_toArray, List.set_cons_zero, List.set_cons_succ])
      go_cut [78] (fun v78 wc => ∃ (kq : Nat) (x78_46 : Bool), v78 = .bool x78_46 ∧ Aside0 (laws_FnExactEndContexts.j1 kq t159 t162 t165 t173 t176 x78_46 l0_0 l0_1 = some r) ∧ Aside0 (kq ≤ kj10) ∧ Aside0 (Kd.R (Kd.int .i64) 3 wc w.heap.size (fun k_ => some k_ ≠ (v163 : Value).ownBlock ∧ some k_ ≠ (v174 : Value).ownBlock ∧ some k_ ≠ (v177 : Value).ownBlock) v160 t159) ∧ Aside0 (Kd.R (Kd.int .i64) 3 wc w.heap.size (fun k_ => some k_ ≠ (v160 : Value).ownBlock ∧ some k_ ≠ (v174 : Value).ownBlock ∧ some k_ ≠ (v177 : Value).ownBlock) v163 t162) ∧ Aside0 (Kd.R (Kd.int .i64) 3 wc w.heap.size (fun k_ => some k_ ≠ (v160 : Value).ownBlock ∧ some k_ ≠ (v163 : Value).ownBlock ∧ some k_ ≠ (v177 : Value).ownBlock) v174 t173) ∧ Aside0 (Kd.R (Kd.int .i64) 3 wc w.heap.size (fun k_ => some k_ ≠ (v160 : Value).ownBlock ∧ some k_ ≠ (v163 : Value).ownBlock ∧ some k_ ≠ (v174 : Value).ownBlock) v177 t176) ∧ Aside0 (Kd.R k76 76 wc w.heap.size (fun _ => True) (.slice Ao23 t166.length co23) t190) ∧ Aside0 (Kd.R k90 90 wc w.heap.size (fun _ => True) (.slice Ao26 t169.length co26) t191) ∧ Aside0 (wc.heap[gb151]? = some (.cells #[(.slice A0_0 l0_0.length c0_0), (.slice A0_1 l0_1.length c0_1)] 25 (0, 0))) ∧ Aside0 (wc.heap[gb172]? = some (.cells #[(.slice Ao23 t166.length co23), (.slice Ao26 t169.length co26)] 32 (0, 0))) ∧ Aside0 (Below w.heap.size w wc))
      case first =>
       have H := HC47.out
       clear HC47
       by_cases c56 : t189 < 0
       ·rw [if_pos c56] at H
        have c56b0 : decide (t189 < 0) = true := decide_eq_true c56
        clear c56
        (first | rw [c56b0] | (simp only [i64_w, i32_w]; rw [c56b0]) | skip)
        have H' := Aside0.mk H
        clear H
        go_wp2
        go_meet
        case rel => exact ⟨_, (true), (by first | rfl | (simp; done) | (simp [*]; done)), H', ⟨by have := HJ10.out; first | omega | exact Nat.le_refl _⟩, ⟨rz_ HO_4.out⟩, ⟨rz_ HO_5.out⟩, ⟨rz_ HO_8.out⟩, ⟨rz_ HO_9.out⟩, ⟨rz_ (Kd.R_mono HO_173000.out (fun _ hk => trivial))⟩, ⟨rz_ (Kd.R_mono HO_173001.out (fun _ hk => trivial))⟩, ⟨bz_ BK151.out⟩, ⟨bz_ BK172.out⟩, ⟨by repeat (first | (with_reducible first | exact HB.out | apply below_alloc | apply pw_below_drewN | apply below_drew1 | refine below_set ?_ GE151.out | refine below_set ?_ GE172.out) | exact HB.out)⟩⟩
       ·rw [if_neg c56] at H
        have c56b0 : decide (t189 < 0) = false := decide_eq_false c56
        clear c56
        (first | rw [c56b0] | (simp only [i64_w, i32_w]; rw [c56b0]) | skip)
        replace H := Option.bind_eq_some_iff.mp H
        obtain ⟨t192, A570, H⟩ := H
        replace H : (if t192 = true then ((laws_eqIntS.f kj10 t176 t162).bind fun t193 => (if t193 = true then (laws_FnExactEndContexts.j1 kj10 t159 t162 t165 t173 t176 (t179 != t165) l0_0 l0_1) else (laws_FnExactEndContexts.j1 kj10 t159 t162 t165 t173 t176 true l0_0 l0_1))) else (laws_FnExactEndContexts.j1 kj10 t159 t162 t165 t173 t176 true l0_0 l0_1)) = some r := H
        have A57 := Aside0.mk A570
        clear A570
        by_cases c58 : t192 = true
        ·subst c58
         have H1 : ((laws_eqIntS.f kj10 t176 t162).bind fun t193 => (if t193 = true then (laws_FnExactEndContexts.j1 kj10 t159 t162 t165 t173 t176 (t179 != t165) l0_0 l0_1) else (laws_FnExactEndContexts.j1 kj10 t159 t162 t165 t173 t176 true l0_0 l0_1))) = some r := by rw [if_pos rfl] at H; exact H
         clear H
         have H := H1
         clear H1
         replace H := Option.bind_eq_some_iff.mp H
         obtain ⟨t193, A590, H⟩ := H
         replace H : (if t193 = true then (laws_FnExactEndContexts.j1 kj10 t159 t162 t165 t173 t176 (t179 != t165) l0_0 l0_1) else (laws_FnExactEndContexts.j1 kj10 t159 t162 t165 t173 t176 true l0_0 l0_1)) = some r := H
         have A59 := Aside0.mk A590
         clear A590
         by_cases c60 : t193 = true
         ·subst c60
          have H1 : (laws_FnExactEndContexts.j1 kj10 t159 t162 t165 t173 t176 (t179 != t165) l0_0 l0_1) = some r := by rw [if_pos rfl] at H; exact H
          clear H
          have H := H1
          clear H1
          have H' := Aside0.mk H
          clear H
          obtain ⟨Ao61, co61, eo61⟩ := Kd.R_slice HO_8.out
          subst eo61
          obtain ⟨Ao62, co62, eo62⟩ := Kd.R_slice HO_4.out
          subst eo62
          go_wp2_with (first | (go_at_call 24; (with_reducible refine (laws_eqIntS.calls kj10 _ _ t173 _ _ t159 true _ ?side1 ?side2 ?side3 ?side4 A57.out).mono ?_); (case side1 => exact cz_ (Kd.R_reads' HO_8.out).2.2); (case side2 => exact (Kd.R_reads' HO_8.out).2.1); (case side3 => exact cz_ (Kd.R_reads' HO_4.out).2.2); (case side4 => exact (Kd.R_reads' HO_4.out).2.1); rintro e w' ⟨rfl, ⟨nd, rfl⟩⟩; obtain ⟨Ao63, co63, eo63⟩ := Kd.R_slice HO_9.out; subst eo63; obtain ⟨Ao64, co64, eo64⟩ := Kd.R_slice HO_5.out; subst eo64) | (go_at_call 24; (with_reducible refine (laws_eqIntS.calls kj10 _ _ t176 _ _ t162 true _ ?side1 ?side2 ?side3 ?side4 A59.out).mono ?_); (case side1 => exact cz_ (Kd.R_reads' HO_9.out).2.2); (case side2 => exact (Kd.R_reads' HO_9.out).2.1); (case side3 => exact cz_ (Kd.R_reads' HO_5.out).2.2); (case side4 => exact (Kd.R_reads' HO_5.out).2.1); rintro e w' ⟨rfl, ⟨nd, rfl⟩⟩))
          go_meet
          case rel => exact ⟨_, ((t179 != t165)), (by first | rfl | (simp; done) | (simp [*]; done)), H', ⟨by have := HJ10.out; first | omega | exact Nat.le_refl _⟩, ⟨rz_ HO_4.out⟩, ⟨rz_ HO_5.out⟩, ⟨rz_ HO_8.out⟩, ⟨rz_ HO_9.out⟩, ⟨rz_ (Kd.R_mono HO_173000.out (fun _ hk => trivial))⟩, ⟨rz_ (Kd.R_mono HO_173001.out (fun _ hk => trivial))⟩, ⟨bz_ BK151.out⟩, ⟨bz_ BK172.out⟩, ⟨by repeat (first | (with_reducible first | exact HB.out | apply below_alloc | apply pw_below_drewN | apply below_drew1 | refine below_set ?_ GE151.out | refine below_set ?_ GE172.out) | exact HB.out)⟩⟩
         ·replace c60 := Bool.eq_false_iff.mpr c60
          subst c60
          have H1 : (laws_FnExactEndContexts.j1 kj10 t159 t162 t165 t173 t176 true l0_0 l0_1) = some r := by rw [if_neg (show ¬ (false = true) by decide)] at H; exact H
          clear H
          have H := H1
          clear H1
          have H' := Aside0.mk H
          clear H
          obtain ⟨Ao65, co65, eo65⟩ := Kd.R_slice HO_8.out
          subst eo65
          obtain ⟨Ao66, co66, eo66⟩ := Kd.R_slice HO_4.out
          subst eo66
          go_wp2_with (first | (go_at_call 24; (with_reducible refine (laws_eqIntS.calls kj10 _ _ t173 _ _ t159 true _ ?side1 ?side2 ?side3 ?side4 A57.out).mono ?_); (case side1 => exact cz_ (Kd.R_reads' HO_8.out).2.2); (case side2 => exact (Kd.R_reads' HO_8.out).2.1); (case side3 => exact cz_ (Kd.R_reads' HO_4.out).2.2); (case side4 => exact (Kd.R_reads' HO_4.out).2.1); rintro e w' ⟨rfl, ⟨nd, rfl⟩⟩; obtain ⟨Ao67, co67, eo67⟩ := Kd.R_slice HO_9.out; subst eo67; obtain ⟨Ao68, co68, eo68⟩ := Kd.R_slice HO_5.out; subst eo68) | (go_at_call 24; (with_reducible refine (laws_eqIntS.calls kj10 _ _ t176 _ _ t162 false _ ?side1 ?side2 ?side3 ?side4 A59.out).mono ?_); (case side1 => exact cz_ (Kd.R_reads' HO_9.out).2.2); (case side2 => exact (Kd.R_reads' HO_9.out).2.1); (case side3 => exact cz_ (Kd.R_reads' HO_5.out).2.2); (case side4 => exact (Kd.R_reads' HO_5.out).2.1); rintro e w' ⟨rfl, ⟨nd, rfl⟩⟩))
          go_meet
          case rel => exact ⟨_, (true), (by first | rfl | (simp; done) | (simp [*]; done)), H', ⟨by have := HJ10.out; first | omega | exact Nat.le_refl _⟩, ⟨rz_ HO_4.out⟩, ⟨rz_ HO_5.out⟩, ⟨rz_ HO_8.out⟩, ⟨rz_ HO_9.out⟩, ⟨rz_ (Kd.R_mono HO_173000.out (fun _ hk => trivial))⟩, ⟨rz_ (Kd.R_mono HO_173001.out (fun _ hk => trivial))⟩, ⟨bz_ BK151.out⟩, ⟨bz_ BK172.out⟩, ⟨by repeat (first | (with_reducible first | exact HB.out | apply below_alloc | apply pw_below_drewN | apply below_drew1 | refine below_set ?_ GE151.out | refine below_set ?_ GE172.out) | exact HB.out)⟩⟩
        ·replace c58 := Bool.eq_false_iff.mpr c58
         subst c58
         have H1 : (laws_FnExactEndContexts.j1 kj10 t159 t162 t165 t173 t176 true l0_0 l0_1) = some r := by rw [if_neg (show ¬ (false = true) by decide)] at H; exact H
         clear H
         have H := H1
         clear H1
         have H' := Aside0.mk H
         clear H
         obtain ⟨Ao69, co69, eo69⟩ := Kd.R_slice HO_8.out
         subst eo69
         obtain ⟨Ao70, co70, eo70⟩ := Kd.R_slice HO_4.out
         subst eo70
         go_wp2_with (first | (go_at_call 24; (with_reducible refine (laws_eqIntS.calls kj10 _ _ t173 _ _ t159 false _ ?side1 ?side2 ?side3 ?side4 A57.out).mono ?_); (case side1 => exact cz_ (Kd.R_reads' HO_8.out).2.2); (case side2 => exact (Kd.R_reads' HO_8.out).2.1); (case side3 => exact cz_ (Kd.R_reads' HO_4.out).2.2); (case side4 => exact (Kd.R_reads' HO_4.out).2.1); rintro e w' ⟨rfl, ⟨nd, rfl⟩⟩))
         go_meet
         case rel => exact ⟨_, (true), (by first | rfl | (simp; done) | (simp [*]; done)), H', ⟨by have := HJ10.out; first | omega | exact Nat.le_refl _⟩, ⟨rz_ HO_4.out⟩, ⟨rz_ HO_5.out⟩, ⟨rz_ HO_8.out⟩, ⟨rz_ HO_9.out⟩, ⟨rz_ (Kd.R_mono HO_173000.out (fun _ hk => trivial))⟩, ⟨rz_ (Kd.R_mono HO_173001.out (fun _ hk => trivial))⟩, ⟨bz_ BK151.out⟩, ⟨bz_ BK172.out⟩, ⟨by repeat (first | (with_reducible first | exact HB.out | apply below_alloc | apply pw_below_drewN | apply below_drew1 | refine below_set ?_ GE151.out | refine below_set ?_ GE172.out) | exact HB.out)⟩⟩
      case rest =>
       clear HC47
       try clear c1
       try clear c2
       try clear p2
       try clear c3
       try clear c3b0
       try clear c4
       try clear c5
       try clear c6
       try clear c10
       try clear c15
       try clear c17
       try clear c19
       try clear c24
       try clear c25
       try clear c29
       try clear c31
       try clear c42
       try clear c43
       try clear c45
       try clear c53
       try clear c56
       try clear c56b0
       try clear c58
       try clear c60
       try clear hcz13_0
       try clear hcz13_1
       try clear hcz15_0
       try clear hcz15_1
       try clear hcz20_0
       try clear hcz20_1
       try clear hcz25_0
       try clear hcz25_1
       try clear hcz54_0
       try clear hcz54_1
       try clear hcz5_0
       try clear hcz5_1
       try clear hfz13_0
       try clear hfz13_1
       try clear hfz15_0
       try clear hfz15_1
       try clear hfz20_0
       try clear hfz20_1
       try clear hfz25_0
       try clear hfz25_1
       try clear hfz54_0
       try clear hfz54_1
       try clear hfz5_0
       try clear hfz5_1
       try clear p2
       obtain ⟨kq, x78_46, rfl, HA, HJ46, HO_4, HO_5, HO_8, HO_9, HO_173000, HO_173001, BK151, BK172, HB⟩ := hcut
       have hl173000_46 := (Kd.R_reads' HO_173000.out).1
       rw [hl173000_46] at HO_173000
       (try simp only [hl173000_46])
       (try simp only [hl173000_46] at BK151)
       (try simp only [hl173000_46] at BK172)
       (try simp only [hl173000_46] at HO_4)
       (try simp only [hl173000_46] at HO_5)
       (try simp only [hl173000_46] at HO_8)
       (try simp only [hl173000_46] at HO_9)
       (try simp only [hl173000_46] at HO_173001)
       have hl173001_46 := (Kd.R_reads' HO_173001.out).1
       rw [hl173001_46] at HO_173001
       (try simp only [hl173001_46])
       (try simp only [hl173001_46] at BK151)
       (try simp only [hl173001_46] at BK172)
       (try simp only [hl173001_46] at HO_4)
       (try simp only [hl173001_46] at HO_5)
       (try simp only [hl173001_46] at HO_8)
       (try simp only [hl173001_46] at HO_9)
       (try simp only [hl173001_46] at HO_173000)
       cases kq with
       | zero => exact absurd HA.out (by simp [laws_FnExactEndContexts.j1])
       | succ kj46 =>
        have H := HA.out
        clear HA
        simp only [laws_FnExactEndContexts.j1] at H
        by_cases c71 : x78_46 = true
        ·subst c71
         have H1 : (some false) = some r := by rw [if_pos rfl] at H; exact H
         clear H
         have H := H1
         clear H1
         obtain rfl := Option.some.inj H
         go_wp2
         go_ret
         exact ⟨by first | rfl | (simp [errW_none, errW_some] <;> rfl) | (simp [*, errW_none, errW_some] <;> rfl), by repeat (first | (with_reducible first | exact HB.out | apply below_alloc | apply pw_below_drewN | apply below_drew1 | refine below_set ?_ GE151.out | refine below_set ?_ GE172.out) | exact HB.out)⟩
        ·replace c71 := Bool.eq_false_iff.mpr c71
         subst c71
         have H1 : ((laws_markIntS.f kj46 t173 1).bind fun bt194 => ((laws_markIntS.f kj46 t176 bt194.1).bind fun bt196 => ((laws_heldIntS.f kj46 bt194.2 1).bind fun t198 => (if t198 < 0 then (some false) else ((laws_heldIntS.f kj46 bt196.2 t198).bind fun t199 => (if t199 < 0 then (some false) else (if t199 = bt196.1 then ((laws_toRecord.f kj46 l0_0 l0_1).bind fun bt200 => ((impl_EndContexts.f bt200.1 bt200.2).bind fun bt206 => ((laws_eqIntS.f kj46 bt206.1 t159).bind fun t213 => (if t213 = true then ((laws_eqIntS.f kj46 bt206.2.1 t162).bind fun t214 => (if t214 = true then (laws_FnExactEndContexts.j2 kj46 bt194.2 bt196.2 bt196.1 (bt206.2.2 != t165)) else (laws_FnExactEndContexts.j2 kj46 bt194.2 bt196.2 bt196.1 true))) else (laws_FnExactEndContexts.j2 kj46 bt194.2 bt196.2 bt196.1 true))))) else (some false)))))))) = some r := by rw [if_neg (show ¬ (false = true) by decide)] at H; exact H
         clear H
         have H := H1
         clear H1
         replace H := Option.bind_eq_some_iff.mp H
         obtain ⟨⟨t194, t195⟩, A720, H⟩ := H
         replace H : ((laws_markIntS.f kj46 t176 t194).bind fun bt196 => ((laws_heldIntS.f kj46 t195 1).bind fun t198 => (if t198 < 0 then (some false) else ((laws_heldIntS.f kj46 bt196.2 t198).bind fun t199 => (if t199 < 0 then (some false) else (if t199 = bt196.1 then ((laws_toRecord.f kj46 l0_0 l0_1).bind fun bt200 => ((impl_EndContexts.f bt200.1 bt200.2).bind fun bt206 => ((laws_eqIntS.f kj46 bt206.1 t159).bind fun t213 => (if t213 = true then ((laws_eqIntS.f kj46 bt206.2.1 t162).bind fun t214 => (if t214 = true then (laws_FnExactEndContexts.j2 kj46 t195 bt196.2 bt196.1 (bt206.2.2 != t165)) else (laws_FnExactEndContexts.j2 kj46 t195 bt196.2 bt196.1 true))) else (laws_FnExactEndContexts.j2 kj46 t195 bt196.2 bt196.1 true))))) else (some false))))))) = some r := H
         have A72 := Aside0.mk A720
         clear A720
         replace H := Option.bind_eq_some_iff.mp H
         obtain ⟨⟨t196, t197⟩, A730, H⟩ := H
         replace H : ((laws_heldIntS.f kj46 t195 1).bind fun t198 => (if t198 < 0 then (some false) else ((laws_heldIntS.f kj46 t197 t198).bind fun t199 => (if t199 < 0 then (some false) else (if t199 = t196 then ((laws_toRecord.f kj46 l0_0 l0_1).bind fun bt200 => ((impl_EndContexts.f bt200.1 bt200.2).bind fun bt206 => ((laws_eqIntS.f kj46 bt206.1 t159).bind fun t213 => (if t213 = true then ((laws_eqIntS.f kj46 bt206.2.1 t162).bind fun t214 => (if t214 = true then (laws_FnExactEndContexts.j2 kj46 t195 t197 t196 (bt206.2.2 != t165)) else (laws_FnExactEndContexts.j2 kj46 t195 t197 t196 true))) else (laws_FnExactEndContexts.j2 kj46 t195 t197 t196 true))))) else (some false)))))) = some r := H
         have A73 := Aside0.mk A730
         clear A730
         replace H := Option.bind_eq_some_iff.mp H
         obtain ⟨t198, A740, H⟩ := H
         replace H : (if t198 < 0 then (some false) else ((laws_heldIntS.f kj46 t197 t198).bind fun t199 => (if t199 < 0 then (some false) else (if t199 = t196 then ((laws_toRecord.f kj46 l0_0 l0_1).bind fun bt200 => ((impl_EndContexts.f bt200.1 bt200.2).bind fun bt206 => ((laws_eqIntS.f kj46 bt206.1 t159).bind fun t213 => (if t213 = true then ((laws_eqIntS.f kj46 bt206.2.1 t162).bind fun t214 => (if t214 = true then (laws_FnExactEndContexts.j2 kj46 t195 t197 t196 (bt206.2.2 != t165)) else (laws_FnExactEndContexts.j2 kj46 t195 t197 t196 true))) else (laws_FnExactEndContexts.j2 kj46 t195 t197 t196 true))))) else (some false))))) = some r := H
         have A74 := Aside0.mk A740
         clear A740
         by_cases c75 : t198 < 0
         ·rw [if_pos c75] at H
          have c75b0 : decide (t198 < 0) = true := decide_eq_true c75
          clear c75
          obtain rfl := Option.some.inj H
          obtain ⟨Ao76, co76, eo76⟩ := Kd.R_slice HO_8.out
          subst eo76
          go_wp2_with (first | ((with_reducible refine gate_callee (f := 26) rfl ?_); refine goesL_ (some 81) rfl rfl Try.func26 (by kernel_rfl) rfl #[.slice Ao76 t173.length co76, .int .i64 1] rfl (by (try simp only [List.map_toArray, List.map_cons, List.map_nil]); first | done | rfl | (simp only [List.length_drop, List.length_take]; rfl)) ?_; (with_reducible refine (laws_markIntS.calls kj46 (fun k_ => some k_ = (.slice Ao76 t173.length co76 : Value).ownBlock) (.slice Ao76 t173.length co76) t173 1 t194 t195 w _ ?side1 ?side2 A72.out).mono ?_); (case side1 => repeat (first | (with_reducible first | exact HB.out | apply below_alloc | apply pw_below_drewN | apply below_drew1 | refine below_set ?_ GE151.out | refine below_set ?_ GE172.out) | exact HB.out)); (case side2 => exact Kd.R_tight rfl HO_8.out); rintro e w77 ⟨rfl, hy0, hb, hkp⟩; refine ⟨_, rfl, ?_⟩; have n0_ := Aside0.mk (Kd.R_mono (ok' := fun k_ => some k_ ≠ (v163 : Value).ownBlock ∧ some k_ ≠ (.slice Ao76 t173.length co76 : Value).ownBlock ∧ some k_ ≠ (v177 : Value).ownBlock) (Kd.R_keptB (HO_4.out) hkp (fun k_ hk_ hs_ => (hk_.2.1) hs_)) (fun k_ hk_ => ⟨hk_.1.1, hk_.1.2.1, hk_.1.2.2⟩)); have n1_ := Aside0.mk (Kd.R_mono (ok' := fun k_ => some k_ ≠ (v160 : Value).ownBlock ∧ some k_ ≠ (.slice Ao76 t173.length co76 : Value).ownBlock ∧ some k_ ≠ (v177 : Value).ownBlock) (Kd.R_keptB (HO_5.out) hkp (fun k_ hk_ hs_ => (hk_.2.1) hs_)) (fun k_ hk_ => ⟨hk_.1.1, hk_.1.2.1, hk_.1.2.2⟩)); have n2_ := Aside0.mk (Kd.R_reok rfl hy0 (fun k_ e_ => HO_8.out.1 k_ e_)); have n3_ := Aside0.mk (Kd.R_mono (ok' := fun k_ => some k_ ≠ (v160 : Value).ownBlock ∧ some k_ ≠ (v163 : Value).ownBlock ∧ some k_ ≠ (.slice Ao76 t173.length co76 : Value).ownBlock) (Kd.R_keptB (HO_9.out) hkp (fun k_ hk_ hs_ => (hk_.2.2) hs_)) (fun k_ hk_ => ⟨hk_.1.1, hk_.1.2.1, hk_.1.2.2⟩)); have n4_ := Aside0.mk (Kd.R_mono (ok' := fun k_ => True) (Kd.R_keptB ((Kd.R_apart' HO_173000.out (Kd.R_typed HO_8.out) (by decide))) hkp (fun k_ hk_ hs_ => (hk_.2) hs_)) (fun k_ hk_ => trivial)); have n5_ := Aside0.mk (Kd.R_mono (ok' := fun k_ => True) (Kd.R_keptB ((Kd.R_apart' HO_173001.out (Kd.R_typed HO_8.out) (by decide))) hkp (fun k_ hk_ hs_ => (hk_.2) hs_)) (fun k_ hk_ => trivial)); have n6_ := Aside0.mk (blk_kept (bz_ BK151.out) hkp (fun hs_ => (fun e_ => (Kd.R_ne HO_8.out BK151.out (by decide)) e_) hs_)); have n7_ := Aside0.mk (blk_kept (bz_ BK172.out) hkp (fun hs_ => (fun e_ => (Kd.R_ne HO_8.out BK172.out (by decide)) e_) hs_)); have n8_ := Aside0.mk (hb); clear HO_4; clear HO_5; clear HO_8; clear HO_9; clear HO_173000; clear HO_173001; clear BK151; clear BK172; clear HB; have HO_4 := n0_; have HO_5 := n1_; have HO_8 := n2_; have HO_9 := n3_; have HO_173000 := n4_; have HO_173001 := n5_; have BK151 := n6_; have BK172 := n7_; have HB := n8_; clear n0_ n1_ n2_ n3_ n4_ n5_ n6_ n7_ n8_; (try clear hb); (try clear hkp); (try clear hy0); obtain ⟨Ao78, co78, eo78⟩ := Kd.R_slice HO_9.out; subst eo78) | ((with_reducible refine gate_callee (f := 26) rfl ?_); refine goesL_ (some 84) rfl rfl Try.func26 (by kernel_rfl) rfl #[.slice Ao78 t176.length co78, .int .i64 t194] rfl (by (try simp only [List.map_toArray, List.map_cons, List.map_nil]); first | done | rfl | (simp only [List.length_drop, List.length_take]; rfl)) ?_; (with_reducible refine (laws_markIntS.calls kj46 (fun k_ => some k_ = (.slice Ao78 t176.length co78 : Value).ownBlock) (.slice Ao78 t176.length co78) t176 t194 t196 t197 w _ ?side1 ?side2 A73.out).mono ?_); (case side1 => repeat (first | (with_reducible first | exact HB.out | apply below_alloc | apply pw_below_drewN | apply below_drew1 | refine below_set ?_ GE151.out | refine below_set ?_ GE172.out) | exact HB.out)); (case side2 => exact Kd.R_tight rfl HO_9.out); rintro e w79 ⟨rfl, hy0, hb, hkp⟩; refine ⟨_, rfl, ?_⟩; have n0_ := Aside0.mk (Kd.R_mono (ok' := fun k_ => some k_ ≠ (v163 : Value).ownBlock ∧ some k_ ≠ (.slice Ao76 t173.length co76 : Value).ownBlock ∧ some k_ ≠ (.slice Ao78 t176.length co78 : Value).ownBlock) (Kd.R_keptB (HO_4.out) hkp (fun k_ hk_ hs_ => (hk_.2.2) hs_)) (fun k_ hk_ => ⟨hk_.1.1, hk_.1.2.1, hk_.1.2.2⟩)); have n1_ := Aside0.mk (Kd.R_mono (ok' := fun k_ => some k_ ≠ (v160 : Value).ownBlock ∧ some k_ ≠ (.slice Ao76 t173.length co76 : Value).ownBlock ∧ some k_ ≠ (.slice Ao78 t176.length co78 : Value).ownBlock) (Kd.R_keptB (HO_5.out) hkp (fun k_ hk_ hs_ => (hk_.2.2) hs_)) (fun k_ hk_ => ⟨hk_.1.1, hk_.1.2.1, hk_.1.2.2⟩)); have n2_ := Aside0.mk (Kd.R_mono (ok' := fun k_ => some k_ ≠ (v160 : Value).ownBlock ∧ some k_ ≠ (v163 : Value).ownBlock ∧ some k_ ≠ (.slice Ao78 t176.length co78 : Value).ownBlock) (Kd.R_keptB (HO_8.out) hkp (fun k_ hk_ hs_ => (hk_.2.2) hs_)) (fun k_ hk_ => ⟨hk_.1.1, hk_.1.2.1, hk_.1.2.2⟩)); have n3_ := Aside0.mk (Kd.R_reok rfl hy0 (fun k_ e_ => HO_9.out.1 k_ e_)); have n4_ := Aside0.mk (Kd.R_mono (ok' := fun k_ => True) (Kd.R_keptB ((Kd.R_apart' HO_173000.out (Kd.R_typed HO_9.out) (by decide))) hkp (fun k_ hk_ hs_ => (hk_.2) hs_)) (fun k_ hk_ => trivial)); have n5_ := Aside0.mk (Kd.R_mono (ok' := fun k_ => True) (Kd.R_keptB ((Kd.R_apart' HO_173001.out (Kd.R_typed HO_9.out) (by decide))) hkp (fun k_ hk_ hs_ => (hk_.2) hs_)) (fun k_ hk_ => trivial)); have n6_ := Aside0.mk (blk_kept (bz_ BK151.out) hkp (fun hs_ => (fun e_ => (Kd.R_ne HO_9.out BK151.out (by decide)) e_) hs_)); have n7_ := Aside0.mk (blk_kept (bz_ BK172.out) hkp (fun hs_ => (fun e_ => (Kd.R_ne HO_9.out BK172.out (by decide)) e_) hs_)); have n8_ := Aside0.mk (hb); clear HO_4; clear HO_5; clear HO_8; clear HO_9; clear HO_173000; clear HO_173001; clear BK151; clear BK172; clear HB; have HO_4 := n0_; have HO_5 := n1_; have HO_8 := n2_; have HO_9 := n3_; have HO_173000 := n4_; have HO_173001 := n5_; have BK151 := n6_; have BK172 := n7_; have HB := n8_; clear n0_ n1_ n2_ n3_ n4_ n5_ n6_ n7_ n8_; (try clear hb); (try clear hkp); (try clear hy0)) | ((with_reducible refine gate_callee (f := 27) rfl ?_); refine goesL_ (some 87) rfl rfl Try.func27 (by kernel_rfl) rfl #[.slice Ao76 t195.length co76, .int .i64 1] rfl (by (try simp only [List.map_toArray, List.map_cons, List.map_nil]); first | done | (rw [show t195.length = t173.length from (Kd.R_reads' HO_8.out).1.symm] <;> rfl) | rfl | (simp only [List.length_drop, List.length_take]; rfl)) ?_; (with_reducible refine (laws_heldIntS.calls kj46 _ _ t195 1 t198 _ ?side1 ?side2 A74.out).mono ?_); (case side1 => exact cz_ (Kd.R_reads' HO_8.out).2.2); (case side2 => rw [show t195.length = t173.length from (Kd.R_reads' HO_8.out).1.symm]; exact (Kd.R_reads' HO_8.out).2.1); rintro e w' ⟨rfl, ⟨nd, rfl⟩⟩; refine ⟨_, rfl, ?_⟩))
          go_ret
          exact ⟨by first | rfl | (simp [errW_none, errW_some] <;> rfl) | (simp [*, errW_none, errW_some] <;> rfl), by repeat (first | (with_reducible first | exact HB.out | apply below_alloc | apply pw_below_drewN | apply below_drew1 | refine below_set ?_ GE151.out | refine below_set ?_ GE172.out) | exact HB.out)⟩
         ·rw [if_neg c75] at H
          have c75b0 : decide (t198 < 0) = false := decide_eq_false c75
          clear c75
          replace H := Option.bind_eq_some_iff.mp H
          obtain ⟨t199, A800, H⟩ := H
          replace H : (if t199 < 0 then (some false) else (if t199 = t196 then ((laws_toRecord.f kj46 l0_0 l0_1).bind fun bt200 => ((impl_EndContexts.f bt200.1 bt200.2).bind fun bt206 => ((laws_eqIntS.f kj46 bt206.1 t159).bind fun t213 => (if t213 = true then ((laws_eqIntS.f kj46 bt206.2.1 t162).bind fun t214 => (if t214 = true then (laws_FnExactEndContexts.j2 kj46 t195 t197 t196 (bt206.2.2 != t165)) else (laws_FnExactEndContexts.j2 kj46 t195 t197 t196 true))) else (laws_FnExactEndContexts.j2 kj46 t195 t197 t196 true))))) else (some false))) = some r := H
          have A80 := Aside0.mk A800
          clear A800
          by_cases c81 : t199 < 0
          ·rw [if_pos c81] at H
           have c81b0 : decide (t199 < 0) = true := decide_eq_true c81
           clear c81
           obtain rfl := Option.some.inj H
           obtain ⟨Ao82, co82, eo82⟩ := Kd.R_slice HO_8.out
           subst eo82
           go_wp2_with (first | ((with_reducible refine gate_callee (f := 26) rfl ?_); refine goesL_ (some 81) rfl rfl Try.func26 (by kernel_rfl) rfl #[.slice Ao82 t173.length co82, .int .i64 1] rfl (by (try simp only [List.map_toArray, List.map_cons, List.map_nil]); first | done | rfl | (simp only [List.length_drop, List.length_take]; rfl)) ?_; (with_reducible refine (laws_markIntS.calls kj46 (fun k_ => some k_ = (.slice Ao82 t173.length co82 : Value).ownBlock) (.slice Ao82 t173.length co82) t173 1 t194 t195 w _ ?side1 ?side2 A72.out).mono ?_); (case side1 => repeat (first | (with_reducible first | exact HB.out | apply below_alloc | apply pw_below_drewN | apply below_drew1 | refine below_set ?_ GE151.out | refine below_set ?_ GE172.out) | exact HB.out)); (case side2 => exact Kd.R_tight rfl HO_8.out); rintro e w83 ⟨rfl, hy0, hb, hkp⟩; refine ⟨_, rfl, ?_⟩; have n0_ := Aside0.mk (Kd.R_mono (ok' := fun k_ => some k_ ≠ (v163 : Value).ownBlock ∧ some k_ ≠ (.slice Ao82 t173.length co82 : Value).ownBlock ∧ some k_ ≠ (v177 : Value).ownBlock) (Kd.R_keptB (HO_4.out) hkp (fun k_ hk_ hs_ => (hk_.2.1) hs_)) (fun k_ hk_ => ⟨hk_.1.1, hk_.1.2.1, hk_.1.2.2⟩)); have n1_ := Aside0.mk (Kd.R_mono (ok' := fun k_ => some k_ ≠ (v160 : Value).ownBlock ∧ some k_ ≠ (.slice Ao82 t173.length co82 : Value).ownBlock ∧ some k_ ≠ (v177 : Value).ownBlock) (Kd.R_keptB (HO_5.out) hkp (fun k_ hk_ hs_ => (hk_.2.1) hs_)) (fun k_ hk_ => ⟨hk_.1.1, hk_.1.2.1, hk_.1.2.2⟩)); have n2_ := Aside0.mk (Kd.R_reok rfl hy0 (fun k_ e_ => HO_8.out.1 k_ e_)); have n3_ := Aside0.mk (Kd.R_mono (ok' := fun k_ => some k_ ≠ (v160 : Value).ownBlock ∧ some k_ ≠ (v163 : Value).ownBlock ∧ some k_ ≠ (.slice Ao82 t173.length co82 : Value).ownBlock) (Kd.R_keptB (HO_9.out) hkp (fun k_ hk_ hs_ => (hk_.2.2) hs_)) (fun k_ hk_ => ⟨hk_.1.1, hk_.1.2.1, hk_.1.2.2⟩)); have n4_ := Aside0.mk (Kd.R_mono (ok' := fun k_ => True) (Kd.R_keptB ((Kd.R_apart' HO_173000.out (Kd.R_typed HO_8.out) (by decide))) hkp (fun k_ hk_ hs_ => (hk_.2) hs_)) (fun k_ hk_ => trivial)); have n5_ := Aside0.mk (Kd.R_mono (ok' := fun k_ => True) (Kd.R_keptB ((Kd.R_apart' HO_173001.out (Kd.R_typed HO_8.out) (by decide))) hkp (fun k_ hk_ hs_ => (hk_.2) hs_)) (fun k_ hk_ => trivial)); have n6_ := Aside0.mk (blk_kept (bz_ BK151.out) hkp (fun hs_ => (fun e_ => (Kd.R_ne HO_8.out BK151.out (by decide)) e_) hs_)); have n7_ := Aside0.mk (blk_kept (bz_ BK172.out) hkp (fun hs_ => (fun e_ => (Kd.R_ne HO_8.out BK172.out (by decide)) e_) hs_)); have n8_ := Aside0.mk (hb); clear HO_4; clear HO_5; clear HO_8; clear HO_9; clear HO_173000; clear HO_173001; clear BK151; clear BK172; clear HB; have HO_4 := n0_; have HO_5 := n1_; have HO_8 := n2_; have HO_9 := n3_; have HO_173000 := n4_; have HO_173001 := n5_; have BK151 := n6_; have BK172 := n7_; have HB := n8_; clear n0_ n1_ n2_ n3_ n4_ n5_ n6_ n7_ n8_; (try clear hb); (try clear hkp); (try clear hy0); obtain ⟨Ao84, co84, eo84⟩ := Kd.R_slice HO_9.out; subst eo84) | ((with_reducible refine gate_callee (f := 26) rfl ?_); refine goesL_ (some 84) rfl rfl Try.func26 (by kernel_rfl) rfl #[.slice Ao84 t176.length co84, .int .i64 t194] rfl (by (try simp only [List.map_toArray, List.map_cons, List.map_nil]); first | done | rfl | (simp only [List.length_drop, List.length_take]; rfl)) ?_; (with_reducible refine (laws_markIntS.calls kj46 (fun k_ => some k_ = (.slice Ao84 t176.length co84 : Value).ownBlock) (.slice Ao84 t176.length co84) t176 t194 t196 t197 w _ ?side1 ?side2 A73.out).mono ?_); (case side1 => repeat (first | (with_reducible first | exact HB.out | apply below_alloc | apply pw_below_drewN | apply below_drew1 | refine below_set ?_ GE151.out | refine below_set ?_ GE172.out) | exact HB.out)); (case side2 => exact Kd.R_tight rfl HO_9.out); rintro e w85 ⟨rfl, hy0, hb, hkp⟩; refine ⟨_, rfl, ?_⟩; have n0_ := Aside0.mk (Kd.R_mono (ok' := fun k_ => some k_ ≠ (v163 : Value).ownBlock ∧ some k_ ≠ (.slice Ao82 t173.length co82 : Value).ownBlock ∧ some k_ ≠ (.slice Ao84 t176.length co84 : Value).ownBlock) (Kd.R_keptB (HO_4.out) hkp (fun k_ hk_ hs_ => (hk_.2.2) hs_)) (fun k_ hk_ => ⟨hk_.1.1, hk_.1.2.1, hk_.1.2.2⟩)); have n1_ := Aside0.mk (Kd.R_mono (ok' := fun k_ => some k_ ≠ (v160 : Value).ownBlock ∧ some k_ ≠ (.slice Ao82 t173.length co82 : Value).ownBlock ∧ some k_ ≠ (.slice Ao84 t176.length co84 : Value).ownBlock) (Kd.R_keptB (HO_5.out) hkp (fun k_ hk_ hs_ => (hk_.2.2) hs_)) (fun k_ hk_ => ⟨hk_.1.1, hk_.1.2.1, hk_.1.2.2⟩)); have n2_ := Aside0.mk (Kd.R_mono (ok' := fun k_ => some k_ ≠ (v160 : Value).ownBlock ∧ some k_ ≠ (v163 : Value).ownBlock ∧ some k_ ≠ (.slice Ao84 t176.length co84 : Value).ownBlock) (Kd.R_keptB (HO_8.out) hkp (fun k_ hk_ hs_ => (hk_.2.2) hs_)) (fun k_ hk_ => ⟨hk_.1.1, hk_.1.2.1, hk_.1.2.2⟩)); have n3_ := Aside0.mk (Kd.R_reok rfl hy0 (fun k_ e_ => HO_9.out.1 k_ e_)); have n4_ := Aside0.mk (Kd.R_mono (ok' := fun k_ => True) (Kd.R_keptB ((Kd.R_apart' HO_173000.out (Kd.R_typed HO_9.out) (by decide))) hkp (fun k_ hk_ hs_ => (hk_.2) hs_)) (fun k_ hk_ => trivial)); have n5_ := Aside0.mk (Kd.R_mono (ok' := fun k_ => True) (Kd.R_keptB ((Kd.R_apart' HO_173001.out (Kd.R_typed HO_9.out) (by decide))) hkp (fun k_ hk_ hs_ => (hk_.2) hs_)) (fun k_ hk_ => trivial)); have n6_ := Aside0.mk (blk_kept (bz_ BK151.out) hkp (fun hs_ => (fun e_ => (Kd.R_ne HO_9.out BK151.out (by decide)) e_) hs_)); have n7_ := Aside0.mk (blk_kept (bz_ BK172.out) hkp (fun hs_ => (fun e_ => (Kd.R_ne HO_9.out BK172.out (by decide)) e_) hs_)); have n8_ := Aside0.mk (hb); clear HO_4; clear HO_5; clear HO_8; clear HO_9; clear HO_173000; clear HO_173001; clear BK151; clear BK172; clear HB; have HO_4 := n0_; have HO_5 := n1_; have HO_8 := n2_; have HO_9 := n3_; have HO_173000 := n4_; have HO_173001 := n5_; have BK151 := n6_; have BK172 := n7_; have HB := n8_; clear n0_ n1_ n2_ n3_ n4_ n5_ n6_ n7_ n8_; (try clear hb); (try clear hkp); (try clear hy0)) | ((with_reducible refine gate_callee (f := 27) rfl ?_); refine goesL_ (some 87) rfl rfl Try.func27 (by kernel_rfl) rfl #[.slice Ao82 t195.length co82, .int .i64 1] rfl (by (try simp only [List.map_toArray, List.map_cons, List.map_nil]); first | done | (rw [show t195.length = t173.length from (Kd.R_reads' HO_8.out).1.symm] <;> rfl) | rfl | (simp only [List.length_drop, List.length_take]; rfl)) ?_; (with_reducible refine (laws_heldIntS.calls kj46 _ _ t195 1 t198 _ ?side1 ?side2 A74.out).mono ?_); (case side1 => exact cz_ (Kd.R_reads' HO_8.out).2.2); (case side2 => rw [show t195.length = t173.length from (Kd.R_reads' HO_8.out).1.symm]; exact (Kd.R_reads' HO_8.out).2.1); rintro e w' ⟨rfl, ⟨nd, rfl⟩⟩; refine ⟨_, rfl, ?_⟩) | ((with_reducible refine gate_callee (f := 27) rfl ?_); refine goesL_ (some 92) rfl rfl Try.func27 (by kernel_rfl) rfl #[.slice Ao84 t197.length co84, .int .i64 t198] rfl (by (try simp only [List.map_toArray, List.map_cons, List.map_nil]); first | done | (rw [show t197.length = t176.length from (Kd.R_reads' HO_9.out).1.symm] <;> rfl) | rfl | (simp only [List.length_drop, List.length_take]; rfl)) ?_; (with_reducible refine (laws_heldIntS.calls kj46 _ _ t197 t198 t199 _ ?side1 ?side2 A80.out).mono ?_); (case side1 => exact cz_ (Kd.R_reads' HO_9.out).2.2); (case side2 => rw [show t197.length = t176.length from (Kd.R_reads' HO_9.out).1.symm]; exact (Kd.R_reads' HO_9.out).2.1); rintro e w' ⟨rfl, ⟨nd, rfl⟩⟩; refine ⟨_, rfl, ?_⟩))
           go_ret
           exact ⟨by first | rfl | (simp [errW_none, errW_some] <;> rfl) | (simp [*, errW_none, errW_some] <;> rfl), by repeat (first | (with_reducible first | exact HB.out | apply below_alloc | apply pw_below_drewN | apply below_drew1 | refine below_set ?_ GE151.out | refine below_set ?_ GE172.out) | exact HB.out)⟩
          ·rw [if_neg c81] at H
           have c81b0 : decide (t199 < 0) = false := decide_eq_false c81
           clear c81
           by_cases c86 : t199 = t196
           ·rw [if_pos c86] at H
            have c86b0 : (t199 == t196) = true := beq_iff_eq.mpr c86
            have c86b1 : (t199 != t196) = false := bne_eq_false_iff_eq.mpr c86
            clear c86
            replace H := Option.bind_eq_some_iff.mp H
            obtain ⟨⟨t200, t203⟩, A870, H⟩ := H
            replace H : ((impl_EndContexts.f t200 t203).bind fun bt206 => ((laws_eqIntS.f kj46 bt206.1 t159).bind fun t213 => (if t213 = true then ((laws_eqIntS.f kj46 bt206.2.1 t162).bind fun t214 => (if t214 = true then (laws_FnExactEndContexts.j2 kj46 t195 t197 t196 (bt206.2.2 != t165)) else (laws_FnExactEndContexts.j2 kj46 t195 t197 t196 true))) else (laws_FnExactEndContexts.j2 kj46 t195 t197 t196 true)))) = some r := H
            have A87 := Aside0.mk A870
            clear A870
            replace H := Option.bind_eq_some_iff.mp H
            obtain ⟨⟨t206, t209, t212⟩, A880, H⟩ := H
            replace H : ((laws_eqIntS.f kj46 t206 t159).bind fun t213 => (if t213 = true then ((laws_eqIntS.f kj46 t209 t162).bind fun t214 => (if t214 = true then (laws_FnExactEndContexts.j2 kj46 t195 t197 t196 (t212 != t165)) else (laws_FnExactEndContexts.j2 kj46 t195 t197 t196 true))) else (laws_FnExactEndContexts.j2 kj46 t195 t197 t196 true))) = some r := H
            have A88 := Aside0.mk A880
            clear A880
            have HC89 := Aside0.mk H
            clear H
            obtain ⟨Ao90, co90, eo90⟩ := Kd.R_slice HO_8.out
            subst eo90
            go_upto_region 29 with (first | ((with_reducible refine gate_callee (f := 26) rfl ?_); refine goesL_ (some 81) rfl rfl Try.func26 (by kernel_rfl) rfl #[.slice Ao90 t173.length co90, .int .i64 1] rfl (by (try simp only [List.map_toArray, List.map_cons, List.map_nil]); first | done | rfl | (simp only [List.length_drop, List.length_take]; rfl)) ?_; (with_reducible refine (laws_markIntS.calls kj46 (fun k_ => some k_ = (.slice Ao90 t173.length co90 : Value).ownBlock) (.slice Ao90 t173.length co90) t173 1 t194 t195 w _ ?side1 ?side2 A72.out).mono ?_); (case side1 => repeat (first | (with_reducible first | exact HB.out | apply below_alloc | apply pw_below_drewN | apply below_drew1 | refine below_set ?_ GE151.out | refine below_set ?_ GE172.out) | exact HB.out)); (case side2 => exact Kd.R_tight rfl HO_8.out); rintro e w91 ⟨rfl, hy0, hb, hkp⟩; refine ⟨_, rfl, ?_⟩; have n0_ := Aside0.mk (Kd.R_mono (ok' := fun k_ => some k_ ≠ (v163 : Value).ownBlock ∧ some k_ ≠ (.slice Ao90 t173.length co90 : Value).ownBlock ∧ some k_ ≠ (v177 : Value).ownBlock) (Kd.R_keptB (HO_4.out) hkp (fun k_ hk_ hs_ => (hk_.2.1) hs_)) (fun k_ hk_ => ⟨hk_.1.1, hk_.1.2.1, hk_.1.2.2⟩)); have n1_ := Aside0.mk (Kd.R_mono (ok' := fun k_ => some k_ ≠ (v160 : Value).ownBlock ∧ some k_ ≠ (.slice Ao90 t173.length co90 : Value).ownBlock ∧ some k_ ≠ (v177 : Value).ownBlock) (Kd.R_keptB (HO_5.out) hkp (fun k_ hk_ hs_ => (hk_.2.1) hs_)) (fun k_ hk_ => ⟨hk_.1.1, hk_.1.2.1, hk_.1.2.2⟩)); have n2_ := Aside0.mk (Kd.R_reok rfl hy0 (fun k_ e_ => HO_8.out.1 k_ e_)); have n3_ := Aside0.mk (Kd.R_mono (ok' := fun k_ => some k_ ≠ (v160 : Value).ownBlock ∧ some k_ ≠ (v163 : Value).ownBlock ∧ some k_ ≠ (.slice Ao90 t173.length co90 : Value).ownBlock) (Kd.R_keptB (HO_9.out) hkp (fun k_ hk_ hs_ => (hk_.2.2) hs_)) (fun k_ hk_ => ⟨hk_.1.1, hk_.1.2.1, hk_.1.2.2⟩)); have n4_ := Aside0.mk (Kd.R_mono (ok' := fun k_ => True) (Kd.R_keptB ((Kd.R_apart' HO_173000.out (Kd.R_typed HO_8.out) (by decide))) hkp (fun k_ hk_ hs_ => (hk_.2) hs_)) (fun k_ hk_ => trivial)); have n5_ := Aside0.mk (Kd.R_mono (ok' := fun k_ => True) (Kd.R_keptB ((Kd.R_apart' HO_173001.out (Kd.R_typed HO_8.out) (by decide))) hkp (fun k_ hk_ hs_ => (hk_.2) hs_)) (fun k_ hk_ => trivial)); have n6_ := Aside0.mk (blk_kept (bz_ BK151.out) hkp (fun hs_ => (fun e_ => (Kd.R_ne HO_8.out BK151.out (by decide)) e_) hs_)); have n7_ := Aside0.mk (blk_kept (bz_ BK172.out) hkp (fun hs_ => (fun e_ => (Kd.R_ne HO_8.out BK172.out (by decide)) e_) hs_)); have n8_ := Aside0.mk (hb); clear HO_4; clear HO_5; clear HO_8; clear HO_9; clear HO_173000; clear HO_173001; clear BK151; clear BK172; clear HB; have HO_4 := n0_; have HO_5 := n1_; have HO_8 := n2_; have HO_9 := n3_; have HO_173000 := n4_; have HO_173001 := n5_; have BK151 := n6_; have BK172 := n7_; have HB := n8_; clear n0_ n1_ n2_ n3_ n4_ n5_ n6_ n7_ n8_; (try clear hb); (try clear hkp); (try clear hy0); obtain ⟨Ao92, co92, eo92⟩ := Kd.R_slice HO_9.out; subst eo92) | ((with_reducible refine gate_callee (f := 26) rfl ?_); refine goesL_ (some 84) rfl rfl Try.func26 (by kernel_rfl) rfl #[.slice Ao92 t176.length co92, .int .i64 t194] rfl (by (try simp only [List.map_toArray, List.map_cons, List.map_nil]); first | done | rfl | (simp only [List.length_drop, List.length_take]; rfl)) ?_; (with_reducible refine (laws_markIntS.calls kj46 (fun k_ => some k_ = (.slice Ao92 t176.length co92 : Value).ownBlock) (.slice Ao92 t176.length co92) t176 t194 t196 t197 w _ ?side1 ?side2 A73.out).mono ?_); (case side1 => repeat (first | (with_reducible first | exact HB.out | apply below_alloc | apply pw_below_drewN | apply below_drew1 | refine below_set ?_ GE151.out | refine below_set ?_ GE172.out) | exact HB.out)); (case side2 => exact Kd.R_tight rfl HO_9.out); rintro e w93 ⟨rfl, hy0, hb, hkp⟩; refine ⟨_, rfl, ?_⟩; have n0_ := Aside0.mk (Kd.R_mono (ok' := fun k_ => some k_ ≠ (v163 : Value).ownBlock ∧ some k_ ≠ (.slice Ao90 t173.length co90 : Value).ownBlock ∧ some k_ ≠ (.slice Ao92 t176.length co92 : Value).ownBlock) (Kd.R_keptB (HO_4.out) hkp (fun k_ hk_ hs_ => (hk_.2.2) hs_)) (fun k_ hk_ => ⟨hk_.1.1, hk_.1.2.1, hk_.1.2.2⟩)); have n1_ := Aside0.mk (Kd.R_mono (ok' := fun k_ => some k_ ≠ (v160 : Value).ownBlock ∧ some k_ ≠ (.slice Ao90 t173.length co90 : Value).ownBlock ∧ some k_ ≠ (.slice Ao92 t176.length co92 : Value).ownBlock) (Kd.R_keptB (HO_5.out) hkp (fun k_ hk_ hs_ => (hk_.2.2) hs_)) (fun k_ hk_ => ⟨hk_.1.1, hk_.1.2.1, hk_.1.2.2⟩)); have n2_ := Aside0.mk (Kd.R_mono (ok' := fun k_ => some k_ ≠ (v160 : Value).ownBlock ∧ some k_ ≠ (v163 : Value).ownBlock ∧ some k_ ≠ (.slice Ao92 t176.length co92 : Value).ownBlock) (Kd.R_keptB (HO_8.out) hkp (fun k_ hk_ hs_ => (hk_.2.2) hs_)) (fun k_ hk_ => ⟨hk_.1.1, hk_.1.2.1, hk_.1.2.2⟩)); have n3_ := Aside0.mk (Kd.R_reok rfl hy0 (fun k_ e_ => HO_9.out.1 k_ e_)); have n4_ := Aside0.mk (Kd.R_mono (ok' := fun k_ => True) (Kd.R_keptB ((Kd.R_apart' HO_173000.out (Kd.R_typed HO_9.out) (by decide))) hkp (fun k_ hk_ hs_ => (hk_.2) hs_)) (fun k_ hk_ => trivial)); have n5_ := Aside0.mk (Kd.R_mono (ok' := fun k_ => True) (Kd.R_keptB ((Kd.R_apart' HO_173001.out (Kd.R_typed HO_9.out) (by decide))) hkp (fun k_ hk_ hs_ => (hk_.2) hs_)) (fun k_ hk_ => trivial)); have n6_ := Aside0.mk (blk_kept (bz_ BK151.out) hkp (fun hs_ => (fun e_ => (Kd.R_ne HO_9.out BK151.out (by decide)) e_) hs_)); have n7_ := Aside0.mk (blk_kept (bz_ BK172.out) hkp (fun hs_ => (fun e_ => (Kd.R_ne HO_9.out BK172.out (by decide)) e_) hs_)); have n8_ := Aside0.mk (hb); clear HO_4; clear HO_5; clear HO_8; clear HO_9; clear HO_173000; clear HO_173001; clear BK151; clear BK172; clear HB; have HO_4 := n0_; have HO_5 := n1_; have HO_8 := n2_; have HO_9 := n3_; have HO_173000 := n4_; have HO_173001 := n5_; have BK151 := n6_; have BK172 := n7_; have HB := n8_; clear n0_ n1_ n2_ n3_ n4_ n5_ n6_ n7_ n8_; (try clear hb); (try clear hkp); (try clear hy0)) | ((with_reducible refine gate_callee (f := 27) rfl ?_); refine goesL_ (some 87) rfl rfl Try.func27 (by kernel_rfl) rfl #[.slice Ao90 t195.length co90, .int .i64 1] rfl (by (try simp only [List.map_toArray, List.map_cons, List.map_nil]); first | done | (rw [show t195.length = t173.length from (Kd.R_reads' HO_8.out).1.symm] <;> rfl) | rfl | (simp only [List.length_drop, List.length_take]; rfl)) ?_; (with_reducible refine (laws_heldIntS.calls kj46 _ _ t195 1 t198 _ ?side1 ?side2 A74.out).mono ?_); (case side1 => exact cz_ (Kd.R_reads' HO_8.out).2.2); (case side2 => rw [show t195.length = t173.length from (Kd.R_reads' HO_8.out).1.symm]; exact (Kd.R_reads' HO_8.out).2.1); rintro e w' ⟨rfl, ⟨nd, rfl⟩⟩; refine ⟨_, rfl, ?_⟩) | ((with_reducible refine gate_callee (f := 27) rfl ?_); refine goesL_ (some 92) rfl rfl Try.func27 (by kernel_rfl) rfl #[.slice Ao92 t197.length co92, .int .i64 t198] rfl (by (try simp only [List.map_toArray, List.map_cons, List.map_nil]); first | done | (rw [show t197.length = t176.length from (Kd.R_reads' HO_9.out).1.symm] <;> rfl) | rfl | (simp only [List.length_drop, List.length_take]; rfl)) ?_; (with_reducible refine (laws_heldIntS.calls kj46 _ _ t197 t198 t199 _ ?side1 ?side2 A80.out).mono ?_); (case side1 => exact cz_ (Kd.R_reads' HO_9.out).2.2); (case side2 => rw [show t197.length = t176.length from (Kd.R_reads' HO_9.out).1.symm]; exact (Kd.R_reads' HO_9.out).2.1); rintro e w' ⟨rfl, ⟨nd, rfl⟩⟩; refine ⟨_, rfl, ?_⟩; have hnb94 := NB151_172.out; have hnc94 := NB172_151.out; have hcz95_0 : w93.cell? ⟨gb151, 0, none⟩ = some (.slice A0_0 l0_0.length c0_0) := (blk_cell BK151.out 0).trans rfl; have hcz95_1 : w93.cell? ⟨gb151, 1, none⟩ = some (.slice A0_1 l0_1.length c0_1) := (blk_cell BK151.out 1).trans rfl; have hfz95_0 := blk_frozen BK151.out 0; have hfz95_1 := blk_frozen BK151.out 1) | ((with_reducible refine gate_callee (f := 17) rfl ?_); refine goesL_ (some 100) rfl rfl Try.func17 (by kernel_rfl) rfl #[.agg #[.slice A0_0 l0_0.length c0_0, .slice A0_1 l0_1.length c0_1]] rfl (by (try simp only [List.map_toArray, List.map_cons, List.map_nil]); first | done | rfl | (simp only [List.length_drop, List.length_take]; rfl)) ?_; (with_reducible refine (laws_toRecord.calls kj46 _ _ l0_0 _ _ l0_1 t200 t203 _ ?side1 ?side2 ?side3 ?side4 A87.out).mono ?_); (case side1 => repeat (first | exact (Kd.C_below HR0_0.out (by repeat (first | (with_reducible first | exact HB.out | apply below_alloc | apply pw_below_drewN | apply below_drew1 | refine below_set ?_ GE151.out | refine below_set ?_ GE172.out) | exact HB.out))) | (with_reducible refine Kd.C_alloc ?_ _) | (with_reducible refine Kd.C_drewN ?_ _) | (with_reducible refine Kd.C_drew ?_))); (case side2 => exact HC0_0.out); (case side3 => repeat (first | exact (Kd.C_below HR0_1.out (by repeat (first | (with_reducible first | exact HB.out | apply below_alloc | apply pw_below_drewN | apply below_drew1 | refine below_set ?_ GE151.out | refine below_set ?_ GE172.out) | exact HB.out))) | (with_reducible refine Kd.C_alloc ?_ _) | (with_reducible refine Kd.C_drewN ?_ _) | (with_reducible refine Kd.C_drew ?_))); (case side4 => exact HC0_1.out); rintro e w96 ⟨v201, v204, rfl, ho0, ho1, hb⟩; refine ⟨_, rfl, ?_⟩; have n0_ := Aside0.mk (Kd.R_below (rz_ HO_4.out) hb); have n1_ := Aside0.mk (Kd.R_below (rz_ HO_5.out) hb); have n2_ := Aside0.mk (Kd.R_below (rz_ HO_8.out) hb); have n3_ := Aside0.mk (Kd.R_below (rz_ HO_9.out) hb); have n4_ := Aside0.mk (Kd.R_elder' (rz_ HO_173000.out) (Kd.R_base ho0) hb); have n5_ := Aside0.mk (Kd.R_elder' (rz_ HO_173001.out) (Kd.R_base ho1) hb); have n6_ := Aside0.mk (Kd.R_lower (Kd.R_new' ho0 (Kd.R_lt (rz_ HO_173000.out))) (below_size (by repeat (first | (with_reducible first | exact HB.out | apply below_alloc | apply pw_below_drewN | apply below_drew1 | refine below_set ?_ GE151.out | refine below_set ?_ GE172.out) | exact HB.out)))); have n7_ := Aside0.mk (Kd.R_lower (Kd.R_new' ho1 (Kd.R_lt (rz_ HO_173001.out))) (below_size (by repeat (first | (with_reducible first | exact HB.out | apply below_alloc | apply pw_below_drewN | apply below_drew1 | refine below_set ?_ GE151.out | refine below_set ?_ GE172.out) | exact HB.out)))); have n8_ := Aside0.mk (blk_below (bz_ BK151.out) hb); have n9_ := Aside0.mk (blk_below (bz_ BK172.out) hb); have n10_ := Aside0.mk (below_step (by repeat (first | (with_reducible first | exact HB.out | apply below_alloc | apply pw_below_drewN | apply below_drew1 | refine below_set ?_ GE151.out | refine below_set ?_ GE172.out) | exact HB.out)) hb); clear HO_4; clear HO_5; clear HO_8; clear HO_9; clear HO_173000; clear HO_173001; clear BK151; clear BK172; clear HB; have HO_4 := n0_; have HO_5 := n1_; have HO_8 := n2_; have HO_9 := n3_; have HO_173000 := n4_; have HO_173001 := n5_; have HO202 := n6_; have HO205 := n7_; have BK151 := n8_; have BK172 := n9_; have HB := n10_; clear n0_ n1_ n2_ n3_ n4_ n5_ n6_ n7_ n8_ n9_ n10_; (try clear hb); (try clear hb2); (try clear hk); (try clear hi); (try clear ho0); (try clear ho1); obtain ⟨Ao97, co97, eo97⟩ := Kd.R_slice HO202.out; subst eo97; obtain ⟨Ao98, co98, eo98⟩ := Kd.R_slice HO205.out; subst eo98) | ((with_reducible refine gate_callee (f := 43) rfl ?_); refine goesL_ (some 101) rfl rfl Try.func43 (by kernel_rfl) rfl #[.agg #[.slice Ao97 t200.length co97, .slice Ao98 t203.length co98]] rfl (by (try simp only [List.map_toArray, List.map_cons, List.map_nil]); first | done | rfl | (simp only [List.length_drop, List.length_take]; rfl)) ?_; (with_reducible refine (impl_EndContexts.calls _ _ t200 _ _ t203 t206 t209 t212 _ ?side1 ?side2 ?side3 ?side4 A88.out).mono ?_); (case side1 => exact cz_ (Kd.R_reads' HO202.out).2.2); (case side2 => exact (Kd.R_reads' HO202.out).2.1); (case side3 => exact cz_ (Kd.R_reads' HO205.out).2.2); (case side4 => exact (Kd.R_reads' HO205.out).2.1); rintro e w99 ⟨v207, v210, rfl, ho0, ho1, hb⟩; refine ⟨_, rfl, ?_⟩; have n0_ := Aside0.mk (Kd.R_mono (Kd.R_told (Kd.R_told (Kd.R_old (rz_ HO_4.out) hb) (Kd.R_base ho0)) (Kd.R_base ho1)) (fun _ h_ => h_.1)); have n1_ := Aside0.mk (Kd.R_mono (Kd.R_told (Kd.R_told (Kd.R_old (rz_ HO_5.out) hb) (Kd.R_base ho0)) (Kd.R_base ho1)) (fun _ h_ => h_.1)); have n2_ := Aside0.mk (Kd.R_mono (Kd.R_told (Kd.R_told (Kd.R_old (rz_ HO_8.out) hb) (Kd.R_base ho0)) (Kd.R_base ho1)) (fun _ h_ => h_.1)); have n3_ := Aside0.mk (Kd.R_mono (Kd.R_told (Kd.R_told (Kd.R_old (rz_ HO_9.out) hb) (Kd.R_base ho0)) (Kd.R_base ho1)) (fun _ h_ => h_.1)); have n4_ := Aside0.mk (Kd.R_below (rz_ HO_173000.out) hb); have n5_ := Aside0.mk (Kd.R_below (rz_ HO_173001.out) hb); have n6_ := Aside0.mk (Kd.R_below (rz_ HO202.out) hb); have n7_ := Aside0.mk (Kd.R_below (rz_ HO205.out) hb); have n8_ := Aside0.mk (Kd.R_lower (Kd.R_new' (Kd.R_new' (Kd.R_new' (Kd.R_new' ho0 (Kd.R_lt (rz_ HO_4.out))) (Kd.R_lt (rz_ HO_5.out))) (Kd.R_lt (rz_ HO_8.out))) (Kd.R_lt (rz_ HO_9.out))) (below_size (by repeat (first | (with_reducible first | exact HB.out | apply below_alloc | apply pw_below_drewN | apply below_drew1 | refine below_set ?_ GE151.out | refine below_set ?_ GE172.out) | exact HB.out)))); have n9_ := Aside0.mk (Kd.R_lower (Kd.R_new' (Kd.R_new' (Kd.R_new' (Kd.R_new' ho1 (Kd.R_lt (rz_ HO_4.out))) (Kd.R_lt (rz_ HO_5.out))) (Kd.R_lt (rz_ HO_8.out))) (Kd.R_lt (rz_ HO_9.out))) (below_size (by repeat (first | (with_reducible first | exact HB.out | apply below_alloc | apply pw_below_drewN | apply below_drew1 | refine below_set ?_ GE151.out | refine below_set ?_ GE172.out) | exact HB.out)))); have n10_ := Aside0.mk (blk_below (bz_ BK151.out) hb); have n11_ := Aside0.mk (blk_below (bz_ BK172.out) hb); have n12_ := Aside0.mk (below_step (by repeat (first | (with_reducible first | exact HB.out | apply below_alloc | apply pw_below_drewN | apply below_drew1 | refine below_set ?_ GE151.out | refine below_set ?_ GE172.out) | exact HB.out)) hb); clear HO_4; clear HO_5; clear HO_8; clear HO_9; clear HO_173000; clear HO_173001; clear HO202; clear HO205; clear BK151; clear BK172; clear HB; have HO_4 := n0_; have HO_5 := n1_; have HO_8 := n2_; have HO_9 := n3_; have HO_173000 := n4_; have HO_173001 := n5_; have HO202 := n6_; have HO205 := n7_; have HO208 := n8_; have HO211 := n9_; have BK151 := n10_; have BK172 := n11_; have HB := n12_; clear n0_ n1_ n2_ n3_ n4_ n5_ n6_ n7_ n8_ n9_ n10_ n11_ n12_; (try clear hb); (try clear hb2); (try clear hk); (try clear hi); (try clear ho0); (try clear ho1)))
            (try simp only [Act.put, List.setIfInBounds_toArray, List.set_cons_zero, List.set_cons_succ])
            go_cut [119] (fun v119 wc => ∃ (kq : Nat) (x119_88 : Bool), v119 = .bool x119_88 ∧ Aside0 (laws_FnExactEndContexts.j2 kq t195 t197 t196 x119_88 = some r) ∧ Aside0 (kq ≤ kj46) ∧ Aside0 (Kd.R (Kd.int .i64) 3 wc w.heap.size (fun k_ => some k_ ≠ ((.slice Ao92 t176.length co92) : Value).ownBlock) (.slice Ao90 t173.length co90) t195) ∧ Aside0 (Kd.R (Kd.int .i64) 3 wc w.heap.size (fun k_ => some k_ ≠ ((.slice Ao90 t173.length co90) : Value).ownBlock) (.slice Ao92 t176.length co92) t197) ∧ Aside0 (Kd.R k76 76 wc w.heap.size (fun _ => True) (.slice Ao23 t190.length co23) t190) ∧ Aside0 (Kd.R k90 90 wc w.heap.size (fun _ => True) (.slice Ao26 t191.length co26) t191) ∧ Aside0 (wc.heap[gb151]? = some (.cells #[(.slice A0_0 l0_0.length c0_0), (.slice A0_1 l0_1.length c0_1)] 25 (0, 0))) ∧ Aside0 (wc.heap[gb172]? = some (.cells #[(.slice Ao23 t190.length co23), (.slice Ao26 t191.length co26)] 32 (0, 0))) ∧ Aside0 (Below w.heap.size w wc))
            case first =>
             have H := HC89.out
             clear HC89
             replace H := Option.bind_eq_some_iff.mp H
             obtain ⟨t213, A1000, H⟩ := H
             replace H : (if t213 = true then ((laws_eqIntS.f kj46 t209 t162).bind fun t214 => (if t214 = true then (laws_FnExactEndContexts.j2 kj46 t195 t197 t196 (t212 != t165)) else (laws_FnExactEndContexts.j2 kj46 t195 t197 t196 true))) else (laws_FnExactEndContexts.j2 kj46 t195 t197 t196 true)) = some r := H
             have A100 := Aside0.mk A1000
             clear A1000
             by_cases c101 : t213 = true
             ·subst c101
              have H1 : ((laws_eqIntS.f kj46 t209 t162).bind fun t214 => (if t214 = true then (laws_FnExactEndContexts.j2 kj46 t195 t197 t196 (t212 != t165)) else (laws_FnExactEndContexts.j2 kj46 t195 t197 t196 true))) = some r := by rw [if_pos rfl] at H; exact H
              clear H
              have H := H1
              clear H1
              replace H := Option.bind_eq_some_iff.mp H
              obtain ⟨t214, A1020, H⟩ := H
              replace H : (if t214 = true then (laws_FnExactEndContexts.j2 kj46 t195 t197 t196 (t212 != t165)) else (laws_FnExactEndContexts.j2 kj46 t195 t197 t196 true)) = some r := H
              have A102 := Aside0.mk A1020
              clear A1020
              by_cases c103 : t214 = true
              ·subst c103
               have H1 : (laws_FnExactEndContexts.j2 kj46 t195 t197 t196 (t212 != t165)) = some r := by rw [if_pos rfl] at H; exact H
               clear H
               have H := H1
               clear H1
               have H' := Aside0.mk H
               clear H
               obtain ⟨Ao104, co104, eo104⟩ := Kd.R_slice HO208.out
               subst eo104
               obtain ⟨Ao105, co105, eo105⟩ := Kd.R_slice HO_4.out
               subst eo105
               go_wp2_with (first | ((with_reducible refine gate_callee (f := 24) rfl ?_); refine goesL_ (some 107) rfl rfl Try.func24 (by kernel_rfl) rfl #[.slice Ao104 t206.length co104, .slice Ao105 t159.length co105] rfl (by (try simp only [List.map_toArray, List.map_cons, List.map_nil]); first | done | rfl | (simp only [List.length_drop, List.length_take]; rfl)) ?_; (with_reducible refine (laws_eqIntS.calls kj46 _ _ t206 _ _ t159 true _ ?side1 ?side2 ?side3 ?side4 A100.out).mono ?_); (case side1 => exact cz_ (Kd.R_reads' HO208.out).2.2); (case side2 => exact (Kd.R_reads' HO208.out).2.1); (case side3 => exact cz_ (Kd.R_reads' HO_4.out).2.2); (case side4 => exact (Kd.R_reads' HO_4.out).2.1); rintro e w' ⟨rfl, ⟨nd, rfl⟩⟩; refine ⟨_, rfl, ?_⟩; obtain ⟨Ao106, co106, eo106⟩ := Kd.R_slice HO211.out; subst eo106; obtain ⟨Ao107, co107, eo107⟩ := Kd.R_slice HO_5.out; subst eo107) | (go_at_call 24; (with_reducible refine (laws_eqIntS.calls kj46 _ _ t209 _ _ t162 true _ ?side1 ?side2 ?side3 ?side4 A102.out).mono ?_); (case side1 => exact cz_ (Kd.R_reads' HO211.out).2.2); (case side2 => exact (Kd.R_reads' HO211.out).2.1); (case side3 => exact cz_ (Kd.R_reads' HO_5.out).2.2); (case side4 => exact (Kd.R_reads' HO_5.out).2.1); rintro e w' ⟨rfl, ⟨nd, rfl⟩⟩))
               go_meet
               case rel => exact ⟨_, ((t212 != t165)), (by first | rfl | (simp; done) | (simp [*]; done)), H', ⟨by have := HJ10.out; have := HJ46.out; first | omega | exact Nat.le_refl _⟩, ⟨by (try simp only [hl173000_46]); (try simp only [hl173001_46]); (with_reducible repeat (first | apply Kd.R_alloc | apply Kd.R_drewN | apply Kd.R_drew)); exact Kd.R_mono HO_8.out (fun _ hk => hk.1.1.2.2)⟩, ⟨by (try simp only [hl173000_46]); (try simp only [hl173001_46]); (with_reducible repeat (first | apply Kd.R_alloc | apply Kd.R_drewN | apply Kd.R_drew)); exact Kd.R_mono HO_9.out (fun _ hk => hk.1.1.2.2)⟩, ⟨by (try simp only [hl173000_46]); (try simp only [hl173001_46]); (with_reducible repeat (first | apply Kd.R_alloc | apply Kd.R_drewN | apply Kd.R_drew)); exact Kd.R_mono HO_173000.out (fun _ hk => trivial)⟩, ⟨by (try simp only [hl173000_46]); (try simp only [hl173001_46]); (with_reducible repeat (first | apply Kd.R_alloc | apply Kd.R_drewN | apply Kd.R_drew)); exact Kd.R_mono HO_173001.out (fun _ hk => trivial)⟩, ⟨by (try simp only [hl173000_46]); (try simp only [hl173001_46]); (with_reducible repeat (first | refine blk_drewN ?_ _ | refine blk_drew ?_ | refine blk_alloc ?_ _)); exact BK151.out⟩, ⟨by (try simp only [hl173000_46]); (try simp only [hl173001_46]); (with_reducible repeat (first | refine blk_drewN ?_ _ | refine blk_drew ?_ | refine blk_alloc ?_ _)); exact BK172.out⟩, ⟨by repeat (first | (with_reducible first | exact HB.out | apply below_alloc | apply pw_below_drewN | apply below_drew1 | refine below_set ?_ GE151.out | refine below_set ?_ GE172.out) | exact HB.out)⟩⟩
              ·replace c103 := Bool.eq_false_iff.mpr c103
               subst c103
               have H1 : (laws_FnExactEndContexts.j2 kj46 t195 t197 t196 true) = some r := by rw [if_neg (show ¬ (false = true) by decide)] at H; exact H
               clear H
               have H := H1
               clear H1
               have H' := Aside0.mk H
               clear H
               obtain ⟨Ao108, co108, eo108⟩ := Kd.R_slice HO208.out
               subst eo108
               obtain ⟨Ao109, co109, eo109⟩ := Kd.R_slice HO_4.out
               subst eo109
               go_wp2_with (first | ((with_reducible refine gate_callee (f := 24) rfl ?_); refine goesL_ (some 107) rfl rfl Try.func24 (by kernel_rfl) rfl #[.slice Ao108 t206.length co108, .slice Ao109 t159.length co109] rfl (by (try simp only [List.map_toArray, List.map_cons, List.map_nil]); first | done | rfl | (simp only [List.length_drop, List.length_take]; rfl)) ?_; (with_reducible refine (laws_eqIntS.calls kj46 _ _ t206 _ _ t159 true _ ?side1 ?side2 ?side3 ?side4 A100.out).mono ?_); (case side1 => exact cz_ (Kd.R_reads' HO208.out).2.2); (case side2 => exact (Kd.R_reads' HO208.out).2.1); (case side3 => exact cz_ (Kd.R_reads' HO_4.out).2.2); (case side4 => exact (Kd.R_reads' HO_4.out).2.1); rintro e w' ⟨rfl, ⟨nd, rfl⟩⟩; refine ⟨_, rfl, ?_⟩; obtain ⟨Ao110, co110, eo110⟩ := Kd.R_slice HO211.out; subst eo110; obtain ⟨Ao111, co111, eo111⟩ := Kd.R_slice HO_5.out; subst eo111) | (go_at_call 24; (with_reducible refine (laws_eqIntS.calls kj46 _ _ t209 _ _ t162 false _ ?side1 ?side2 ?side3 ?side4 A102.out).mono ?_); (case side1 => exact cz_ (Kd.R_reads' HO211.out).2.2); (case side2 => exact (Kd.R_reads' HO211.out).2.1); (case side3 => exact cz_ (Kd.R_reads' HO_5.out).2.2); (case side4 => exact (Kd.R_reads' HO_5.out).2.1); rintro e w' ⟨rfl, ⟨nd, rfl⟩⟩))
               go_meet
               case rel => exact ⟨_, (true), (by first | rfl | (simp; done) | (simp [*]; done)), H', ⟨by have := HJ10.out; have := HJ46.out; first | omega | exact Nat.le_refl _⟩, ⟨by (try simp only [hl173000_46]); (try simp only [hl173001_46]); (with_reducible repeat (first | apply Kd.R_alloc | apply Kd.R_drewN | apply Kd.R_drew)); exact Kd.R_mono HO_8.out (fun _ hk => hk.1.1.2.2)⟩, ⟨by (try simp only [hl173000_46]); (try simp only [hl173001_46]); (with_reducible repeat (first | apply Kd.R_alloc | apply Kd.R_drewN | apply Kd.R_drew)); exact Kd.R_mono HO_9.out (fun _ hk => hk.1.1.2.2)⟩, ⟨by (try simp only [hl173000_46]); (try simp only [hl173001_46]); (with_reducible repeat (first | apply Kd.R_alloc | apply Kd.R_drewN | apply Kd.R_drew)); exact Kd.R_mono HO_173000.out (fun _ hk => trivial)⟩, ⟨by (try simp only [hl173000_46]); (try simp only [hl173001_46]); (with_reducible repeat (first | apply Kd.R_alloc | apply Kd.R_drewN | apply Kd.R_drew)); exact Kd.R_mono HO_173001.out (fun _ hk => trivial)⟩, ⟨by (try simp only [hl173000_46]); (try simp only [hl173001_46]); (with_reducible repeat (first | refine blk_drewN ?_ _ | refine blk_drew ?_ | refine blk_alloc ?_ _)); exact BK151.out⟩, ⟨by (try simp only [hl173000_46]); (try simp only [hl173001_46]); (with_reducible repeat (first | refine blk_drewN ?_ _ | refine blk_drew ?_ | refine blk_alloc ?_ _)); exact BK172.out⟩, ⟨by repeat (first | (with_reducible first | exact HB.out | apply below_alloc | apply pw_below_drewN | apply below_drew1 | refine below_set ?_ GE151.out | refine below_set ?_ GE172.out) | exact HB.out)⟩⟩
             ·replace c101 := Bool.eq_false_iff.mpr c101
              subst c101
              have H1 : (laws_FnExactEndContexts.j2 kj46 t195 t197 t196 true) = some r := by rw [if_neg (show ¬ (false = true) by decide)] at H; exact H
              clear H
              have H := H1
              clear H1
              have H' := Aside0.mk H
              clear H
              obtain ⟨Ao112, co112, eo112⟩ := Kd.R_slice HO208.out
              subst eo112
              obtain ⟨Ao113, co113, eo113⟩ := Kd.R_slice HO_4.out
              subst eo113
              go_wp2_with (first | ((with_reducible refine gate_callee (f := 24) rfl ?_); refine goesL_ (some 107) rfl rfl Try.func24 (by kernel_rfl) rfl #[.slice Ao112 t206.length co112, .slice Ao113 t159.length co113] rfl (by (try simp only [List.map_toArray, List.map_cons, List.map_nil]); first | done | rfl | (simp only [List.length_drop, List.length_take]; rfl)) ?_; (with_reducible refine (laws_eqIntS.calls kj46 _ _ t206 _ _ t159 false _ ?side1 ?side2 ?side3 ?side4 A100.out).mono ?_); (case side1 => exact cz_ (Kd.R_reads' HO208.out).2.2); (case side2 => exact (Kd.R_reads' HO208.out).2.1); (case side3 => exact cz_ (Kd.R_reads' HO_4.out).2.2); (case side4 => exact (Kd.R_reads' HO_4.out).2.1); rintro e w' ⟨rfl, ⟨nd, rfl⟩⟩; refine ⟨_, rfl, ?_⟩))
              go_meet
              case rel => exact ⟨_, (true), (by first | rfl | (simp; done) | (simp [*]; done)), H', ⟨by have := HJ10.out; have := HJ46.out; first | omega | exact Nat.le_refl _⟩, ⟨by (try simp only [hl173000_46]); (try simp only [hl173001_46]); (with_reducible repeat (first | apply Kd.R_alloc | apply Kd.R_drewN | apply Kd.R_drew)); exact Kd.R_mono HO_8.out (fun _ hk => hk.1.1.2.2)⟩, ⟨by (try simp only [hl173000_46]); (try simp only [hl173001_46]); (with_reducible repeat (first | apply Kd.R_alloc | apply Kd.R_drewN | apply Kd.R_drew)); exact Kd.R_mono HO_9.out (fun _ hk => hk.1.1.2.2)⟩, ⟨by (try simp only [hl173000_46]); (try simp only [hl173001_46]); (with_reducible repeat (first | apply Kd.R_alloc | apply Kd.R_drewN | apply Kd.R_drew)); exact Kd.R_mono HO_173000.out (fun _ hk => trivial)⟩, ⟨by (try simp only [hl173000_46]); (try simp only [hl173001_46]); (with_reducible repeat (first | apply Kd.R_alloc | apply Kd.R_drewN | apply Kd.R_drew)); exact Kd.R_mono HO_173001.out (fun _ hk => trivial)⟩, ⟨by (try simp only [hl173000_46]); (try simp only [hl173001_46]); (with_reducible repeat (first | refine blk_drewN ?_ _ | refine blk_drew ?_ | refine blk_alloc ?_ _)); exact BK151.out⟩, ⟨by (try simp only [hl173000_46]); (try simp only [hl173001_46]); (with_reducible repeat (first | refine blk_drewN ?_ _ | refine blk_drew ?_ | refine blk_alloc ?_ _)); exact BK172.out⟩, ⟨by repeat (first | (with_reducible first | exact HB.out | apply below_alloc | apply pw_below_drewN | apply below_drew1 | refine below_set ?_ GE151.out | refine below_set ?_ GE172.out) | exact HB.out)⟩⟩
            case rest =>
             clear HC89
             try clear c1
             try clear c2
             try clear p2
             try clear c3
             try clear c3b0
             try clear c4
             try clear c5
             try clear c6
             try clear c7
             try clear c8
             try clear c9
             try clear c10
             try clear c15
             try clear c17
             try clear c19
             try clear c24
             try clear c25
             try clear c26
             try clear c27
             try clear c29
             try clear c31
             try clear c42
             try clear c43
             try clear c45
             try clear c53
             try clear c56
             try clear c56b0
             try clear c58
             try clear c60
             try clear c71
             try clear c75
             try clear c75b0
             try clear c81
             try clear c81b0
             try clear c86
             try clear c86b0
             try clear c86b1
             try clear c94
             try clear c101
             try clear c103
             try clear hcz13_0
             try clear hcz13_1
             try clear hcz15_0
             try clear hcz15_1
             try clear hcz20_0
             try clear hcz20_1
             try clear hcz25_0
             try clear hcz25_1
             try clear hcz54_0
             try clear hcz54_1
             try clear hcz5_0
             try clear hcz5_1
             try clear hcz95_0
             try clear hcz95_1
             try clear hfz13_0
             try clear hfz13_1
             try clear hfz15_0
             try clear hfz15_1
             try clear hfz20_0
             try clear hfz20_1
             try clear hfz25_0
             try clear hfz25_1
             try clear hfz54_0
             try clear hfz54_1
             try clear hfz5_0
             try clear hfz5_1
             try clear hfz95_0
             try clear hfz95_1
             try clear p2
             obtain ⟨kq, x119_88, rfl, HA, HJ88, HO_8, HO_9, HO_173000, HO_173001, BK151, BK172, HB⟩ := hcut
             have hl8_88 := (Kd.R_reads' HO_8.out).1
             rw [hl8_88] at HO_8
             (try simp only [hl8_88])
             (try simp only [hl8_88] at BK151)
             (try simp only [hl8_88] at BK172)
             (try simp only [hl8_88] at HO_9)
             (try simp only [hl8_88] at HO_173000)
             (try simp only [hl8_88] at HO_173001)
             have hl9_88 := (Kd.R_reads' HO_9.out).1
             rw [hl9_88] at HO_9
             (try simp only [hl9_88])
             (try simp only [hl9_88] at BK151)
             (try simp only [hl9_88] at BK172)
             (try simp only [hl9_88] at HO_8)
             (try simp only [hl9_88] at HO_173000)
             (try simp only [hl9_88] at HO_173001)
             cases kq with
             | zero => exact absurd HA.out (by simp [laws_FnExactEndContexts.j2])
             | succ kj88 =>
              have H := HA.out
              clear HA
              simp only [laws_FnExactEndContexts.j2] at H
              by_cases c114 : x119_88 = true
              ·subst c114
               have H1 : (some false) = some r := by rw [if_pos rfl] at H; exact H
               clear H
               have H := H1
               clear H1
               obtain rfl := Option.some.inj H
               go_wp2
               go_ret
               exact ⟨by first | rfl | (simp [errW_none, errW_some] <;> rfl) | (simp [*, errW_none, errW_some] <;> rfl), by repeat (first | (with_reducible first | exact HB.out | apply below_alloc | apply pw_below_drewN | apply below_drew1 | refine below_set ?_ GE151.out | refine below_set ?_ GE172.out) | exact HB.out)⟩
              ·replace c114 := Bool.eq_false_iff.mpr c114
               subst c114
               have H1 : ((laws_heldIntS.f kj88 t195 1).bind fun t215 => (if t215 < 0 then (some false) else ((laws_heldIntS.f kj88 t197 t215).bind fun t216 => (if t216 < 0 then (some false) else (if t216 = t196 then (some true) else (some false)))))) = some r := by rw [if_neg (show ¬ (false = true) by decide)] at H; exact H
               clear H
               have H := H1
               clear H1
               replace H := Option.bind_eq_some_iff.mp H
               obtain ⟨t215, A1150, H⟩ := H
               replace H : (if t215 < 0 then (some false) else ((laws_heldIntS.f kj88 t197 t215).bind fun t216 => (if t216 < 0 then (some false) else (if t216 = t196 then (some true) else (some false))))) = some r := H
               have A115 := Aside0.mk A1150
               clear A1150
               by_cases c116 : t215 < 0
               ·rw [if_pos c116] at H
                have c116b0 : decide (t215 < 0) = true := decide_eq_true c116
                clear c116
                obtain rfl := Option.some.inj H
                go_wp2_with (first | ((with_reducible refine gate_callee (f := 27) rfl ?_); refine goesL_ (some 122) rfl rfl Try.func27 (by kernel_rfl) rfl #[.slice Ao90 t195.length co90, .int .i64 1] rfl (by (try simp only [List.map_toArray, List.map_cons, List.map_nil]); first | done | rfl | (simp only [List.length_drop, List.length_take]; rfl)) ?_; (with_reducible refine (laws_heldIntS.calls kj88 _ _ t195 1 t215 _ ?side1 ?side2 A115.out).mono ?_); (case side1 => exact cz_ (Kd.R_reads' HO_8.out).2.2); (case side2 => exact (Kd.R_reads' HO_8.out).2.1); rintro e w' ⟨rfl, ⟨nd, rfl⟩⟩; refine ⟨_, rfl, ?_⟩))
                go_ret
                exact ⟨by first | rfl | (simp [errW_none, errW_some] <;> rfl) | (simp [*, errW_none, errW_some] <;> rfl), by repeat (first | (with_reducible first | exact HB.out | apply below_alloc | apply pw_below_drewN | apply below_drew1 | refine below_set ?_ GE151.out | refine below_set ?_ GE172.out) | exact HB.out)⟩
               ·rw [if_neg c116] at H
                have c116b0 : decide (t215 < 0) = false := decide_eq_false c116
                clear c116
                replace H := Option.bind_eq_some_iff.mp H
                obtain ⟨t216, A1170, H⟩ := H
                replace H : (if t216 < 0 then (some false) else (if t216 = t196 then (some true) else (some false))) = some r := H
                have A117 := Aside0.mk A1170
                clear A1170
                by_cases c118 : t216 < 0
                ·rw [if_pos c118] at H
                 have c118b0 : decide (t216 < 0) = true := decide_eq_true c118
                 clear c118
                 obtain rfl := Option.some.inj H
                 go_wp2_with (first | ((with_reducible refine gate_callee (f := 27) rfl ?_); refine goesL_ (some 122) rfl rfl Try.func27 (by kernel_rfl) rfl #[.slice Ao90 t195.length co90, .int .i64 1] rfl (by (try simp only [List.map_toArray, List.map_cons, List.map_nil]); first | done | rfl | (simp only [List.length_drop, List.length_take]; rfl)) ?_; (with_reducible refine (laws_heldIntS.calls kj88 _ _ t195 1 t215 _ ?side1 ?side2 A115.out).mono ?_); (case side1 => exact cz_ (Kd.R_reads' HO_8.out).2.2); (case side2 => exact (Kd.R_reads' HO_8.out).2.1); rintro e w' ⟨rfl, ⟨nd, rfl⟩⟩; refine ⟨_, rfl, ?_⟩) | ((with_reducible refine gate_callee (f := 27) rfl ?_); refine goesL_ (some 127) rfl rfl Try.func27 (by kernel_rfl) rfl #[.slice Ao92 t197.length co92, .int .i64 t215] rfl (by (try simp only [List.map_toArray, List.map_cons, List.map_nil]); first | done | rfl | (simp only [List.length_drop, List.length_take]; rfl)) ?_; (with_reducible refine (laws_heldIntS.calls kj88 _ _ t197 t215 t216 _ ?side1 ?side2 A117.out).mono ?_); (case side1 => exact cz_ (Kd.R_reads' HO_9.out).2.2); (case side2 => exact (Kd.R_reads' HO_9.out).2.1); rintro e w' ⟨rfl, ⟨nd, rfl⟩⟩; refine ⟨_, rfl, ?_⟩))
                 go_ret
                 exact ⟨by first | rfl | (simp [errW_none, errW_some] <;> rfl) | (simp [*, errW_none, errW_some] <;> rfl), by repeat (first | (with_reducible first | exact HB.out | apply below_alloc | apply pw_below_drewN | apply below_drew1 | refine below_set ?_ GE151.out | refine below_set ?_ GE172.out) | exact HB.out)⟩
                ·rw [if_neg c118] at H
                 have c118b0 : decide (t216 < 0) = false := decide_eq_false c118
                 clear c118
                 by_cases c119 : t216 = t196
                 ·rw [if_pos c119] at H
                  have c119b0 : (t216 == t196) = true := beq_iff_eq.mpr c119
                  have c119b1 : (t216 != t196) = false := bne_eq_false_iff_eq.mpr c119
                  clear c119
                  obtain rfl := Option.some.inj H
                  go_wp2_with (first | ((with_reducible refine gate_callee (f := 27) rfl ?_); refine goesL_ (some 122) rfl rfl Try.func27 (by kernel_rfl) rfl #[.slice Ao90 t195.length co90, .int .i64 1] rfl (by (try simp only [List.map_toArray, List.map_cons, List.map_nil]); first | done | rfl | (simp only [List.length_drop, List.length_take]; rfl)) ?_; (with_reducible refine (laws_heldIntS.calls kj88 _ _ t195 1 t215 _ ?side1 ?side2 A115.out).mono ?_); (case side1 => exact cz_ (Kd.R_reads' HO_8.out).2.2); (case side2 => exact (Kd.R_reads' HO_8.out).2.1); rintro e w' ⟨rfl, ⟨nd, rfl⟩⟩; refine ⟨_, rfl, ?_⟩) | ((with_reducible refine gate_callee (f := 27) rfl ?_); refine goesL_ (some 127) rfl rfl Try.func27 (by kernel_rfl) rfl #[.slice Ao92 t197.length co92, .int .i64 t215] rfl (by (try simp only [List.map_toArray, List.map_cons, List.map_nil]); first | done | rfl | (simp only [List.length_drop, List.length_take]; rfl)) ?_; (with_reducible refine (laws_heldIntS.calls kj88 _ _ t197 t215 t216 _ ?side1 ?side2 A117.out).mono ?_); (case side1 => exact cz_ (Kd.R_reads' HO_9.out).2.2); (case side2 => exact (Kd.R_reads' HO_9.out).2.1); rintro e w' ⟨rfl, ⟨nd, rfl⟩⟩; refine ⟨_, rfl, ?_⟩))
                  go_ret
                  exact ⟨by first | rfl | (simp [errW_none, errW_some] <;> rfl) | (simp [*, errW_none, errW_some] <;> rfl), by repeat (first | (with_reducible first | exact HB.out | apply below_alloc | apply pw_below_drewN | apply below_drew1 | refine below_set ?_ GE151.out | refine below_set ?_ GE172.out) | exact HB.out)⟩
                 ·rw [if_neg c119] at H
                  have c119b0 : (t216 == t196) = false := beq_eq_false_iff_ne.mpr c119
                  have c119b1 : (t216 != t196) = true := bne_iff_ne.mpr c119
                  obtain rfl := Option.some.inj H
                  go_wp2_with (first | ((with_reducible refine gate_callee (f := 27) rfl ?_); refine goesL_ (some 122) rfl rfl Try.func27 (by kernel_rfl) rfl #[.slice Ao90 t195.length co90, .int .i64 1] rfl (by (try simp only [List.map_toArray, List.map_cons, List.map_nil]); first | done | rfl | (simp only [List.length_drop, List.length_take]; rfl)) ?_; (with_reducible refine (laws_heldIntS.calls kj88 _ _ t195 1 t215 _ ?side1 ?side2 A115.out).mono ?_); (case side1 => exact cz_ (Kd.R_reads' HO_8.out).2.2); (case side2 => exact (Kd.R_reads' HO_8.out).2.1); rintro e w' ⟨rfl, ⟨nd, rfl⟩⟩; refine ⟨_, rfl, ?_⟩) | ((with_reducible refine gate_callee (f := 27) rfl ?_); refine goesL_ (some 127) rfl rfl Try.func27 (by kernel_rfl) rfl #[.slice Ao92 t197.length co92, .int .i64 t215] rfl (by (try simp only [List.map_toArray, List.map_cons, List.map_nil]); first | done | rfl | (simp only [List.length_drop, List.length_take]; rfl)) ?_; (with_reducible refine (laws_heldIntS.calls kj88 _ _ t197 t215 t216 _ ?side1 ?side2 A117.out).mono ?_); (case side1 => exact cz_ (Kd.R_reads' HO_9.out).2.2); (case side2 => exact (Kd.R_reads' HO_9.out).2.1); rintro e w' ⟨rfl, ⟨nd, rfl⟩⟩; refine ⟨_, rfl, ?_⟩))
                  go_ret
                  exact ⟨by first | rfl | (simp [errW_none, errW_some] <;> rfl) | (simp [*, errW_none, errW_some] <;> rfl), by repeat (first | (with_reducible first | exact HB.out | apply below_alloc | apply pw_below_drewN | apply below_drew1 | refine below_set ?_ GE151.out | refine below_set ?_ GE172.out) | exact HB.out)⟩
           ·rw [if_neg c86] at H
            have c86b0 : (t199 == t196) = false := beq_eq_false_iff_ne.mpr c86
            have c86b1 : (t199 != t196) = true := bne_iff_ne.mpr c86
            obtain rfl := Option.some.inj H
            obtain ⟨Ao120, co120, eo120⟩ := Kd.R_slice HO_8.out
            subst eo120
            go_wp2_with (first | ((with_reducible refine gate_callee (f := 26) rfl ?_); refine goesL_ (some 81) rfl rfl Try.func26 (by kernel_rfl) rfl #[.slice Ao120 t173.length co120, .int .i64 1] rfl (by (try simp only [List.map_toArray, List.map_cons, List.map_nil]); first | done | rfl | (simp only [List.length_drop, List.length_take]; rfl)) ?_; (with_reducible refine (laws_markIntS.calls kj46 (fun k_ => some k_ = (.slice Ao120 t173.length co120 : Value).ownBlock) (.slice Ao120 t173.length co120) t173 1 t194 t195 w _ ?side1 ?side2 A72.out).mono ?_); (case side1 => repeat (first | (with_reducible first | exact HB.out | apply below_alloc | apply pw_below_drewN | apply below_drew1 | refine below_set ?_ GE151.out | refine below_set ?_ GE172.out) | exact HB.out)); (case side2 => exact Kd.R_tight rfl HO_8.out); rintro e w121 ⟨rfl, hy0, hb, hkp⟩; refine ⟨_, rfl, ?_⟩; have n0_ := Aside0.mk (Kd.R_mono (ok' := fun k_ => some k_ ≠ (v163 : Value).ownBlock ∧ some k_ ≠ (.slice Ao120 t173.length co120 : Value).ownBlock ∧ some k_ ≠ (v177 : Value).ownBlock) (Kd.R_keptB (HO_4.out) hkp (fun k_ hk_ hs_ => (hk_.2.1) hs_)) (fun k_ hk_ => ⟨hk_.1.1, hk_.1.2.1, hk_.1.2.2⟩)); have n1_ := Aside0.mk (Kd.R_mono (ok' := fun k_ => some k_ ≠ (v160 : Value).ownBlock ∧ some k_ ≠ (.slice Ao120 t173.length co120 : Value).ownBlock ∧ some k_ ≠ (v177 : Value).ownBlock) (Kd.R_keptB (HO_5.out) hkp (fun k_ hk_ hs_ => (hk_.2.1) hs_)) (fun k_ hk_ => ⟨hk_.1.1, hk_.1.2.1, hk_.1.2.2⟩)); have n2_ := Aside0.mk (Kd.R_reok rfl hy0 (fun k_ e_ => HO_8.out.1 k_ e_)); have n3_ := Aside0.mk (Kd.R_mono (ok' := fun k_ => some k_ ≠ (v160 : Value).ownBlock ∧ some k_ ≠ (v163 : Value).ownBlock ∧ some k_ ≠ (.slice Ao120 t173.length co120 : Value).ownBlock) (Kd.R_keptB (HO_9.out) hkp (fun k_ hk_ hs_ => (hk_.2.2) hs_)) (fun k_ hk_ => ⟨hk_.1.1, hk_.1.2.1, hk_.1.2.2⟩)); have n4_ := Aside0.mk (Kd.R_mono (ok' := fun k_ => True) (Kd.R_keptB ((Kd.R_apart' HO_173000.out (Kd.R_typed HO_8.out) (by decide))) hkp (fun k_ hk_ hs_ => (hk_.2) hs_)) (fun k_ hk_ => trivial)); have n5_ := Aside0.mk (Kd.R_mono (ok' := fun k_ => True) (Kd.R_keptB ((Kd.R_apart' HO_173001.out (Kd.R_typed HO_8.out) (by decide))) hkp (fun k_ hk_ hs_ => (hk_.2) hs_)) (fun k_ hk_ => trivial)); have n6_ := Aside0.mk (blk_kept (bz_ BK151.out) hkp (fun hs_ => (fun e_ => (Kd.R_ne HO_8.out BK151.out (by decide)) e_) hs_)); have n7_ := Aside0.mk (blk_kept (bz_ BK172.out) hkp (fun hs_ => (fun e_ => (Kd.R_ne HO_8.out BK172.out (by decide)) e_) hs_)); have n8_ := Aside0.mk (hb); clear HO_4; clear HO_5; clear HO_8; clear HO_9; clear HO_173000; clear HO_173001; clear BK151; clear BK172; clear HB; have HO_4 := n0_; have HO_5 := n1_; have HO_8 := n2_; have HO_9 := n3_; have HO_173000 := n4_; have HO_173001 := n5_; have BK151 := n6_; have BK172 := n7_; have HB := n8_; clear n0_ n1_ n2_ n3_ n4_ n5_ n6_ n7_ n8_; (try clear hb); (try clear hkp); (try clear hy0); obtain ⟨Ao122, co122, eo122⟩ := Kd.R_slice HO_9.out; subst eo122) | ((with_reducible refine gate_callee (f := 26) rfl ?_); refine goesL_ (some 84) rfl rfl Try.func26 (by kernel_rfl) rfl #[.slice Ao122 t176.length co122, .int .i64 t194] rfl (by (try simp only [List.map_toArray, List.map_cons, List.map_nil]); first | done | rfl | (simp only [List.length_drop, List.length_take]; rfl)) ?_; (with_reducible refine (laws_markIntS.calls kj46 (fun k_ => some k_ = (.slice Ao122 t176.length co122 : Value).ownBlock) (.slice Ao122 t176.length co122) t176 t194 t196 t197 w _ ?side1 ?side2 A73.out).mono ?_); (case side1 => repeat (first | (with_reducible first | exact HB.out | apply below_alloc | apply pw_below_drewN | apply below_drew1 | refine below_set ?_ GE151.out | refine below_set ?_ GE172.out) | exact HB.out)); (case side2 => exact Kd.R_tight rfl HO_9.out); rintro e w123 ⟨rfl, hy0, hb, hkp⟩; refine ⟨_, rfl, ?_⟩; have n0_ := Aside0.mk (Kd.R_mono (ok' := fun k_ => some k_ ≠ (v163 : Value).ownBlock ∧ some k_ ≠ (.slice Ao120 t173.length co120 : Value).ownBlock ∧ some k_ ≠ (.slice Ao122 t176.length co122 : Value).ownBlock) (Kd.R_keptB (HO_4.out) hkp (fun k_ hk_ hs_ => (hk_.2.2) hs_)) (fun k_ hk_ => ⟨hk_.1.1, hk_.1.2.1, hk_.1.2.2⟩)); have n1_ := Aside0.mk (Kd.R_mono (ok' := fun k_ => some k_ ≠ (v160 : Value).ownBlock ∧ some k_ ≠ (.slice Ao120 t173.length co120 : Value).ownBlock ∧ some k_ ≠ (.slice Ao122 t176.length co122 : Value).ownBlock) (Kd.R_keptB (HO_5.out) hkp (fun k_ hk_ hs_ => (hk_.2.2) hs_)) (fun k_ hk_ => ⟨hk_.1.1, hk_.1.2.1, hk_.1.2.2⟩)); have n2_ := Aside0.mk (Kd.R_mono (ok' := fun k_ => some k_ ≠ (v160 : Value).ownBlock ∧ some k_ ≠ (v163 : Value).ownBlock ∧ some k_ ≠ (.slice Ao122 t176.length co122 : Value).ownBlock) (Kd.R_keptB (HO_8.out) hkp (fun k_ hk_ hs_ => (hk_.2.2) hs_)) (fun k_ hk_ => ⟨hk_.1.1, hk_.1.2.1, hk_.1.2.2⟩)); have n3_ := Aside0.mk (Kd.R_reok rfl hy0 (fun k_ e_ => HO_9.out.1 k_ e_)); have n4_ := Aside0.mk (Kd.R_mono (ok' := fun k_ => True) (Kd.R_keptB ((Kd.R_apart' HO_173000.out (Kd.R_typed HO_9.out) (by decide))) hkp (fun k_ hk_ hs_ => (hk_.2) hs_)) (fun k_ hk_ => trivial)); have n5_ := Aside0.mk (Kd.R_mono (ok' := fun k_ => True) (Kd.R_keptB ((Kd.R_apart' HO_173001.out (Kd.R_typed HO_9.out) (by decide))) hkp (fun k_ hk_ hs_ => (hk_.2) hs_)) (fun k_ hk_ => trivial)); have n6_ := Aside0.mk (blk_kept (bz_ BK151.out) hkp (fun hs_ => (fun e_ => (Kd.R_ne HO_9.out BK151.out (by decide)) e_) hs_)); have n7_ := Aside0.mk (blk_kept (bz_ BK172.out) hkp (fun hs_ => (fun e_ => (Kd.R_ne HO_9.out BK172.out (by decide)) e_) hs_)); have n8_ := Aside0.mk (hb); clear HO_4; clear HO_5; clear HO_8; clear HO_9; clear HO_173000; clear HO_173001; clear BK151; clear BK172; clear HB; have HO_4 := n0_; have HO_5 := n1_; have HO_8 := n2_; have HO_9 := n3_; have HO_173000 := n4_; have HO_173001 := n5_; have BK151 := n6_; have BK172 := n7_; have HB := n8_; clear n0_ n1_ n2_ n3_ n4_ n5_ n6_ n7_ n8_; (try clear hb); (try clear hkp); (try clear hy0)) | ((with_reducible refine gate_callee (f := 27) rfl ?_); refine goesL_ (some 87) rfl rfl Try.func27 (by kernel_rfl) rfl #[.slice Ao120 t195.length co120, .int .i64 1] rfl (by (try simp only [List.map_toArray, List.map_cons, List.map_nil]); first | done | (rw [show t195.length = t173.length from (Kd.R_reads' HO_8.out).1.symm] <;> rfl) | rfl | (simp only [List.length_drop, List.length_take]; rfl)) ?_; (with_reducible refine (laws_heldIntS.calls kj46 _ _ t195 1 t198 _ ?side1 ?side2 A74.out).mono ?_); (case side1 => exact cz_ (Kd.R_reads' HO_8.out).2.2); (case side2 => rw [show t195.length = t173.length from (Kd.R_reads' HO_8.out).1.symm]; exact (Kd.R_reads' HO_8.out).2.1); rintro e w' ⟨rfl, ⟨nd, rfl⟩⟩; refine ⟨_, rfl, ?_⟩) | ((with_reducible refine gate_callee (f := 27) rfl ?_); refine goesL_ (some 92) rfl rfl Try.func27 (by kernel_rfl) rfl #[.slice Ao122 t197.length co122, .int .i64 t198] rfl (by (try simp only [List.map_toArray, List.map_cons, List.map_nil]); first | done | (rw [show t197.length = t176.length from (Kd.R_reads' HO_9.out).1.symm] <;> rfl) | rfl | (simp only [List.length_drop, List.length_take]; rfl)) ?_; (with_reducible refine (laws_heldIntS.calls kj46 _ _ t197 t198 t199 _ ?side1 ?side2 A80.out).mono ?_); (case side1 => exact cz_ (Kd.R_reads' HO_9.out).2.2); (case side2 => rw [show t197.length = t176.length from (Kd.R_reads' HO_9.out).1.symm]; exact (Kd.R_reads' HO_9.out).2.1); rintro e w' ⟨rfl, ⟨nd, rfl⟩⟩; refine ⟨_, rfl, ?_⟩))
            go_ret
            exact ⟨by first | rfl | (simp [errW_none, errW_some] <;> rfl) | (simp [*, errW_none, errW_some] <;> rfl), by repeat (first | (with_reducible first | exact HB.out | apply below_alloc | apply pw_below_drewN | apply below_drew1 | refine below_set ?_ GE151.out | refine below_set ?_ GE172.out) | exact HB.out)⟩
     ·replace c45 := Bool.eq_false_iff.mpr c45
      subst c45
      have H1 : (some false) = some r := by rw [if_neg (show ¬ (false = true) by decide)] at H; exact H
      clear H
      have H := H1
      clear H1
      obtain rfl := Option.some.inj H
      try go_wp2
      have n0_ := Aside0.mk (Kd.R_drew HO_4.out)
      have n1_ := Aside0.mk (Kd.R_drew HO_5.out)
      have n2_ := Aside0.mk (Kd.R_drew HO_8.out)
      have n3_ := Aside0.mk (Kd.R_drew HO_9.out)
      have n4_ := Aside0.mk (Kd.R_drew HO_173000.out)
      have n5_ := Aside0.mk (Kd.R_drew HO_173001.out)
      have n6_ := Aside0.mk (blk_drew BK151.out)
      have n7_ := Aside0.mk (blk_drew BK172.out)
      have n8_ := Aside0.mk (below_drew1 HB.out)
      clear HO_4
      clear HO_5
      clear HO_8
      clear HO_9
      clear HO_173000
      clear HO_173001
      clear BK151
      clear BK172
      clear HB
      have HO_4 := n0_
      have HO_5 := n1_
      have HO_8 := n2_
      have HO_9 := n3_
      have HO_173000 := n4_
      have HO_173001 := n5_
      have BK151 := n6_
      have BK172 := n7_
      have HB := n8_
      clear n0_ n1_ n2_ n3_ n4_ n5_ n6_ n7_ n8_
      refine start_ (n := 5) (S := fun w' => w'.cell? ⟨gb172, 0, none⟩ = some (.slice Ao23 t166.length co23) ∧ w'.cell? ⟨gb172, 1, none⟩ = some (.slice Ao26 t169.length co26) ∧ w'.cell? ⟨gb151, 0, none⟩ = some (.slice A0_0 l0_0.length c0_0) ∧ w'.cell? ⟨gb151, 1, none⟩ = some (.slice A0_1 l0_1.length c0_1)) (ds := []) #[false, false, false, false, false] (by kernel_rfl) rfl rfl ⟨(blk_cell BK172.out 0).trans rfl, (blk_cell BK172.out 1).trans rfl, (blk_cell BK151.out 0).trans rfl, (blk_cell BK151.out 1).trans rfl⟩ (fun hHeld => ?_)
      generalize wc.drew = w124 at HO_4 HO_5 HO_8 HO_9 HO_173000 HO_173001 BK151 BK172 HB hHeld ⊢
      refine take_ (i := 0) (N := some 52) (v := ?_) (a' := ?_) #[true, false, false, false, false] rfl rfl (by kernel_rfl) (fun _ _ _ h => h) (Or.inl ⟨by rfl, ?_⟩) hHeld ?_ ?_
      rotate_left
      ·rintro w' ⟨s0, s1, s2, s3⟩
       go_simp
       with_reducible rfl
      rotate_left
      ·simp only [Act.put, List.setIfInBounds_toArray, List.set_cons_zero, List.set_cons_succ, i64_w, i32_w]
       rfl
      refine take_ (i := 1) (N := some 53) (v := ?_) (a' := ?_) #[true, true, false, false, false] rfl rfl (by kernel_rfl) (fun _ _ _ h => h) (Or.inl ⟨by rfl, ?_⟩) hHeld ?_ ?_
      rotate_left
      ·rintro w' ⟨s0, s1, s2, s3⟩
       go_simp
       with_reducible rfl
      rotate_left
      ·simp only [Act.put, List.setIfInBounds_toArray, List.set_cons_zero, List.set_cons_succ, i64_w, i32_w]
       rfl
      refine one_ (i := 2) (N := some 54) (bl 3 5) rfl rfl (by kernel_rfl) (by decide) (fun K hK => ?_)
      refine goes_ Try.func17 (by kernel_rfl) rfl #[.agg #[.slice A0_0 l0_0.length c0_0, .slice A0_1 l0_1.length c0_1]] (by rfl) rfl rfl (by (try simp only [List.map_toArray, List.map_cons, List.map_nil]); first | done | rfl | (simp only [List.length_drop, List.length_take]; rfl)) ?_
      with_reducible refine (laws_toRecord.calls kj10 _ _ l0_0 _ _ l0_1 t182 t185 _ ?side1 ?side2 ?side3 ?side4 A43.out).mono ?_
      (case side1 => exact cz_ (Kd.C_below HR0_0.out HB.out))
      (case side2 => exact HC0_0.out)
      (case side3 => exact cz_ (Kd.C_below HR0_1.out HB.out))
      (case side4 => exact HC0_1.out)
      rintro e w125 ⟨v183, v186, rfl, ho0, ho1, hb⟩
      refine ⟨_, rfl, ?_⟩
      have n0_ := Aside0.mk (Kd.R_below (rz_ HO_4.out) hb)
      have n1_ := Aside0.mk (Kd.R_below (rz_ HO_5.out) hb)
      have n2_ := Aside0.mk (Kd.R_below (rz_ HO_8.out) hb)
      have n3_ := Aside0.mk (Kd.R_below (rz_ HO_9.out) hb)
      have n4_ := Aside0.mk (Kd.R_elder' (rz_ HO_173000.out) (Kd.R_base ho0) hb)
      have n5_ := Aside0.mk (Kd.R_elder' (rz_ HO_173001.out) (Kd.R_base ho1) hb)
      have n6_ := Aside0.mk (Kd.R_lower (Kd.R_new' ho0 (Kd.R_lt (rz_ HO_173000.out))) (below_size (by repeat (first | (with_reducible first | exact HB.out | apply below_alloc | apply pw_below_drewN | apply below_drew1 | refine below_set ?_ GE151.out | refine below_set ?_ GE172.out) | exact HB.out))))
      have n7_ := Aside0.mk (Kd.R_lower (Kd.R_new' ho1 (Kd.R_lt (rz_ HO_173001.out))) (below_size (by repeat (first | (with_reducible first | exact HB.out | apply below_alloc | apply pw_below_drewN | apply below_drew1 | refine below_set ?_ GE151.out | refine below_set ?_ GE172.out) | exact HB.out))))
      have n8_ := Aside0.mk (blk_below (bz_ BK151.out) hb)
      have n9_ := Aside0.mk (blk_below (bz_ BK172.out) hb)
      have n10_ := Aside0.mk (below_step (by repeat (first | (with_reducible first | exact HB.out | apply below_alloc | apply pw_below_drewN | apply below_drew1 | refine below_set ?_ GE151.out | refine below_set ?_ GE172.out) | exact HB.out)) hb)
      clear HO_4
      clear HO_5
      clear HO_8
      clear HO_9
      clear HO_173000
      clear HO_173001
      clear BK151
      clear BK172
      clear HB
      have HO_4 := n0_
      have HO_5 := n1_
      have HO_8 := n2_
      have HO_9 := n3_
      have HO_173000 := n4_
      have HO_173001 := n5_
      have HO184 := n6_
      have HO187 := n7_
      have BK151 := n8_
      have BK172 := n9_
      have HB := n10_
      clear n0_ n1_ n2_ n3_ n4_ n5_ n6_ n7_ n8_ n9_ n10_
      (try clear hb)
      (try clear hb2)
      (try clear hk)
      (try clear hi)
      (try clear ho0)
      (try clear ho1)
      obtain ⟨Ao126, co126, eo126⟩ := Kd.R_slice HO184.out
      (first | subst eo126 | (injection eo126 with f1_ f2_ f3_; have f4_ := f1_.symm; have f5_ := f3_.symm; clear f1_ f2_ f3_; subst f4_; subst f5_))
      obtain ⟨Ao127, co127, eo127⟩ := Kd.R_slice HO187.out
      (first | subst eo127 | (injection eo127 with f1_ f2_ f3_; have f4_ := f1_.symm; have f5_ := f3_.symm; clear f1_ f2_ f3_; subst f4_; subst f5_))
      refine hK.out _ _ ⟨(blk_cell BK172.out 0).trans rfl, (blk_cell BK172.out 1).trans rfl, (blk_cell BK151.out 0).trans rfl, (blk_cell BK151.out 1).trans rfl⟩ (fun hHeld => ?_)
      clear hK K
      refine norm_ (a' := ?_) ?_ ?_
      rotate_left
      ·show Act.put _ (some 54) _ = _
       simp only [Act.put, List.setIfInBounds_toArray, List.set_cons_zero, List.set_cons_succ, i64_w, i32_w]
       rfl
      refine one_ (i := 3) (N := some 55) (bl 4 5) rfl rfl (by kernel_rfl) (by decide) (fun K hK => ?_)
      refine goes_ Try.func19 (by kernel_rfl) rfl #[.agg #[.slice Ao23 t166.length co23, .slice Ao26 t169.length co26], .agg #[.slice Ao126 t182.length co126, .slice Ao127 t185.length co127]] (by rfl) rfl rfl (by (try simp only [List.map_toArray, List.map_cons, List.map_nil]); first | done | rfl | (simp only [List.length_drop, List.length_take]; rfl)) ?_
      with_reducible refine (laws_eqRecord.calls kj10 _ _ t166 _ _ t169 _ _ t182 _ _ t185 false _ ?side1 ?side2 ?side3 ?side4 ?side5 ?side6 ?side7 ?side8 A44.out).mono ?_
      (case side1 => exact cz_ (Kd.R_reads' HO_173000.out).2.2)
      (case side2 => exact (Kd.R_reads' HO_173000.out).2.1)
      (case side3 => exact cz_ (Kd.R_reads' HO_173001.out).2.2)
      (case side4 => exact (Kd.R_reads' HO_173001.out).2.1)
      (case side5 => exact cz_ (Kd.R_reads' HO184.out).2.2)
      (case side6 => exact (Kd.R_reads' HO184.out).2.1)
      (case side7 => exact cz_ (Kd.R_reads' HO187.out).2.2)
      (case side8 => exact (Kd.R_reads' HO187.out).2.1)
      rintro e w128 ⟨rfl, hb⟩
      refine ⟨_, rfl, ?_⟩
      have n0_ := Aside0.mk (Kd.R_below (rz_ HO_4.out) hb)
      have n1_ := Aside0.mk (Kd.R_below (rz_ HO_5.out) hb)
      have n2_ := Aside0.mk (Kd.R_below (rz_ HO_8.out) hb)
      have n3_ := Aside0.mk (Kd.R_below (rz_ HO_9.out) hb)
      have n4_ := Aside0.mk (Kd.R_below (rz_ HO_173000.out) hb)
      have n5_ := Aside0.mk (Kd.R_below (rz_ HO_173001.out) hb)
      have n6_ := Aside0.mk (Kd.R_below (rz_ HO184.out) hb)
      have n7_ := Aside0.mk (Kd.R_below (rz_ HO187.out) hb)
      have n8_ := Aside0.mk (blk_below (bz_ BK151.out) hb)
      have n9_ := Aside0.mk (blk_below (bz_ BK172.out) hb)
      have n10_ := Aside0.mk (below_step (by repeat (first | (with_reducible first | exact HB.out | apply below_alloc | apply pw_below_drewN | apply below_drew1 | refine below_set ?_ GE151.out | refine below_set ?_ GE172.out) | exact HB.out)) hb)
      clear HO_4
      clear HO_5
      clear HO_8
      clear HO_9
      clear HO_173000
      clear HO_173001
      clear HO184
      clear HO187
      clear BK151
      clear BK172
      clear HB
      have HO_4 := n0_
      have HO_5 := n1_
      have HO_8 := n2_
      have HO_9 := n3_
      have HO_173000 := n4_
      have HO_173001 := n5_
      have HO184 := n6_
      have HO187 := n7_
      have BK151 := n8_
      have BK172 := n9_
      have HB := n10_
      clear n0_ n1_ n2_ n3_ n4_ n5_ n6_ n7_ n8_ n9_ n10_
      (try clear hb)
      (try clear hb2)
      (try clear hk)
      (try clear hi)
      refine hK.out _ _ ⟨(blk_cell BK172.out 0).trans rfl, (blk_cell BK172.out 1).trans rfl, (blk_cell BK151.out 0).trans rfl, (blk_cell BK151.out 1).trans rfl⟩ (fun hHeld => ?_)
      clear hK K
      refine norm_ (a' := ?_) ?_ ?_
      rotate_left
      ·show Act.put _ (some 55) _ = _
       simp only [Act.put, List.setIfInBounds_toArray, List.set_cons_zero, List.set_cons_succ, i64_w, i32_w]
       rfl
      refine pure_ (i := 4) (N := some 56) (v := ?_) (a' := ?_) #[true, true, true, true, true] rfl rfl (by kernel_rfl) (fun _ _ _ h => h) (Or.inl ⟨by rfl, ?_⟩) ?_ ?_
      rotate_left
      ·intro w'
       go_simp
       with_reducible rfl
      rotate_left
      ·simp only [Act.put, List.setIfInBounds_toArray, List.set_cons_zero, List.set_cons_succ, i64_w, i32_w]
       rfl
      refine done_ (by kernel_rfl) ?_
      try go_wp2
      go_ret
      exact ⟨by first | rfl | (simp [errW_none, errW_some] <;> rfl) | (simp [*, errW_none, errW_some] <;> rfl), by repeat (first | (with_reducible first | exact HB.out | apply below_alloc | apply pw_below_drewN | apply below_drew1 | refine below_set ?_ GE151.out | refine below_set ?_ GE172.out) | exact HB.out)⟩

end Go.Proofs.Ytdpehkfjhfjobaa.Q

-- Written by a program of this session (wip/xprint.py over the kit's printer).
import Derived.Test.YtdiejmhphhdcfaaQ0
import Derived.Test.YtdiejmhphhdcfaaQB0
import Derived.Test.YtdiejmhphhdcfaaQB1
import Derived.Test.YtdiejmhphhdcfaaQF19
import Derived.Test.YtdiejmhphhdcfaaQF22
import Derived.Test.YtdiejmhphhdcfaaQF23
import Derived.Test.YtdiejmhphhdcfaaQF32
import Derived.Test.YtdiejmhphhdcfaaQF33
import Derived.Test.YtdiejmhphhdcfaaQM0
namespace Go.Proofs.Ytdiejmhphhdcfaa.Q
open Go.RowKit Go.Proofs.YtdiejmhphhdcfaaW.PrintWords Go.Proofs.YtdiejmhphhdcfaaW.PrintLast
set_option linter.unusedVariables false
set_option linter.unusedSimpArgs false

/-! ### laws_FnExactShortestCycle: function 6 -/
mutual
def laws_FnExactShortestCycle.j0 : Nat → List Int → Bool → Bool → List Int → Bool → Bool → Bool → List (S127) → List (S129) → List (S86) → List (S95) → Option (Bool)
 | 0, _, _, _, _, _, _, _, _, _, _, _ => none
 | k + 1, x4, x5, x6, x8, x9, x10, x50, x152000, x152001, x171000, x171001 => if x50 = true then (some false) else ((laws_toRecord.f k x152000 x152001).bind fun bt177 => ((laws_eqRecord.f k x171000 x171001 bt177.1 bt177.2).bind fun t183 => (if t183 = true then ((laws_markRecord.f k x171000 x171001 1).bind fun bt184 => (if bt184.1 < 0 then (laws_FnExactShortestCycle.j1 k x4 x5 x6 x8 true x152000 x152001) else ((laws_eqIntS.f k x8 x4).bind fun t187 => (if t187 = true then (if (x9 != x5) = true then (laws_FnExactShortestCycle.j1 k x4 x5 x6 x8 true x152000 x152001) else (laws_FnExactShortestCycle.j1 k x4 x5 x6 x8 (x10 != x6) x152000 x152001)) else (laws_FnExactShortestCycle.j1 k x4 x5 x6 x8 true x152000 x152001))))) else (some false))))
def laws_FnExactShortestCycle.j1 : Nat → List Int → Bool → Bool → List Int → Bool → List (S127) → List (S129) → Option (Bool)
 | 0, _, _, _, _, _, _, _ => none
 | k + 1, x4, x5, x6, x8, x76, x152000, x152001 => if x76 = true then (some false) else ((laws_markIntS.f k x8 1).bind fun bt188 => ((laws_heldIntS.f k bt188.2 1).bind fun t190 => (if t190 < 0 then (some false) else (if t190 = bt188.1 then ((laws_toRecord.f k x152000 x152001).bind fun bt191 => ((impl_ShortestCycle.f bt191.1 bt191.2).bind fun bt197 => ((laws_eqIntS.f k bt197.1 x4).bind fun t202 => (if t202 = true then (if (bt197.2.1 != x5) = true then (laws_FnExactShortestCycle.j2 k bt188.2 bt188.1 true) else (laws_FnExactShortestCycle.j2 k bt188.2 bt188.1 (bt197.2.2 != x6))) else (laws_FnExactShortestCycle.j2 k bt188.2 bt188.1 true))))) else (some false)))))
def laws_FnExactShortestCycle.j2 : Nat → List Int → Int → Bool → Option (Bool)
 | 0, _, _, _ => none
 | k + 1, x8, x12, x108 => if x108 = true then (some false) else ((laws_heldIntS.f k x8 1).bind fun t203 => (if t203 < 0 then (some false) else (if t203 = x12 then (some true) else (some false))))
end
def laws_FnExactShortestCycle.f (k : Nat) (l0_0 : List (S127)) (l0_1 : List (S129)) : Option (Bool) := (laws_szRecord.f l0_0 l0_1 1048576).bind fun t152 => (if t152 < 0 then (some true) else ((laws_toRecord.f k l0_0 l0_1).bind fun bt153 => ((spec_ShortestCycle.f bt153.1 bt153.2).bind fun bt159 => ((laws_toRecord.f k l0_0 l0_1).bind fun bt164 => ((impl_ShortestCycle.f bt164.1 bt164.2).bind fun bt171 => ((laws_eqIntS.f k bt171.1 bt159.1).bind fun t176 => (if t176 = true then (if (bt171.2.1 != bt159.2.1) = true then (laws_FnExactShortestCycle.j0 k bt159.1 bt159.2.1 bt159.2.2 bt171.1 bt171.2.1 bt171.2.2 true l0_0 l0_1 bt164.1 bt164.2) else (laws_FnExactShortestCycle.j0 k bt159.1 bt159.2.1 bt159.2.2 bt171.1 bt171.2.1 bt171.2.2 (bt171.2.2 != bt159.2.2) l0_0 l0_1 bt164.1 bt164.2)) else (laws_FnExactShortestCycle.j0 k bt159.1 bt159.2.1 bt159.2.2 bt171.1 bt171.2.1 bt171.2.2 true l0_0 l0_1 bt164.1 bt164.2))))))))
theorem laws_FnExactShortestCycle.mono_l : ∀ k, (∀ y0 y1 y2 y3 y4 y5 y6 y7 y8 y9 y10, LeO (laws_FnExactShortestCycle.j0 k y0 y1 y2 y3 y4 y5 y6 y7 y8 y9 y10) (laws_FnExactShortestCycle.j0 (k + 1) y0 y1 y2 y3 y4 y5 y6 y7 y8 y9 y10)) ∧ (∀ y0 y1 y2 y3 y4 y5 y6, LeO (laws_FnExactShortestCycle.j1 k y0 y1 y2 y3 y4 y5 y6) (laws_FnExactShortestCycle.j1 (k + 1) y0 y1 y2 y3 y4 y5 y6)) ∧ (∀ y0 y1 y2, LeO (laws_FnExactShortestCycle.j2 k y0 y1 y2) (laws_FnExactShortestCycle.j2 (k + 1) y0 y1 y2))
 | 0 => ⟨fun _ _ _ _ _ _ _ _ _ _ _ r h => by simp [laws_FnExactShortestCycle.j0] at h, fun _ _ _ _ _ _ _ r h => by simp [laws_FnExactShortestCycle.j1] at h, fun _ _ _ r h => by simp [laws_FnExactShortestCycle.j2] at h⟩
 | k + 1 => by
  obtain ⟨ih0, ih1, ih2⟩ := laws_FnExactShortestCycle.mono_l k
  refine ⟨?_, ?_, ?_⟩
  ·intro y0 y1 y2 y3 y4 y5 y6 y7 y8 y9 y10
   unfold laws_FnExactShortestCycle.j0
   repeat' first
   | (with_reducible exact ih0 _ _ _ _ _ _ _ _ _ _ _)
   | (with_reducible exact ih1 _ _ _ _ _ _ _)
   | (with_reducible exact ih2 _ _ _)
   | (with_reducible exact laws_eqIntS.mono _ _ _)
   | (with_reducible exact laws_eqRecord.mono _ _ _ _ _)
   | (with_reducible exact laws_heldIntS.mono _ _ _)
   | (with_reducible exact laws_markIntS.mono _ _ _)
   | (with_reducible exact laws_markRecord.mono _ _ _ _)
   | (with_reducible exact laws_toRecord.mono _ _ _)
   | (with_reducible exact LeO.refl _)
   | (with_reducible exact LeO.none _)
   | (with_reducible refine LeO.ite ?_ ?_)
   | (with_reducible refine LeO.bind ?_ (fun _ => ?_))
   | exact ih0 _ _ _ _ _ _ _ _ _ _ _
   | exact ih1 _ _ _ _ _ _ _
   | exact ih2 _ _ _
   | exact laws_eqIntS.mono _ _ _
   | exact laws_eqRecord.mono _ _ _ _ _
   | exact laws_heldIntS.mono _ _ _
   | exact laws_markIntS.mono _ _ _
   | exact laws_markRecord.mono _ _ _ _
   | exact laws_toRecord.mono _ _ _
   | exact LeO.none _
   | refine LeO.ite ?_ ?_
   | refine LeO.bind ?_ (fun _ => ?_)
  ·intro y0 y1 y2 y3 y4 y5 y6
   unfold laws_FnExactShortestCycle.j1
   repeat' first
   | (with_reducible exact ih0 _ _ _ _ _ _ _ _ _ _ _)
   | (with_reducible exact ih1 _ _ _ _ _ _ _)
   | (with_reducible exact ih2 _ _ _)
   | (with_reducible exact laws_eqIntS.mono _ _ _)
   | (with_reducible exact laws_eqRecord.mono _ _ _ _ _)
   | (with_reducible exact laws_heldIntS.mono _ _ _)
   | (with_reducible exact laws_markIntS.mono _ _ _)
   | (with_reducible exact laws_markRecord.mono _ _ _ _)
   | (with_reducible exact laws_toRecord.mono _ _ _)
   | (with_reducible exact LeO.refl _)
   | (with_reducible exact LeO.none _)
   | (with_reducible refine LeO.ite ?_ ?_)
   | (with_reducible refine LeO.bind ?_ (fun _ => ?_))
   | exact ih0 _ _ _ _ _ _ _ _ _ _ _
   | exact ih1 _ _ _ _ _ _ _
   | exact ih2 _ _ _
   | exact laws_eqIntS.mono _ _ _
   | exact laws_eqRecord.mono _ _ _ _ _
   | exact laws_heldIntS.mono _ _ _
   | exact laws_markIntS.mono _ _ _
   | exact laws_markRecord.mono _ _ _ _
   | exact laws_toRecord.mono _ _ _
   | exact LeO.none _
   | refine LeO.ite ?_ ?_
   | refine LeO.bind ?_ (fun _ => ?_)
  ·intro y0 y1 y2
   unfold laws_FnExactShortestCycle.j2
   repeat' first
   | (with_reducible exact ih0 _ _ _ _ _ _ _ _ _ _ _)
   | (with_reducible exact ih1 _ _ _ _ _ _ _)
   | (with_reducible exact ih2 _ _ _)
   | (with_reducible exact laws_eqIntS.mono _ _ _)
   | (with_reducible exact laws_eqRecord.mono _ _ _ _ _)
   | (with_reducible exact laws_heldIntS.mono _ _ _)
   | (with_reducible exact laws_markIntS.mono _ _ _)
   | (with_reducible exact laws_markRecord.mono _ _ _ _)
   | (with_reducible exact laws_toRecord.mono _ _ _)
   | (with_reducible exact LeO.refl _)
   | (with_reducible exact LeO.none _)
   | (with_reducible refine LeO.ite ?_ ?_)
   | (with_reducible refine LeO.bind ?_ (fun _ => ?_))
   | exact ih0 _ _ _ _ _ _ _ _ _ _ _
   | exact ih1 _ _ _ _ _ _ _
   | exact ih2 _ _ _
   | exact laws_eqIntS.mono _ _ _
   | exact laws_eqRecord.mono _ _ _ _ _
   | exact laws_heldIntS.mono _ _ _
   | exact laws_markIntS.mono _ _ _
   | exact laws_markRecord.mono _ _ _ _
   | exact laws_toRecord.mono _ _ _
   | exact LeO.none _
   | refine LeO.ite ?_ ?_
   | refine LeO.bind ?_ (fun _ => ?_)
theorem laws_FnExactShortestCycle.mono : ∀ a0 a1 k, LeO (laws_FnExactShortestCycle.f k a0 a1) (laws_FnExactShortestCycle.f (k + 1) a0 a1) := by
 intro a0 a1 k
 obtain ⟨ih0, ih1, ih2⟩ := laws_FnExactShortestCycle.mono_l k
 unfold laws_FnExactShortestCycle.f
 repeat' first
   | (with_reducible exact ih0 _ _ _ _ _ _ _ _ _ _ _)
   | (with_reducible exact ih1 _ _ _ _ _ _ _)
   | (with_reducible exact ih2 _ _ _)
   | (with_reducible exact laws_eqIntS.mono _ _ _)
   | (with_reducible exact laws_eqRecord.mono _ _ _ _ _)
   | (with_reducible exact laws_heldIntS.mono _ _ _)
   | (with_reducible exact laws_markIntS.mono _ _ _)
   | (with_reducible exact laws_markRecord.mono _ _ _ _)
   | (with_reducible exact laws_toRecord.mono _ _ _)
   | (with_reducible exact LeO.refl _)
   | (with_reducible exact LeO.none _)
   | (with_reducible refine LeO.ite ?_ ?_)
   | (with_reducible refine LeO.bind ?_ (fun _ => ?_))
   | exact ih0 _ _ _ _ _ _ _ _ _ _ _
   | exact ih1 _ _ _ _ _ _ _
   | exact ih2 _ _ _
   | exact laws_eqIntS.mono _ _ _
   | exact laws_eqRecord.mono _ _ _ _ _
   | exact laws_heldIntS.mono _ _ _
   | exact laws_markIntS.mono _ _ _
   | exact laws_markRecord.mono _ _ _ _
   | exact laws_toRecord.mono _ _ _
   | exact LeO.none _
   | refine LeO.ite ?_ ?_
   | refine LeO.bind ?_ (fun _ => ?_)
set_option maxHeartbeats 8000000 in
set_option maxRecDepth 100000 in
theorem laws_FnExactShortestCycle.calls (k : Nat) (A0_0 : Option Addr) (c0_0 : Nat) (l0_0 : List (S127)) (A0_1 : Option Addr) (c0_1 : Nat) (l0_1 : List (S129)) (r : Bool) (w : World) (hr0_0 : Kd.C k127 w A0_0 l0_0.length l0_0) (hc0_0 : l0_0.length ≤ c0_0) (hr0_1 : Kd.C k129 w A0_1 l0_1.length l0_1) (hc0_1 : l0_1.length ≤ c0_1) (h : laws_FnExactShortestCycle.f k l0_0 l0_1 = some r) :
  Calls Try.prog 6 #[.agg #[.slice A0_0 l0_0.length c0_0, .slice A0_1 l0_1.length c0_1]] w fun e w' => e = .returned (.bool r) ∧ Below w.heap.size w w' := by
 have hu25 := Try.underlying25
 have hu33 := Try.underlying33
 have HR0_0 := Aside0.mk hr0_0
 have HC0_0 := Aside0.mk hc0_0
 clear hr0_0 hc0_0
 have HR0_1 := Aside0.mk hr0_1
 have HC0_1 := Aside0.mk hc0_1
 clear hr0_1 hc0_1
 have HB := Aside0.mk (Below.refl w.heap.size w)
 have H : ((laws_szRecord.f l0_0 l0_1 1048576).bind fun t152 => (if t152 < 0 then (some true) else ((laws_toRecord.f k l0_0 l0_1).bind fun bt153 => ((spec_ShortestCycle.f bt153.1 bt153.2).bind fun bt159 => ((laws_toRecord.f k l0_0 l0_1).bind fun bt164 => ((impl_ShortestCycle.f bt164.1 bt164.2).bind fun bt171 => ((laws_eqIntS.f k bt171.1 bt159.1).bind fun t176 => (if t176 = true then (if (bt171.2.1 != bt159.2.1) = true then (laws_FnExactShortestCycle.j0 k bt159.1 bt159.2.1 bt159.2.2 bt171.1 bt171.2.1 bt171.2.2 true l0_0 l0_1 bt164.1 bt164.2) else (laws_FnExactShortestCycle.j0 k bt159.1 bt159.2.1 bt159.2.2 bt171.1 bt171.2.1 bt171.2.2 (bt171.2.2 != bt159.2.2) l0_0 l0_1 bt164.1 bt164.2)) else (laws_FnExactShortestCycle.j0 k bt159.1 bt159.2.1 bt159.2.2 bt171.1 bt171.2.1 bt171.2.2 true l0_0 l0_1 bt164.1 bt164.2))))))))) = some r := h
 clear h
 replace H := Option.bind_eq_some_iff.mp H
 obtain ⟨t152, A20, H⟩ := H
 replace H : (if t152 < 0 then (some true) else ((laws_toRecord.f k l0_0 l0_1).bind fun bt153 => ((spec_ShortestCycle.f bt153.1 bt153.2).bind fun bt159 => ((laws_toRecord.f k l0_0 l0_1).bind fun bt164 => ((impl_ShortestCycle.f bt164.1 bt164.2).bind fun bt171 => ((laws_eqIntS.f k bt171.1 bt159.1).bind fun t176 => (if t176 = true then (if (bt171.2.1 != bt159.2.1) = true then (laws_FnExactShortestCycle.j0 k bt159.1 bt159.2.1 bt159.2.2 bt171.1 bt171.2.1 bt171.2.2 true l0_0 l0_1 bt164.1 bt164.2) else (laws_FnExactShortestCycle.j0 k bt159.1 bt159.2.1 bt159.2.2 bt171.1 bt171.2.1 bt171.2.2 (bt171.2.2 != bt159.2.2) l0_0 l0_1 bt164.1 bt164.2)) else (laws_FnExactShortestCycle.j0 k bt159.1 bt159.2.1 bt159.2.2 bt171.1 bt171.2.1 bt171.2.2 true l0_0 l0_1 bt164.1 bt164.2)))))))) = some r := H
 have A2 := Aside0.mk A20
 clear A20
 by_cases c3 : t152 < 0
 ·rw [if_pos c3] at H
  have c3b0 : decide (t152 < 0) = true := decide_eq_true c3
  clear c3
  obtain rfl := Option.some.inj H
  go_enter Try.func6, Try.ntmps6
  go_wp2_with (first | ((with_reducible refine gate_dst (N := 1) rfl ?_); refine box_event ?hg (N := 1) ?hd (cs := #[.slice A0_0 l0_0.length c0_0, .slice A0_1 l0_1.length c0_1]) (t := 25) ?hr ?_; (case hd => rfl); (case hg => rfl); (case hr => first | (go_simp; done) | (go_simp; rfl)); intro gb151 hg w4 hbox hb; have n0_ := Aside0.mk (below_step (wz_ HB.out) hb); have n1_ := Aside0.mk (hbox); have n2_ := Aside0.mk ((by rw [hg]; exact (below_size (wz_ HB.out)) : w.heap.size ≤ gb151)); have n3_ := Aside0.mk ((by rw [hg]; exact (below_size (wz_ HB.out)) : w.heap.size ≤ gb151)); clear HB; have HB := n0_; have BK151 := n1_; have GW151 := n2_; have GE151 := n3_; clear n0_ n1_ n2_ n3_; clear hb hbox hg; have hcz5_0 : w4.cell? ⟨gb151, 0, none⟩ = some (.slice A0_0 l0_0.length c0_0) := (blk_cell BK151.out 0).trans rfl; have hcz5_1 : w4.cell? ⟨gb151, 1, none⟩ = some (.slice A0_1 l0_1.length c0_1) := (blk_cell BK151.out 1).trans rfl; have hfz5_0 := blk_frozen BK151.out 0; have hfz5_1 := blk_frozen BK151.out 1) | ((with_reducible refine gate_callee (f := 15) rfl ?_); refine goesL_ (some 19) rfl rfl Try.func15 (by kernel_rfl) rfl #[.agg #[.slice A0_0 l0_0.length c0_0, .slice A0_1 l0_1.length c0_1], .int .i64 1048576] rfl (by (try simp only [List.map_toArray, List.map_cons, List.map_nil]); first | done | rfl | (simp only [List.length_drop, List.length_take]; rfl)) ?_; (with_reducible refine (laws_szRecord.calls _ _ l0_0 _ _ l0_1 1048576 t152 _ ?side1 ?side2 ?side3 ?side4 A2.out).mono ?_); (case side1 => exact cz_ (Kd.C_below HR0_0.out HB.out)); (case side2 => exact HC0_0.out); (case side3 => exact cz_ (Kd.C_below HR0_1.out HB.out)); (case side4 => exact HC0_1.out); rintro e w6 ⟨rfl, hb⟩; refine ⟨_, rfl, ?_⟩; have n0_ := Aside0.mk (blk_below (bz_ BK151.out) hb); have n1_ := Aside0.mk (below_step (by repeat (first | (with_reducible first | exact HB.out | apply below_alloc | apply pw_below_drewN | apply below_drew1 | refine below_set ?_ GE151.out) | exact HB.out)) hb); clear BK151; clear HB; have BK151 := n0_; have HB := n1_; clear n0_ n1_; (try clear hb); (try clear hb2); (try clear hk); (try clear hi)))
  go_ret
  exact ⟨by first | rfl | (simp [errW_none, errW_some] <;> rfl) | (simp [*, errW_none, errW_some] <;> rfl), by repeat (first | (with_reducible first | exact HB.out | apply below_alloc | apply pw_below_drewN | apply below_drew1 | refine below_set ?_ GE151.out) | exact HB.out)⟩
 ·rw [if_neg c3] at H
  have c3b0 : decide (t152 < 0) = false := decide_eq_false c3
  clear c3
  replace H := Option.bind_eq_some_iff.mp H
  obtain ⟨⟨t153, t156⟩, A70, H⟩ := H
  replace H : ((spec_ShortestCycle.f t153 t156).bind fun bt159 => ((laws_toRecord.f k l0_0 l0_1).bind fun bt164 => ((impl_ShortestCycle.f bt164.1 bt164.2).bind fun bt171 => ((laws_eqIntS.f k bt171.1 bt159.1).bind fun t176 => (if t176 = true then (if (bt171.2.1 != bt159.2.1) = true then (laws_FnExactShortestCycle.j0 k bt159.1 bt159.2.1 bt159.2.2 bt171.1 bt171.2.1 bt171.2.2 true l0_0 l0_1 bt164.1 bt164.2) else (laws_FnExactShortestCycle.j0 k bt159.1 bt159.2.1 bt159.2.2 bt171.1 bt171.2.1 bt171.2.2 (bt171.2.2 != bt159.2.2) l0_0 l0_1 bt164.1 bt164.2)) else (laws_FnExactShortestCycle.j0 k bt159.1 bt159.2.1 bt159.2.2 bt171.1 bt171.2.1 bt171.2.2 true l0_0 l0_1 bt164.1 bt164.2)))))) = some r := H
  have A7 := Aside0.mk A70
  clear A70
  replace H := Option.bind_eq_some_iff.mp H
  obtain ⟨⟨t159, t162, t163⟩, A80, H⟩ := H
  replace H : ((laws_toRecord.f k l0_0 l0_1).bind fun bt164 => ((impl_ShortestCycle.f bt164.1 bt164.2).bind fun bt171 => ((laws_eqIntS.f k bt171.1 t159).bind fun t176 => (if t176 = true then (if (bt171.2.1 != t162) = true then (laws_FnExactShortestCycle.j0 k t159 t162 t163 bt171.1 bt171.2.1 bt171.2.2 true l0_0 l0_1 bt164.1 bt164.2) else (laws_FnExactShortestCycle.j0 k t159 t162 t163 bt171.1 bt171.2.1 bt171.2.2 (bt171.2.2 != t163) l0_0 l0_1 bt164.1 bt164.2)) else (laws_FnExactShortestCycle.j0 k t159 t162 t163 bt171.1 bt171.2.1 bt171.2.2 true l0_0 l0_1 bt164.1 bt164.2))))) = some r := H
  have A8 := Aside0.mk A80
  clear A80
  replace H := Option.bind_eq_some_iff.mp H
  obtain ⟨⟨t164, t167⟩, A90, H⟩ := H
  replace H : ((impl_ShortestCycle.f t164 t167).bind fun bt171 => ((laws_eqIntS.f k bt171.1 t159).bind fun t176 => (if t176 = true then (if (bt171.2.1 != t162) = true then (laws_FnExactShortestCycle.j0 k t159 t162 t163 bt171.1 bt171.2.1 bt171.2.2 true l0_0 l0_1 t164 t167) else (laws_FnExactShortestCycle.j0 k t159 t162 t163 bt171.1 bt171.2.1 bt171.2.2 (bt171.2.2 != t163) l0_0 l0_1 t164 t167)) else (laws_FnExactShortestCycle.j0 k t159 t162 t163 bt171.1 bt171.2.1 bt171.2.2 true l0_0 l0_1 t164 t167)))) = some r := H
  have A9 := Aside0.mk A90
  clear A90
  replace H := Option.bind_eq_some_iff.mp H
  obtain ⟨⟨t171, t174, t175⟩, A100, H⟩ := H
  replace H : ((laws_eqIntS.f k t171 t159).bind fun t176 => (if t176 = true then (if (t174 != t162) = true then (laws_FnExactShortestCycle.j0 k t159 t162 t163 t171 t174 t175 true l0_0 l0_1 t164 t167) else (laws_FnExactShortestCycle.j0 k t159 t162 t163 t171 t174 t175 (t175 != t163) l0_0 l0_1 t164 t167)) else (laws_FnExactShortestCycle.j0 k t159 t162 t163 t171 t174 t175 true l0_0 l0_1 t164 t167))) = some r := H
  have A10 := Aside0.mk A100
  clear A100
  have HC11 := Aside0.mk H
  clear H
  go_enter Try.func6, Try.ntmps6
  go_upto_region 8 with (first | ((with_reducible refine gate_dst (N := 1) rfl ?_); refine box_event ?hg (N := 1) ?hd (cs := #[.slice A0_0 l0_0.length c0_0, .slice A0_1 l0_1.length c0_1]) (t := 25) ?hr ?_; (case hd => rfl); (case hg => rfl); (case hr => first | (go_simp; done) | (go_simp; rfl)); intro gb151 hg w12 hbox hb; have n0_ := Aside0.mk (below_step (wz_ HB.out) hb); have n1_ := Aside0.mk (hbox); have n2_ := Aside0.mk ((by rw [hg]; exact (below_size (wz_ HB.out)) : w.heap.size ≤ gb151)); have n3_ := Aside0.mk ((by rw [hg]; exact (below_size (wz_ HB.out)) : w.heap.size ≤ gb151)); clear HB; have HB := n0_; have BK151 := n1_; have GW151 := n2_; have GE151 := n3_; clear n0_ n1_ n2_ n3_; clear hb hbox hg; have hcz13_0 : w12.cell? ⟨gb151, 0, none⟩ = some (.slice A0_0 l0_0.length c0_0) := (blk_cell BK151.out 0).trans rfl; have hcz13_1 : w12.cell? ⟨gb151, 1, none⟩ = some (.slice A0_1 l0_1.length c0_1) := (blk_cell BK151.out 1).trans rfl; have hfz13_0 := blk_frozen BK151.out 0; have hfz13_1 := blk_frozen BK151.out 1) | ((with_reducible refine gate_callee (f := 15) rfl ?_); refine goesL_ (some 19) rfl rfl Try.func15 (by kernel_rfl) rfl #[.agg #[.slice A0_0 l0_0.length c0_0, .slice A0_1 l0_1.length c0_1], .int .i64 1048576] rfl (by (try simp only [List.map_toArray, List.map_cons, List.map_nil]); first | done | rfl | (simp only [List.length_drop, List.length_take]; rfl)) ?_; (with_reducible refine (laws_szRecord.calls _ _ l0_0 _ _ l0_1 1048576 t152 _ ?side1 ?side2 ?side3 ?side4 A2.out).mono ?_); (case side1 => exact cz_ (Kd.C_below HR0_0.out HB.out)); (case side2 => exact HC0_0.out); (case side3 => exact cz_ (Kd.C_below HR0_1.out HB.out)); (case side4 => exact HC0_1.out); rintro e w14 ⟨rfl, hb⟩; refine ⟨_, rfl, ?_⟩; have n0_ := Aside0.mk (blk_below (bz_ BK151.out) hb); have n1_ := Aside0.mk (below_step (by repeat (first | (with_reducible first | exact HB.out | apply below_alloc | apply pw_below_drewN | apply below_drew1 | refine below_set ?_ GE151.out) | exact HB.out)) hb); clear BK151; clear HB; have BK151 := n0_; have HB := n1_; clear n0_ n1_; (try clear hb); (try clear hb2); (try clear hk); (try clear hi); have hcz15_0 : w14.cell? ⟨gb151, 0, none⟩ = some (.slice A0_0 l0_0.length c0_0) := (blk_cell BK151.out 0).trans rfl; have hcz15_1 : w14.cell? ⟨gb151, 1, none⟩ = some (.slice A0_1 l0_1.length c0_1) := (blk_cell BK151.out 1).trans rfl; have hfz15_0 := blk_frozen BK151.out 0; have hfz15_1 := blk_frozen BK151.out 1) | ((with_reducible refine gate_callee (f := 17) rfl ?_); refine goesL_ (some 24) rfl rfl Try.func17 (by kernel_rfl) rfl #[.agg #[.slice A0_0 l0_0.length c0_0, .slice A0_1 l0_1.length c0_1]] rfl (by (try simp only [List.map_toArray, List.map_cons, List.map_nil]); first | done | rfl | (simp only [List.length_drop, List.length_take]; rfl)) ?_; (with_reducible refine (laws_toRecord.calls k _ _ l0_0 _ _ l0_1 t153 t156 _ ?side1 ?side2 ?side3 ?side4 A7.out).mono ?_); (case side1 => exact cz_ (Kd.C_below HR0_0.out HB.out)); (case side2 => exact HC0_0.out); (case side3 => exact cz_ (Kd.C_below HR0_1.out HB.out)); (case side4 => exact HC0_1.out); rintro e w16 ⟨v154, v157, rfl, ho0, ho1, hb⟩; refine ⟨_, rfl, ?_⟩; have n0_ := Aside0.mk (Kd.R_lower ho0 (below_size (by repeat (first | (with_reducible first | exact HB.out | apply below_alloc | apply pw_below_drewN | apply below_drew1 | refine below_set ?_ GE151.out) | exact HB.out)))); have n1_ := Aside0.mk (Kd.R_lower ho1 (below_size (by repeat (first | (with_reducible first | exact HB.out | apply below_alloc | apply pw_below_drewN | apply below_drew1 | refine below_set ?_ GE151.out) | exact HB.out)))); have n2_ := Aside0.mk (blk_below (bz_ BK151.out) hb); have n3_ := Aside0.mk (below_step (by repeat (first | (with_reducible first | exact HB.out | apply below_alloc | apply pw_below_drewN | apply below_drew1 | refine below_set ?_ GE151.out) | exact HB.out)) hb); clear BK151; clear HB; have HO155 := n0_; have HO158 := n1_; have BK151 := n2_; have HB := n3_; clear n0_ n1_ n2_ n3_; (try clear hb); (try clear hb2); (try clear hk); (try clear hi); (try clear ho0); (try clear ho1); obtain ⟨Ao17, co17, eo17⟩ := Kd.R_slice HO155.out; subst eo17; obtain ⟨Ao18, co18, eo18⟩ := Kd.R_slice HO158.out; subst eo18) | ((with_reducible refine gate_callee (f := 32) rfl ?_); refine goesL_ (some 25) rfl rfl Try.func32 (by kernel_rfl) rfl #[.agg #[.slice Ao17 t153.length co17, .slice Ao18 t156.length co18]] rfl (by (try simp only [List.map_toArray, List.map_cons, List.map_nil]); first | done | rfl | (simp only [List.length_drop, List.length_take]; rfl)) ?_; (with_reducible refine (spec_ShortestCycle.calls _ _ t153 _ _ t156 t159 t162 t163 _ ?side1 ?side2 ?side3 ?side4 A8.out).mono ?_); (case side1 => exact cz_ (Kd.R_reads' HO155.out).2.2); (case side2 => exact (Kd.R_reads' HO155.out).2.1); (case side3 => exact cz_ (Kd.R_reads' HO158.out).2.2); (case side4 => exact (Kd.R_reads' HO158.out).2.1); rintro e w19 ⟨v160, rfl, ho0, hb⟩; refine ⟨_, rfl, ?_⟩; have n0_ := Aside0.mk (Kd.R_below (rz_ HO155.out) hb); have n1_ := Aside0.mk (Kd.R_below (rz_ HO158.out) hb); have n2_ := Aside0.mk (Kd.R_lower ho0 (below_size (by repeat (first | (with_reducible first | exact HB.out | apply below_alloc | apply pw_below_drewN | apply below_drew1 | refine below_set ?_ GE151.out) | exact HB.out)))); have n3_ := Aside0.mk (blk_below (bz_ BK151.out) hb); have n4_ := Aside0.mk (below_step (by repeat (first | (with_reducible first | exact HB.out | apply below_alloc | apply pw_below_drewN | apply below_drew1 | refine below_set ?_ GE151.out) | exact HB.out)) hb); clear HO155; clear HO158; clear BK151; clear HB; have HO155 := n0_; have HO158 := n1_; have HO161 := n2_; have BK151 := n3_; have HB := n4_; clear n0_ n1_ n2_ n3_ n4_; (try clear hb); (try clear hb2); (try clear hk); (try clear hi); (try clear ho0); have hcz20_0 : w19.cell? ⟨gb151, 0, none⟩ = some (.slice A0_0 l0_0.length c0_0) := (blk_cell BK151.out 0).trans rfl; have hcz20_1 : w19.cell? ⟨gb151, 1, none⟩ = some (.slice A0_1 l0_1.length c0_1) := (blk_cell BK151.out 1).trans rfl; have hfz20_0 := blk_frozen BK151.out 0; have hfz20_1 := blk_frozen BK151.out 1) | ((with_reducible refine gate_callee (f := 17) rfl ?_); refine goesL_ (some 30) rfl rfl Try.func17 (by kernel_rfl) rfl #[.agg #[.slice A0_0 l0_0.length c0_0, .slice A0_1 l0_1.length c0_1]] rfl (by (try simp only [List.map_toArray, List.map_cons, List.map_nil]); first | done | rfl | (simp only [List.length_drop, List.length_take]; rfl)) ?_; (with_reducible refine (laws_toRecord.calls k _ _ l0_0 _ _ l0_1 t164 t167 _ ?side1 ?side2 ?side3 ?side4 A9.out).mono ?_); (case side1 => exact cz_ (Kd.C_below HR0_0.out HB.out)); (case side2 => exact HC0_0.out); (case side3 => exact cz_ (Kd.C_below HR0_1.out HB.out)); (case side4 => exact HC0_1.out); rintro e w21 ⟨v165, v168, rfl, ho0, ho1, hb⟩; refine ⟨_, rfl, ?_⟩; have n0_ := Aside0.mk (Kd.R_elder' (rz_ HO155.out) (Kd.R_base ho0) hb); have n1_ := Aside0.mk (Kd.R_elder' (rz_ HO158.out) (Kd.R_base ho1) hb); have n2_ := Aside0.mk (Kd.R_below (rz_ HO161.out) hb); have n3_ := Aside0.mk (Kd.R_lower (Kd.R_new' ho0 (Kd.R_lt (rz_ HO155.out))) (below_size (by repeat (first | (with_reducible first | exact HB.out | apply below_alloc | apply pw_below_drewN | apply below_drew1 | refine below_set ?_ GE151.out) | exact HB.out)))); have n4_ := Aside0.mk (Kd.R_lower (Kd.R_new' ho1 (Kd.R_lt (rz_ HO158.out))) (below_size (by repeat (first | (with_reducible first | exact HB.out | apply below_alloc | apply pw_below_drewN | apply below_drew1 | refine below_set ?_ GE151.out) | exact HB.out)))); have n5_ := Aside0.mk (blk_below (bz_ BK151.out) hb); have n6_ := Aside0.mk (below_step (by repeat (first | (with_reducible first | exact HB.out | apply below_alloc | apply pw_below_drewN | apply below_drew1 | refine below_set ?_ GE151.out) | exact HB.out)) hb); clear HO155; clear HO158; clear HO161; clear BK151; clear HB; have HO155 := n0_; have HO158 := n1_; have HO161 := n2_; have HO166 := n3_; have HO169 := n4_; have BK151 := n5_; have HB := n6_; clear n0_ n1_ n2_ n3_ n4_ n5_ n6_; (try clear hb); (try clear hb2); (try clear hk); (try clear hi); (try clear ho0); (try clear ho1)) | ((with_reducible refine gate_dst (N := 7) rfl ?_); refine box_event ?hg (N := 7) ?hd (cs := #[.slice none 0 0, .slice none 0 0]) (t := 33) ?hr ?_; (case hd => rfl); (case hg => rfl); (case hr => first | (go_simp; done) | (go_simp; rfl)); intro gb170 hg w22 hbox hb; have n0_ := Aside0.mk (Kd.R_below (rz_ HO155.out) hb); have n1_ := Aside0.mk (Kd.R_below (rz_ HO158.out) hb); have n2_ := Aside0.mk (Kd.R_below (rz_ HO161.out) hb); have n3_ := Aside0.mk (Kd.R_below (rz_ HO166.out) hb); have n4_ := Aside0.mk (Kd.R_below (rz_ HO169.out) hb); have n5_ := Aside0.mk (blk_below (bz_ BK151.out) hb); have n6_ := Aside0.mk (below_step (by repeat (first | (with_reducible first | exact HB.out | apply below_alloc | apply pw_below_drewN | apply below_drew1 | refine below_set ?_ GE151.out) | exact HB.out)) hb); have n7_ := Aside0.mk (hbox); have n8_ := Aside0.mk ((by rw [hg]; exact (below_size (by repeat (first | (with_reducible first | exact HB.out | apply below_alloc | apply pw_below_drewN | apply below_drew1 | refine below_set ?_ GE151.out) | exact HB.out))) : w.heap.size ≤ gb170)); have n9_ := Aside0.mk ((by rw [hg]; exact (below_size (by repeat (first | (with_reducible first | exact HB.out | apply below_alloc | apply pw_below_drewN | apply below_drew1 | refine below_set ?_ GE151.out) | exact HB.out))) : w.heap.size ≤ gb170)); have n10_ := Aside0.mk ((by rw [hg]; exact Nat.ne_of_lt (blk_lt (g := gb151) (o := .cells #[.slice A0_0 l0_0.length c0_0, .slice A0_1 l0_1.length c0_1] 25 (0, 0)) (bz_ BK151.out)) : gb151 ≠ gb170)); have n11_ := Aside0.mk ((by rw [hg]; exact Nat.ne_of_gt (blk_lt (g := gb151) (o := .cells #[.slice A0_0 l0_0.length c0_0, .slice A0_1 l0_1.length c0_1] 25 (0, 0)) (bz_ BK151.out)) : gb170 ≠ gb151)); clear HO155; clear HO158; clear HO161; clear HO166; clear HO169; clear BK151; clear HB; have HO155 := n0_; have HO158 := n1_; have HO161 := n2_; have HO166 := n3_; have HO169 := n4_; have BK151 := n5_; have HB := n6_; have BK170 := n7_; have GW170 := n8_; have GE170 := n9_; have NB151_170 := n10_; have NB170_151 := n11_; clear n0_ n1_ n2_ n3_ n4_ n5_ n6_ n7_ n8_ n9_ n10_ n11_; clear hb hbox hg; obtain ⟨Ao23, co23, eo23⟩ := Kd.R_slice HO166.out; subst eo23; have hnb24 := NB170_151.out; have hnc24 := NB151_170.out; have hcz25_0 : w22.cell? ⟨gb170, 0, none⟩ = some (.slice none 0 0) := (blk_cell BK170.out 0).trans rfl; have hcz25_1 : w22.cell? ⟨gb170, 1, none⟩ = some (.slice none 0 0) := (blk_cell BK170.out 1).trans rfl; have hfz25_0 := blk_frozen BK170.out 0; have hfz25_1 := blk_frozen BK170.out 1; obtain ⟨Ao26, co26, eo26⟩ := Kd.R_slice HO169.out; subst eo26) | ((with_reducible refine gate_callee (f := 33) rfl ?_); refine goesL_ (some 33) rfl rfl Try.func33 (by kernel_rfl) rfl #[.agg #[.slice Ao23 t164.length co23, .slice Ao26 t167.length co26]] rfl (by (try simp only [List.map_toArray, List.map_cons, List.map_nil]); first | done | rfl | (simp only [List.length_drop, List.length_take]; rfl)) ?_; (with_reducible refine (impl_ShortestCycle.calls _ _ t164 _ _ t167 t171 t174 t175 _ ?side1 ?side2 ?side3 ?side4 A10.out).mono ?_); (case side1 => refine (Kd.R_reads' (e := 86) (base := w.heap.size) (ok := fun k_ => (True ∧ some k_ ≠ (.slice Ao17 t153.length co17 : Value).ownBlock)) (n := t164.length) (c := co23) ?_).2.2; exact (rz_ (Kd.R_mono (Kd.R_far (p := ⟨gb170, 1, none⟩) (Kd.R_far (p := ⟨gb170, 0, none⟩) (Kd.R_types HO166.out BK170.out (by decide)) (fun _ hk => hk.2) (.slice Ao23 t164.length co23)) (fun _ hk => hk.2) (.slice Ao26 t167.length co26)) (fun _ h_ => h_.1)))); (case side2 => exact (Kd.R_reads' HO166.out).2.1); (case side3 => refine (Kd.R_reads' (e := 95) (base := w.heap.size) (ok := fun k_ => (True ∧ some k_ ≠ (.slice Ao18 t156.length co18 : Value).ownBlock)) (n := t167.length) (c := co26) ?_).2.2; exact (rz_ (Kd.R_mono (Kd.R_far (p := ⟨gb170, 1, none⟩) (Kd.R_far (p := ⟨gb170, 0, none⟩) (Kd.R_types HO169.out BK170.out (by decide)) (fun _ hk => hk.2) (.slice Ao23 t164.length co23)) (fun _ hk => hk.2) (.slice Ao26 t167.length co26)) (fun _ h_ => h_.1)))); (case side4 => exact (Kd.R_reads' HO169.out).2.1); rintro e w27 ⟨v172, rfl, ho0, hb⟩; refine ⟨_, rfl, ?_⟩; have n0_ := Aside0.mk (Kd.R_below (rz_ (Kd.R_mono (Kd.R_far (p := ⟨gb170, 1, none⟩) (Kd.R_far (p := ⟨gb170, 0, none⟩) (Kd.R_types HO155.out BK170.out (by decide)) (fun _ hk => hk.2) (.slice Ao23 t164.length co23)) (fun _ hk => hk.2) (.slice Ao26 t167.length co26)) (fun _ h_ => h_.1))) hb); have n1_ := Aside0.mk (Kd.R_below (rz_ (Kd.R_mono (Kd.R_far (p := ⟨gb170, 1, none⟩) (Kd.R_far (p := ⟨gb170, 0, none⟩) (Kd.R_types HO158.out BK170.out (by decide)) (fun _ hk => hk.2) (.slice Ao23 t164.length co23)) (fun _ hk => hk.2) (.slice Ao26 t167.length co26)) (fun _ h_ => h_.1))) hb); have n2_ := Aside0.mk (Kd.R_elder' (rz_ (Kd.R_mono (Kd.R_far (p := ⟨gb170, 1, none⟩) (Kd.R_far (p := ⟨gb170, 0, none⟩) (Kd.R_types HO161.out BK170.out (by decide)) (fun _ hk => hk.2) (.slice Ao23 t164.length co23)) (fun _ hk => hk.2) (.slice Ao26 t167.length co26)) (fun _ h_ => h_.1))) (Kd.R_base ho0) hb); have n3_ := Aside0.mk (Kd.R_below (rz_ (Kd.R_mono (Kd.R_far (p := ⟨gb170, 1, none⟩) (Kd.R_far (p := ⟨gb170, 0, none⟩) (Kd.R_types HO166.out BK170.out (by decide)) (fun _ hk => hk.2) (.slice Ao23 t164.length co23)) (fun _ hk => hk.2) (.slice Ao26 t167.length co26)) (fun _ h_ => h_.1))) hb); have n4_ := Aside0.mk (Kd.R_below (rz_ (Kd.R_mono (Kd.R_far (p := ⟨gb170, 1, none⟩) (Kd.R_far (p := ⟨gb170, 0, none⟩) (Kd.R_types HO169.out BK170.out (by decide)) (fun _ hk => hk.2) (.slice Ao23 t164.length co23)) (fun _ hk => hk.2) (.slice Ao26 t167.length co26)) (fun _ h_ => h_.1))) hb); have n5_ := Aside0.mk (Kd.R_lower (Kd.R_new' ho0 (Kd.R_lt (rz_ (Kd.R_mono (Kd.R_far (p := ⟨gb170, 1, none⟩) (Kd.R_far (p := ⟨gb170, 0, none⟩) (Kd.R_types HO161.out BK170.out (by decide)) (fun _ hk => hk.2) (.slice Ao23 t164.length co23)) (fun _ hk => hk.2) (.slice Ao26 t167.length co26)) (fun _ h_ => h_.1))))) (below_size (by repeat (first | (with_reducible first | exact HB.out | apply below_alloc | apply pw_below_drewN | apply below_drew1 | refine below_set ?_ GE151.out | refine below_set ?_ GE170.out) | exact HB.out)))); have n6_ := Aside0.mk (blk_below (g := gb151) (o := .cells #[.slice A0_0 l0_0.length c0_0, .slice A0_1 l0_1.length c0_1] 25 (0, 0)) (by (with_reducible repeat (first | refine blk_drewN ?_ _ | refine blk_drew ?_ | refine blk_alloc ?_ _)); refine blk_far ?_ NB151_170.out _; (with_reducible repeat (first | refine blk_drewN ?_ _ | refine blk_drew ?_ | refine blk_alloc ?_ _)); refine blk_far ?_ NB151_170.out _; (with_reducible repeat (first | refine blk_drewN ?_ _ | refine blk_drew ?_ | refine blk_alloc ?_ _)); exact BK151.out) hb); have n7_ := Aside0.mk (blk_below (g := gb170) (o := .cells #[.slice Ao23 t164.length co23, .slice Ao26 t167.length co26] 33 (0, 0)) (by (with_reducible repeat (first | refine blk_drewN ?_ _ | refine blk_drew ?_ | refine blk_alloc ?_ _)); refine blk_put (cs := #[.slice Ao23 t164.length co23, .slice none 0 0]) ?_ 1 _ rfl; (with_reducible repeat (first | refine blk_drewN ?_ _ | refine blk_drew ?_ | refine blk_alloc ?_ _)); refine blk_put (cs := #[.slice none 0 0, .slice none 0 0]) ?_ 0 _ rfl; (with_reducible repeat (first | refine blk_drewN ?_ _ | refine blk_drew ?_ | refine blk_alloc ?_ _)); exact BK170.out) hb); have n8_ := Aside0.mk (below_step (by repeat (first | (with_reducible first | exact HB.out | apply below_alloc | apply pw_below_drewN | apply below_drew1 | refine below_set ?_ GE151.out | refine below_set ?_ GE170.out) | exact HB.out)) hb); clear HO155; clear HO158; clear HO161; clear HO166; clear HO169; clear BK151; clear BK170; clear HB; have HO155 := n0_; have HO158 := n1_; have HO161 := n2_; have HO166 := n3_; have HO169 := n4_; have HO173 := n5_; have BK151 := n6_; have BK170 := n7_; have HB := n8_; clear n0_ n1_ n2_ n3_ n4_ n5_ n6_ n7_ n8_; (try clear hb); (try clear hb2); (try clear hk); (try clear hi); (try clear ho0)))
  (try simp only [Act.put, List.setIfInBounds_toArray, List.set_cons_zero, List.set_cons_succ])
  go_cut [50] (fun v50 wc => ∃ (kq : Nat) (x50_10 : Bool), v50 = .bool x50_10 ∧ Aside0 (laws_FnExactShortestCycle.j0 kq t159 t162 t163 t171 t174 t175 x50_10 l0_0 l0_1 t164 t167 = some r) ∧ Aside0 (kq ≤ k) ∧ Aside0 (Kd.R (Kd.int .i64) 3 wc w.heap.size (fun k_ => some k_ ≠ (v172 : Value).ownBlock) v160 t159) ∧ Aside0 (Kd.R (Kd.int .i64) 3 wc w.heap.size (fun k_ => some k_ ≠ (v160 : Value).ownBlock) v172 t171) ∧ Aside0 (Kd.R k86 86 wc w.heap.size (fun _ => True) (.slice Ao23 t164.length co23) t164) ∧ Aside0 (Kd.R k95 95 wc w.heap.size (fun _ => True) (.slice Ao26 t167.length co26) t167) ∧ Aside0 (wc.heap[gb151]? = some (.cells #[(.slice A0_0 l0_0.length c0_0), (.slice A0_1 l0_1.length c0_1)] 25 (0, 0))) ∧ Aside0 (wc.heap[gb170]? = some (.cells #[(.slice Ao23 t164.length co23), (.slice Ao26 t167.length co26)] 33 (0, 0))) ∧ Aside0 (Below w.heap.size w wc))
  case first =>
   have H := HC11.out
   clear HC11
   replace H := Option.bind_eq_some_iff.mp H
   obtain ⟨t176, A280, H⟩ := H
   replace H : (if t176 = true then (if (t174 != t162) = true then (laws_FnExactShortestCycle.j0 k t159 t162 t163 t171 t174 t175 true l0_0 l0_1 t164 t167) else (laws_FnExactShortestCycle.j0 k t159 t162 t163 t171 t174 t175 (t175 != t163) l0_0 l0_1 t164 t167)) else (laws_FnExactShortestCycle.j0 k t159 t162 t163 t171 t174 t175 true l0_0 l0_1 t164 t167)) = some r := H
   have A28 := Aside0.mk A280
   clear A280
   by_cases c29 : t176 = true
   ·subst c29
    have H1 : (if (t174 != t162) = true then (laws_FnExactShortestCycle.j0 k t159 t162 t163 t171 t174 t175 true l0_0 l0_1 t164 t167) else (laws_FnExactShortestCycle.j0 k t159 t162 t163 t171 t174 t175 (t175 != t163) l0_0 l0_1 t164 t167)) = some r := by rw [if_pos rfl] at H; exact H
    clear H
    have H := H1
    clear H1
    by_cases c30 : (t174 != t162) = true
    ·rw [if_pos c30] at H
     have c30b0 : (t174 != t162) = true := c30
     (try (have c30b1 : decide (t174 = t162) = false := by simpa using c30))
     (try (have c30b2 : (t174 == t162) = false := by simpa using c30))
     (try (have c30b3 : ¬ (t174 = t162) := by simpa using c30))
     clear c30
     (first | rw [c30b0] | (simp only [i64_w, i32_w]; rw [c30b0]) | skip)
     have H' := Aside0.mk H
     clear H
     obtain ⟨Ao31, co31, eo31⟩ := Kd.R_slice HO173.out
     subst eo31
     obtain ⟨Ao32, co32, eo32⟩ := Kd.R_slice HO161.out
     subst eo32
     go_wp2_with (first | ((with_reducible refine gate_callee (f := 19) rfl ?_); refine goesL_ (some 39) rfl rfl Try.func19 (by kernel_rfl) rfl #[.slice Ao31 t171.length co31, .slice Ao32 t159.length co32] rfl (by (try simp only [List.map_toArray, List.map_cons, List.map_nil]); first | done | rfl | (simp only [List.length_drop, List.length_take]; rfl)) ?_; (with_reducible refine (laws_eqIntS.calls k _ _ t171 _ _ t159 true _ ?side1 ?side2 ?side3 ?side4 A28.out).mono ?_); (case side1 => exact cz_ (Kd.R_reads' HO173.out).2.2); (case side2 => exact (Kd.R_reads' HO173.out).2.1); (case side3 => exact cz_ (Kd.R_reads' HO161.out).2.2); (case side4 => exact (Kd.R_reads' HO161.out).2.1); rintro e w' ⟨rfl, ⟨nd, rfl⟩⟩; refine ⟨_, rfl, ?_⟩))
     go_meet
     case rel => exact ⟨_, (true), (by first | rfl | (simp; done) | (simp [*]; done)), H', ⟨by first | omega | exact Nat.le_refl _⟩, ⟨rz_ (Kd.R_mono HO161.out (fun _ hk => hk.2))⟩, ⟨rz_ (Kd.R_mono HO173.out (fun _ hk => hk.2))⟩, ⟨rz_ (Kd.R_mono HO166.out (fun _ hk => trivial))⟩, ⟨rz_ (Kd.R_mono HO169.out (fun _ hk => trivial))⟩, ⟨bz_ BK151.out⟩, ⟨bz_ BK170.out⟩, ⟨by repeat (first | (with_reducible first | exact HB.out | apply below_alloc | apply pw_below_drewN | apply below_drew1 | refine below_set ?_ GE151.out | refine below_set ?_ GE170.out) | exact HB.out)⟩⟩
    ·rw [if_neg c30] at H
     have c30b0 : (t174 != t162) = false := by simpa using c30
     (try (have c30b1 : decide (t174 = t162) = true := by simpa using c30))
     (try (have c30b2 : (t174 == t162) = true := by simpa using c30))
     clear c30
     (first | rw [c30b0] | (simp only [i64_w, i32_w]; rw [c30b0]) | skip)
     have H' := Aside0.mk H
     clear H
     obtain ⟨Ao33, co33, eo33⟩ := Kd.R_slice HO173.out
     subst eo33
     obtain ⟨Ao34, co34, eo34⟩ := Kd.R_slice HO161.out
     subst eo34
     go_wp2_with (first | ((with_reducible refine gate_callee (f := 19) rfl ?_); refine goesL_ (some 39) rfl rfl Try.func19 (by kernel_rfl) rfl #[.slice Ao33 t171.length co33, .slice Ao34 t159.length co34] rfl (by (try simp only [List.map_toArray, List.map_cons, List.map_nil]); first | done | rfl | (simp only [List.length_drop, List.length_take]; rfl)) ?_; (with_reducible refine (laws_eqIntS.calls k _ _ t171 _ _ t159 true _ ?side1 ?side2 ?side3 ?side4 A28.out).mono ?_); (case side1 => exact cz_ (Kd.R_reads' HO173.out).2.2); (case side2 => exact (Kd.R_reads' HO173.out).2.1); (case side3 => exact cz_ (Kd.R_reads' HO161.out).2.2); (case side4 => exact (Kd.R_reads' HO161.out).2.1); rintro e w' ⟨rfl, ⟨nd, rfl⟩⟩; refine ⟨_, rfl, ?_⟩))
     go_meet
     case rel => exact ⟨_, ((t175 != t163)), (by first | rfl | (simp; done) | (simp [*]; done)), H', ⟨by first | omega | exact Nat.le_refl _⟩, ⟨rz_ (Kd.R_mono HO161.out (fun _ hk => hk.2))⟩, ⟨rz_ (Kd.R_mono HO173.out (fun _ hk => hk.2))⟩, ⟨rz_ (Kd.R_mono HO166.out (fun _ hk => trivial))⟩, ⟨rz_ (Kd.R_mono HO169.out (fun _ hk => trivial))⟩, ⟨bz_ BK151.out⟩, ⟨bz_ BK170.out⟩, ⟨by repeat (first | (with_reducible first | exact HB.out | apply below_alloc | apply pw_below_drewN | apply below_drew1 | refine below_set ?_ GE151.out | refine below_set ?_ GE170.out) | exact HB.out)⟩⟩
   ·replace c29 := Bool.eq_false_iff.mpr c29
    subst c29
    have H1 : (laws_FnExactShortestCycle.j0 k t159 t162 t163 t171 t174 t175 true l0_0 l0_1 t164 t167) = some r := by rw [if_neg (show ¬ (false = true) by decide)] at H; exact H
    clear H
    have H := H1
    clear H1
    have H' := Aside0.mk H
    clear H
    obtain ⟨Ao35, co35, eo35⟩ := Kd.R_slice HO173.out
    subst eo35
    obtain ⟨Ao36, co36, eo36⟩ := Kd.R_slice HO161.out
    subst eo36
    go_wp2_with (first | ((with_reducible refine gate_callee (f := 19) rfl ?_); refine goesL_ (some 39) rfl rfl Try.func19 (by kernel_rfl) rfl #[.slice Ao35 t171.length co35, .slice Ao36 t159.length co36] rfl (by (try simp only [List.map_toArray, List.map_cons, List.map_nil]); first | done | rfl | (simp only [List.length_drop, List.length_take]; rfl)) ?_; (with_reducible refine (laws_eqIntS.calls k _ _ t171 _ _ t159 false _ ?side1 ?side2 ?side3 ?side4 A28.out).mono ?_); (case side1 => exact cz_ (Kd.R_reads' HO173.out).2.2); (case side2 => exact (Kd.R_reads' HO173.out).2.1); (case side3 => exact cz_ (Kd.R_reads' HO161.out).2.2); (case side4 => exact (Kd.R_reads' HO161.out).2.1); rintro e w' ⟨rfl, ⟨nd, rfl⟩⟩; refine ⟨_, rfl, ?_⟩))
    go_meet
    case rel => exact ⟨_, (true), (by first | rfl | (simp; done) | (simp [*]; done)), H', ⟨by first | omega | exact Nat.le_refl _⟩, ⟨rz_ (Kd.R_mono HO161.out (fun _ hk => hk.2))⟩, ⟨rz_ (Kd.R_mono HO173.out (fun _ hk => hk.2))⟩, ⟨rz_ (Kd.R_mono HO166.out (fun _ hk => trivial))⟩, ⟨rz_ (Kd.R_mono HO169.out (fun _ hk => trivial))⟩, ⟨bz_ BK151.out⟩, ⟨bz_ BK170.out⟩, ⟨by repeat (first | (with_reducible first | exact HB.out | apply below_alloc | apply pw_below_drewN | apply below_drew1 | refine below_set ?_ GE151.out | refine below_set ?_ GE170.out) | exact HB.out)⟩⟩
  case rest =>
   clear HC11
   try clear c1
   try clear c2
   try clear p2
   try clear c3
   try clear c3b0
   try clear c6
   try clear c15
   try clear c17
   try clear c19
   try clear c24
   try clear c29
   try clear c30
   try clear c30b0
   try clear c30b1
   try clear c30b2
   try clear c32
   try clear c33
   try clear hcz13_0
   try clear hcz13_1
   try clear hcz15_0
   try clear hcz15_1
   try clear hcz20_0
   try clear hcz20_1
   try clear hcz25_0
   try clear hcz25_1
   try clear hcz5_0
   try clear hcz5_1
   try clear hfz13_0
   try clear hfz13_1
   try clear hfz15_0
   try clear hfz15_1
   try clear hfz20_0
   try clear hfz20_1
   try clear hfz25_0
   try clear hfz25_1
   try clear hfz5_0
   try clear hfz5_1
   obtain ⟨kq, x50_10, rfl, HA, HJ10, HO_4, HO_8, HO_171000, HO_171001, BK151, BK170, HB⟩ := hcut
   cases kq with
   | zero => exact absurd HA.out (by simp [laws_FnExactShortestCycle.j0])
   | succ kj10 =>
    have H := HA.out
    clear HA
    simp only [laws_FnExactShortestCycle.j0] at H
    by_cases c37 : x50_10 = true
    ·subst c37
     have H1 : (some false) = some r := by rw [if_pos rfl] at H; exact H
     clear H
     have H := H1
     clear H1
     obtain rfl := Option.some.inj H
     go_wp2
     go_ret
     exact ⟨by first | rfl | (simp [errW_none, errW_some] <;> rfl) | (simp [*, errW_none, errW_some] <;> rfl), by repeat (first | (with_reducible first | exact HB.out | apply below_alloc | apply pw_below_drewN | apply below_drew1 | refine below_set ?_ GE151.out | refine below_set ?_ GE170.out) | exact HB.out)⟩
    ·replace c37 := Bool.eq_false_iff.mpr c37
     subst c37
     have H1 : ((laws_toRecord.f kj10 l0_0 l0_1).bind fun bt177 => ((laws_eqRecord.f kj10 t164 t167 bt177.1 bt177.2).bind fun t183 => (if t183 = true then ((laws_markRecord.f kj10 t164 t167 1).bind fun bt184 => (if bt184.1 < 0 then (laws_FnExactShortestCycle.j1 kj10 t159 t162 t163 t171 true l0_0 l0_1) else ((laws_eqIntS.f kj10 t171 t159).bind fun t187 => (if t187 = true then (if (t174 != t162) = true then (laws_FnExactShortestCycle.j1 kj10 t159 t162 t163 t171 true l0_0 l0_1) else (laws_FnExactShortestCycle.j1 kj10 t159 t162 t163 t171 (t175 != t163) l0_0 l0_1)) else (laws_FnExactShortestCycle.j1 kj10 t159 t162 t163 t171 true l0_0 l0_1))))) else (some false)))) = some r := by rw [if_neg (show ¬ (false = true) by decide)] at H; exact H
     clear H
     have H := H1
     clear H1
     replace H := Option.bind_eq_some_iff.mp H
     obtain ⟨⟨t177, t180⟩, A380, H⟩ := H
     replace H : ((laws_eqRecord.f kj10 t164 t167 t177 t180).bind fun t183 => (if t183 = true then ((laws_markRecord.f kj10 t164 t167 1).bind fun bt184 => (if bt184.1 < 0 then (laws_FnExactShortestCycle.j1 kj10 t159 t162 t163 t171 true l0_0 l0_1) else ((laws_eqIntS.f kj10 t171 t159).bind fun t187 => (if t187 = true then (if (t174 != t162) = true then (laws_FnExactShortestCycle.j1 kj10 t159 t162 t163 t171 true l0_0 l0_1) else (laws_FnExactShortestCycle.j1 kj10 t159 t162 t163 t171 (t175 != t163) l0_0 l0_1)) else (laws_FnExactShortestCycle.j1 kj10 t159 t162 t163 t171 true l0_0 l0_1))))) else (some false))) = some r := H
     have A38 := Aside0.mk A380
     clear A380
     replace H := Option.bind_eq_some_iff.mp H
     obtain ⟨t183, A390, H⟩ := H
     replace H : (if t183 = true then ((laws_markRecord.f kj10 t164 t167 1).bind fun bt184 => (if bt184.1 < 0 then (laws_FnExactShortestCycle.j1 kj10 t159 t162 t163 t171 true l0_0 l0_1) else ((laws_eqIntS.f kj10 t171 t159).bind fun t187 => (if t187 = true then (if (t174 != t162) = true then (laws_FnExactShortestCycle.j1 kj10 t159 t162 t163 t171 true l0_0 l0_1) else (laws_FnExactShortestCycle.j1 kj10 t159 t162 t163 t171 (t175 != t163) l0_0 l0_1)) else (laws_FnExactShortestCycle.j1 kj10 t159 t162 t163 t171 true l0_0 l0_1))))) else (some false)) = some r := H
     have A39 := Aside0.mk A390
     clear A390
     by_cases c40 : t183 = true
     ·subst c40
      have H1 : ((laws_markRecord.f kj10 t164 t167 1).bind fun bt184 => (if bt184.1 < 0 then (laws_FnExactShortestCycle.j1 kj10 t159 t162 t163 t171 true l0_0 l0_1) else ((laws_eqIntS.f kj10 t171 t159).bind fun t187 => (if t187 = true then (if (t174 != t162) = true then (laws_FnExactShortestCycle.j1 kj10 t159 t162 t163 t171 true l0_0 l0_1) else (laws_FnExactShortestCycle.j1 kj10 t159 t162 t163 t171 (t175 != t163) l0_0 l0_1)) else (laws_FnExactShortestCycle.j1 kj10 t159 t162 t163 t171 true l0_0 l0_1))))) = some r := by rw [if_pos rfl] at H; exact H
      clear H
      have H := H1
      clear H1
      replace H := Option.bind_eq_some_iff.mp H
      obtain ⟨⟨t184, t185, t186⟩, A410, H⟩ := H
      replace H : (if t184 < 0 then (laws_FnExactShortestCycle.j1 kj10 t159 t162 t163 t171 true l0_0 l0_1) else ((laws_eqIntS.f kj10 t171 t159).bind fun t187 => (if t187 = true then (if (t174 != t162) = true then (laws_FnExactShortestCycle.j1 kj10 t159 t162 t163 t171 true l0_0 l0_1) else (laws_FnExactShortestCycle.j1 kj10 t159 t162 t163 t171 (t175 != t163) l0_0 l0_1)) else (laws_FnExactShortestCycle.j1 kj10 t159 t162 t163 t171 true l0_0 l0_1)))) = some r := H
      have A41 := Aside0.mk A410
      clear A410
      have HC42 := Aside0.mk H
      clear H
      try go_wp2
      have n0_ := Aside0.mk (Kd.R_drew HO_4.out)
      have n1_ := Aside0.mk (Kd.R_drew HO_8.out)
      have n2_ := Aside0.mk (Kd.R_drew HO_171000.out)
      have n3_ := Aside0.mk (Kd.R_drew HO_171001.out)
      have n4_ := Aside0.mk (blk_drew BK151.out)
      have n5_ := Aside0.mk (blk_drew BK170.out)
      have n6_ := Aside0.mk (below_drew1 HB.out)
      clear HO_4
      clear HO_8
      clear HO_171000
      clear HO_171001
      clear BK151
      clear BK170
      clear HB
      have HO_4 := n0_
      have HO_8 := n1_
      have HO_171000 := n2_
      have HO_171001 := n3_
      have BK151 := n4_
      have BK170 := n5_
      have HB := n6_
      clear n0_ n1_ n2_ n3_ n4_ n5_ n6_
      refine start_ (n := 5) (S := fun w' => w'.cell? ⟨gb170, 0, none⟩ = some (.slice Ao23 t164.length co23) ∧ w'.cell? ⟨gb170, 1, none⟩ = some (.slice Ao26 t167.length co26) ∧ w'.cell? ⟨gb151, 0, none⟩ = some (.slice A0_0 l0_0.length c0_0) ∧ w'.cell? ⟨gb151, 1, none⟩ = some (.slice A0_1 l0_1.length c0_1)) (ds := []) #[false, false, false, false, false] (by kernel_rfl) rfl rfl ⟨(blk_cell BK170.out 0).trans rfl, (blk_cell BK170.out 1).trans rfl, (blk_cell BK151.out 0).trans rfl, (blk_cell BK151.out 1).trans rfl⟩ (fun hHeld => ?_)
      generalize wc.drew = w43 at HO_4 HO_8 HO_171000 HO_171001 BK151 BK170 HB hHeld ⊢
      refine take_ (i := 0) (N := some 51) (v := ?_) (a' := ?_) #[true, false, false, false, false] rfl rfl (by kernel_rfl) (fun _ _ _ h => h) (Or.inl ⟨by rfl, ?_⟩) hHeld ?_ ?_
      rotate_left
      ·rintro w' ⟨s0, s1, s2, s3⟩
       go_simp
       with_reducible rfl
      rotate_left
      ·simp only [Act.put, List.setIfInBounds_toArray, List.set_cons_zero, List.set_cons_succ, i64_w, i32_w]
       rfl
      refine take_ (i := 1) (N := some 52) (v := ?_) (a' := ?_) #[true, true, false, false, false] rfl rfl (by kernel_rfl) (fun _ _ _ h => h) (Or.inl ⟨by rfl, ?_⟩) hHeld ?_ ?_
      rotate_left
      ·rintro w' ⟨s0, s1, s2, s3⟩
       go_simp
       with_reducible rfl
      rotate_left
      ·simp only [Act.put, List.setIfInBounds_toArray, List.set_cons_zero, List.set_cons_succ, i64_w, i32_w]
       rfl
      refine one_ (i := 2) (N := some 53) (bl 3 5) rfl rfl (by kernel_rfl) (by decide) (fun K hK => ?_)
      refine goes_ Try.func17 (by kernel_rfl) rfl #[.agg #[.slice A0_0 l0_0.length c0_0, .slice A0_1 l0_1.length c0_1]] (by rfl) rfl rfl (by (try simp only [List.map_toArray, List.map_cons, List.map_nil]); first | done | rfl | (simp only [List.length_drop, List.length_take]; rfl)) ?_
      with_reducible refine (laws_toRecord.calls kj10 _ _ l0_0 _ _ l0_1 t177 t180 _ ?side1 ?side2 ?side3 ?side4 A38.out).mono ?_
      (case side1 => exact cz_ (Kd.C_below HR0_0.out HB.out))
      (case side2 => exact HC0_0.out)
      (case side3 => exact cz_ (Kd.C_below HR0_1.out HB.out))
      (case side4 => exact HC0_1.out)
      rintro e w44 ⟨v178, v181, rfl, ho0, ho1, hb⟩
      refine ⟨_, rfl, ?_⟩
      have n0_ := Aside0.mk (Kd.R_below (rz_ HO_4.out) hb)
      have n1_ := Aside0.mk (Kd.R_below (rz_ HO_8.out) hb)
      have n2_ := Aside0.mk (Kd.R_elder' (rz_ HO_171000.out) (Kd.R_base ho0) hb)
      have n3_ := Aside0.mk (Kd.R_elder' (rz_ HO_171001.out) (Kd.R_base ho1) hb)
      have n4_ := Aside0.mk (Kd.R_lower (Kd.R_new' ho0 (Kd.R_lt (rz_ HO_171000.out))) (below_size (by repeat (first | (with_reducible first | exact HB.out | apply below_alloc | apply pw_below_drewN | apply below_drew1 | refine below_set ?_ GE151.out | refine below_set ?_ GE170.out) | exact HB.out))))
      have n5_ := Aside0.mk (Kd.R_lower (Kd.R_new' ho1 (Kd.R_lt (rz_ HO_171001.out))) (below_size (by repeat (first | (with_reducible first | exact HB.out | apply below_alloc | apply pw_below_drewN | apply below_drew1 | refine below_set ?_ GE151.out | refine below_set ?_ GE170.out) | exact HB.out))))
      have n6_ := Aside0.mk (blk_below (bz_ BK151.out) hb)
      have n7_ := Aside0.mk (blk_below (bz_ BK170.out) hb)
      have n8_ := Aside0.mk (below_step (by repeat (first | (with_reducible first | exact HB.out | apply below_alloc | apply pw_below_drewN | apply below_drew1 | refine below_set ?_ GE151.out | refine below_set ?_ GE170.out) | exact HB.out)) hb)
      clear HO_4
      clear HO_8
      clear HO_171000
      clear HO_171001
      clear BK151
      clear BK170
      clear HB
      have HO_4 := n0_
      have HO_8 := n1_
      have HO_171000 := n2_
      have HO_171001 := n3_
      have HO179 := n4_
      have HO182 := n5_
      have BK151 := n6_
      have BK170 := n7_
      have HB := n8_
      clear n0_ n1_ n2_ n3_ n4_ n5_ n6_ n7_ n8_
      (try clear hb)
      (try clear hb2)
      (try clear hk)
      (try clear hi)
      (try clear ho0)
      (try clear ho1)
      obtain ⟨Ao45, co45, eo45⟩ := Kd.R_slice HO179.out
      (first | subst eo45 | (injection eo45 with f1_ f2_ f3_; have f4_ := f1_.symm; have f5_ := f3_.symm; clear f1_ f2_ f3_; subst f4_; subst f5_))
      obtain ⟨Ao46, co46, eo46⟩ := Kd.R_slice HO182.out
      (first | subst eo46 | (injection eo46 with f1_ f2_ f3_; have f4_ := f1_.symm; have f5_ := f3_.symm; clear f1_ f2_ f3_; subst f4_; subst f5_))
      refine hK.out _ _ ⟨(blk_cell BK170.out 0).trans rfl, (blk_cell BK170.out 1).trans rfl, (blk_cell BK151.out 0).trans rfl, (blk_cell BK151.out 1).trans rfl⟩ (fun hHeld => ?_)
      clear hK K
      refine norm_ (a' := ?_) ?_ ?_
      rotate_left
      ·show Act.put _ (some 53) _ = _
       simp only [Act.put, List.setIfInBounds_toArray, List.set_cons_zero, List.set_cons_succ, i64_w, i32_w]
       rfl
      refine one_ (i := 3) (N := some 54) (bl 4 5) rfl rfl (by kernel_rfl) (by decide) (fun K hK => ?_)
      refine goes_ Try.func20 (by kernel_rfl) rfl #[.agg #[.slice Ao23 t164.length co23, .slice Ao26 t167.length co26], .agg #[.slice Ao45 t177.length co45, .slice Ao46 t180.length co46]] (by rfl) rfl rfl (by (try simp only [List.map_toArray, List.map_cons, List.map_nil]); first | done | rfl | (simp only [List.length_drop, List.length_take]; rfl)) ?_
      with_reducible refine (laws_eqRecord.calls kj10 _ _ t164 _ _ t167 _ _ t177 _ _ t180 true _ ?side1 ?side2 ?side3 ?side4 ?side5 ?side6 ?side7 ?side8 A39.out).mono ?_
      (case side1 => exact cz_ (Kd.R_reads' HO_171000.out).2.2)
      (case side2 => exact (Kd.R_reads' HO_171000.out).2.1)
      (case side3 => exact cz_ (Kd.R_reads' HO_171001.out).2.2)
      (case side4 => exact (Kd.R_reads' HO_171001.out).2.1)
      (case side5 => exact cz_ (Kd.R_reads' HO179.out).2.2)
      (case side6 => exact (Kd.R_reads' HO179.out).2.1)
      (case side7 => exact cz_ (Kd.R_reads' HO182.out).2.2)
      (case side8 => exact (Kd.R_reads' HO182.out).2.1)
      rintro e w47 ⟨rfl, hb⟩
      refine ⟨_, rfl, ?_⟩
      have n0_ := Aside0.mk (Kd.R_below (rz_ HO_4.out) hb)
      have n1_ := Aside0.mk (Kd.R_below (rz_ HO_8.out) hb)
      have n2_ := Aside0.mk (Kd.R_below (rz_ HO_171000.out) hb)
      have n3_ := Aside0.mk (Kd.R_below (rz_ HO_171001.out) hb)
      have n4_ := Aside0.mk (Kd.R_below (rz_ HO179.out) hb)
      have n5_ := Aside0.mk (Kd.R_below (rz_ HO182.out) hb)
      have n6_ := Aside0.mk (blk_below (bz_ BK151.out) hb)
      have n7_ := Aside0.mk (blk_below (bz_ BK170.out) hb)
      have n8_ := Aside0.mk (below_step (by repeat (first | (with_reducible first | exact HB.out | apply below_alloc | apply pw_below_drewN | apply below_drew1 | refine below_set ?_ GE151.out | refine below_set ?_ GE170.out) | exact HB.out)) hb)
      clear HO_4
      clear HO_8
      clear HO_171000
      clear HO_171001
      clear HO179
      clear HO182
      clear BK151
      clear BK170
      clear HB
      have HO_4 := n0_
      have HO_8 := n1_
      have HO_171000 := n2_
      have HO_171001 := n3_
      have HO179 := n4_
      have HO182 := n5_
      have BK151 := n6_
      have BK170 := n7_
      have HB := n8_
      clear n0_ n1_ n2_ n3_ n4_ n5_ n6_ n7_ n8_
      (try clear hb)
      (try clear hb2)
      (try clear hk)
      (try clear hi)
      refine hK.out _ _ ⟨(blk_cell BK170.out 0).trans rfl, (blk_cell BK170.out 1).trans rfl, (blk_cell BK151.out 0).trans rfl, (blk_cell BK151.out 1).trans rfl⟩ (fun hHeld => ?_)
      clear hK K
      refine norm_ (a' := ?_) ?_ ?_
      rotate_left
      ·show Act.put _ (some 54) _ = _
       simp only [Act.put, List.setIfInBounds_toArray, List.set_cons_zero, List.set_cons_succ, i64_w, i32_w]
       rfl
      refine pure_ (i := 4) (N := some 55) (v := ?_) (a' := ?_) #[true, true, true, true, true] rfl rfl (by kernel_rfl) (fun _ _ _ h => h) (Or.inl ⟨by rfl, ?_⟩) ?_ ?_
      rotate_left
      ·intro w'
       go_simp
       with_reducible rfl
      rotate_left
      ·simp only [Act.put, List.setIfInBounds_toArray, List.set_cons_zero, List.set_cons_succ, i64_w, i32_w]
       rfl
      refine done_ (by kernel_rfl) ?_
      have hnb48 := NB170_151.out
      have hnc48 := NB151_170.out
      have hcz49_0 : w47.cell? ⟨gb170, 0, none⟩ = some (.slice Ao23 t164.length co23) := (blk_cell BK170.out 0).trans rfl
      have hcz49_1 : w47.cell? ⟨gb170, 1, none⟩ = some (.slice Ao26 t167.length co26) := (blk_cell BK170.out 1).trans rfl
      have hfz49_0 := blk_frozen BK170.out 0
      have hfz49_1 := blk_frozen BK170.out 1
      go_upto_region 14 with (first | ((with_reducible refine gate_callee (f := 21) rfl ?_); refine goesL_ (some 58) rfl rfl Try.func21 (by kernel_rfl) rfl #[.agg #[.slice Ao23 t164.length co23, .slice Ao26 t167.length co26], .int .i64 1] rfl (by (try simp only [List.map_toArray, List.map_cons, List.map_nil]); first | done | rfl | (simp only [List.length_drop, List.length_take]; rfl)) ?_; (with_reducible refine (laws_markRecord.calls kj10 (fun k_ => some k_ = (.slice Ao23 t164.length co23 : Value).ownBlock) (.slice Ao23 t164.length co23) t164 (fun k_ => some k_ = (.slice Ao26 t167.length co26 : Value).ownBlock) (.slice Ao26 t167.length co26) t167 1 t184 t185 t186 w _ ?side1 ?side2 ?side3 A41.out).mono ?_); (case side1 => repeat (first | (with_reducible first | exact HB.out | apply below_alloc | apply pw_below_drewN | apply below_drew1 | refine below_set ?_ GE151.out | refine below_set ?_ GE170.out) | exact HB.out)); (case side2 => exact Kd.R_tight rfl HO_171000.out); (case side3 => exact Kd.R_tight rfl HO_171001.out); rintro e w50 ⟨rfl, hy0, hy1, hb, hkp⟩; refine ⟨_, rfl, ?_⟩; have n0_ := Aside0.mk (Kd.R_mono (ok' := fun k_ => some k_ ≠ (v172 : Value).ownBlock) (Kd.R_keptB ((Kd.R_apart' (Kd.R_apart' HO_4.out (Kd.R_typed HO_171000.out) (by decide)) (Kd.R_typed HO_171001.out) (by decide))) hkp (fun k_ hk_ hs_ => Or.elim hs_ (fun e_ => (hk_.1.2) e_) (fun e_ => (hk_.2) e_))) (fun k_ hk_ => hk_.1.1.1)); have n1_ := Aside0.mk (Kd.R_mono (ok' := fun k_ => some k_ ≠ (v160 : Value).ownBlock) (Kd.R_keptB ((Kd.R_apart' (Kd.R_apart' HO_8.out (Kd.R_typed HO_171000.out) (by decide)) (Kd.R_typed HO_171001.out) (by decide))) hkp (fun k_ hk_ hs_ => Or.elim hs_ (fun e_ => (hk_.1.2) e_) (fun e_ => (hk_.2) e_))) (fun k_ hk_ => hk_.1.1.1)); have n2_ := Aside0.mk (Kd.R_reok rfl hy0 (fun k_ e_ => HO_171000.out.1 k_ e_)); have n3_ := Aside0.mk (Kd.R_reok rfl hy1 (fun k_ e_ => HO_171001.out.1 k_ e_)); have n4_ := Aside0.mk (blk_kept (bz_ BK151.out) hkp (fun hs_ => Or.elim hs_ (fun e_ => (fun e_ => (Kd.R_ne HO_171000.out BK151.out (by decide)) e_) e_) (fun e_ => (fun e_ => (Kd.R_ne HO_171001.out BK151.out (by decide)) e_) e_))); have n5_ := Aside0.mk (blk_kept (bz_ BK170.out) hkp (fun hs_ => Or.elim hs_ (fun e_ => (fun e_ => (Kd.R_ne HO_171000.out BK170.out (by decide)) e_) e_) (fun e_ => (fun e_ => (Kd.R_ne HO_171001.out BK170.out (by decide)) e_) e_))); have n6_ := Aside0.mk (Kd.R_mono (ok' := fun k_ => some k_ ≠ (.slice Ao23 t164.length co23 : Value).ownBlock) (Kd.R_keptB ((Kd.R_apart' HO179.out (Kd.R_typed HO_171001.out) (by decide))) hkp (fun k_ hk_ hs_ => Or.elim hs_ (fun e_ => (hk_.1.2) e_) (fun e_ => (hk_.2) e_))) (fun k_ hk_ => hk_.1.1.2)); have n7_ := Aside0.mk (Kd.R_mono (ok' := fun k_ => some k_ ≠ (.slice Ao26 t167.length co26 : Value).ownBlock) (Kd.R_keptB ((Kd.R_apart' HO182.out (Kd.R_typed HO_171000.out) (by decide))) hkp (fun k_ hk_ hs_ => Or.elim hs_ (fun e_ => (hk_.2) e_) (fun e_ => (hk_.1.2) e_))) (fun k_ hk_ => hk_.1.1.2)); have n8_ := Aside0.mk (hb); clear HO_4; clear HO_8; clear HO_171000; clear HO_171001; clear BK151; clear BK170; clear HO179; clear HO182; clear HB; have HO_4 := n0_; have HO_8 := n1_; have HO_171000 := n2_; have HO_171001 := n3_; have BK151 := n4_; have BK170 := n5_; have HO179 := n6_; have HO182 := n7_; have HB := n8_; clear n0_ n1_ n2_ n3_ n4_ n5_ n6_ n7_ n8_; (try clear hb); (try clear hkp); (try clear hy0); (try clear hy1)))
      (try simp only [Act.put, List.setIfInBounds_toArray, List.set_cons_zero, List.set_cons_succ])
      go_cut [76] (fun v76 wc => ∃ (kq : Nat) (x76_41 : Bool), v76 = .bool x76_41 ∧ Aside0 (laws_FnExactShortestCycle.j1 kq t159 t162 t163 t171 x76_41 l0_0 l0_1 = some r) ∧ Aside0 (kq ≤ kj10) ∧ Aside0 (Kd.R (Kd.int .i64) 3 wc w.heap.size (fun k_ => some k_ ≠ (v172 : Value).ownBlock) v160 t159) ∧ Aside0 (Kd.R (Kd.int .i64) 3 wc w.heap.size (fun k_ => some k_ ≠ (v160 : Value).ownBlock) v172 t171) ∧ Aside0 (Kd.R k86 86 wc w.heap.size (fun _ => True) (.slice Ao23 t164.length co23) t185) ∧ Aside0 (Kd.R k95 95 wc w.heap.size (fun _ => True) (.slice Ao26 t167.length co26) t186) ∧ Aside0 (wc.heap[gb151]? = some (.cells #[(.slice A0_0 l0_0.length c0_0), (.slice A0_1 l0_1.length c0_1)] 25 (0, 0))) ∧ Aside0 (wc.heap[gb170]? = some (.cells #[(.slice Ao23 t164.length co23), (.slice Ao26 t167.length co26)] 33 (0, 0))) ∧ Aside0 (Below w.heap.size w wc))
      case first =>
       have H := HC42.out
       clear HC42
       by_cases c51 : t184 < 0
       ·rw [if_pos c51] at H
        have c51b0 : decide (t184 < 0) = true := decide_eq_true c51
        clear c51
        (first | rw [c51b0] | (simp only [i64_w, i32_w]; rw [c51b0]) | skip)
        have H' := Aside0.mk H
        clear H
        go_wp2
        go_meet
        case rel => exact ⟨_, (true), (by first | rfl | (simp; done) | (simp [*]; done)), H', ⟨by have := HJ10.out; first | omega | exact Nat.le_refl _⟩, ⟨rz_ HO_4.out⟩, ⟨rz_ HO_8.out⟩, ⟨rz_ (Kd.R_mono HO_171000.out (fun _ hk => trivial))⟩, ⟨rz_ (Kd.R_mono HO_171001.out (fun _ hk => trivial))⟩, ⟨bz_ BK151.out⟩, ⟨bz_ BK170.out⟩, ⟨by repeat (first | (with_reducible first | exact HB.out | apply below_alloc | apply pw_below_drewN | apply below_drew1 | refine below_set ?_ GE151.out | refine below_set ?_ GE170.out) | exact HB.out)⟩⟩
       ·rw [if_neg c51] at H
        have c51b0 : decide (t184 < 0) = false := decide_eq_false c51
        clear c51
        (first | rw [c51b0] | (simp only [i64_w, i32_w]; rw [c51b0]) | skip)
        replace H := Option.bind_eq_some_iff.mp H
        obtain ⟨t187, A520, H⟩ := H
        replace H : (if t187 = true then (if (t174 != t162) = true then (laws_FnExactShortestCycle.j1 kj10 t159 t162 t163 t171 true l0_0 l0_1) else (laws_FnExactShortestCycle.j1 kj10 t159 t162 t163 t171 (t175 != t163) l0_0 l0_1)) else (laws_FnExactShortestCycle.j1 kj10 t159 t162 t163 t171 true l0_0 l0_1)) = some r := H
        have A52 := Aside0.mk A520
        clear A520
        by_cases c53 : t187 = true
        ·subst c53
         have H1 : (if (t174 != t162) = true then (laws_FnExactShortestCycle.j1 kj10 t159 t162 t163 t171 true l0_0 l0_1) else (laws_FnExactShortestCycle.j1 kj10 t159 t162 t163 t171 (t175 != t163) l0_0 l0_1)) = some r := by rw [if_pos rfl] at H; exact H
         clear H
         have H := H1
         clear H1
         by_cases c54 : (t174 != t162) = true
         ·rw [if_pos c54] at H
          have c54b0 : (t174 != t162) = true := c54
          (try (have c54b1 : decide (t174 = t162) = false := by simpa using c54))
          (try (have c54b2 : (t174 == t162) = false := by simpa using c54))
          (try (have c54b3 : ¬ (t174 = t162) := by simpa using c54))
          clear c54
          have H' := Aside0.mk H
          clear H
          obtain ⟨Ao55, co55, eo55⟩ := Kd.R_slice HO_8.out
          subst eo55
          obtain ⟨Ao56, co56, eo56⟩ := Kd.R_slice HO_4.out
          subst eo56
          go_wp2_with (first | (go_at_call 19; (with_reducible refine (laws_eqIntS.calls kj10 _ _ t171 _ _ t159 true _ ?side1 ?side2 ?side3 ?side4 A52.out).mono ?_); (case side1 => exact cz_ (Kd.R_reads' HO_8.out).2.2); (case side2 => exact (Kd.R_reads' HO_8.out).2.1); (case side3 => exact cz_ (Kd.R_reads' HO_4.out).2.2); (case side4 => exact (Kd.R_reads' HO_4.out).2.1); rintro e w' ⟨rfl, ⟨nd, rfl⟩⟩))
          go_meet
          case rel => exact ⟨_, (true), (by first | rfl | (simp; done) | (simp [*]; done)), H', ⟨by have := HJ10.out; first | omega | exact Nat.le_refl _⟩, ⟨rz_ HO_4.out⟩, ⟨rz_ HO_8.out⟩, ⟨rz_ (Kd.R_mono HO_171000.out (fun _ hk => trivial))⟩, ⟨rz_ (Kd.R_mono HO_171001.out (fun _ hk => trivial))⟩, ⟨bz_ BK151.out⟩, ⟨bz_ BK170.out⟩, ⟨by repeat (first | (with_reducible first | exact HB.out | apply below_alloc | apply pw_below_drewN | apply below_drew1 | refine below_set ?_ GE151.out | refine below_set ?_ GE170.out) | exact HB.out)⟩⟩
         ·rw [if_neg c54] at H
          have c54b0 : (t174 != t162) = false := by simpa using c54
          (try (have c54b1 : decide (t174 = t162) = true := by simpa using c54))
          (try (have c54b2 : (t174 == t162) = true := by simpa using c54))
          clear c54
          have H' := Aside0.mk H
          clear H
          obtain ⟨Ao57, co57, eo57⟩ := Kd.R_slice HO_8.out
          subst eo57
          obtain ⟨Ao58, co58, eo58⟩ := Kd.R_slice HO_4.out
          subst eo58
          go_wp2_with (first | (go_at_call 19; (with_reducible refine (laws_eqIntS.calls kj10 _ _ t171 _ _ t159 true _ ?side1 ?side2 ?side3 ?side4 A52.out).mono ?_); (case side1 => exact cz_ (Kd.R_reads' HO_8.out).2.2); (case side2 => exact (Kd.R_reads' HO_8.out).2.1); (case side3 => exact cz_ (Kd.R_reads' HO_4.out).2.2); (case side4 => exact (Kd.R_reads' HO_4.out).2.1); rintro e w' ⟨rfl, ⟨nd, rfl⟩⟩))
          go_meet
          case rel => exact ⟨_, ((t175 != t163)), (by first | rfl | (simp; done) | (simp [*]; done)), H', ⟨by have := HJ10.out; first | omega | exact Nat.le_refl _⟩, ⟨rz_ HO_4.out⟩, ⟨rz_ HO_8.out⟩, ⟨rz_ (Kd.R_mono HO_171000.out (fun _ hk => trivial))⟩, ⟨rz_ (Kd.R_mono HO_171001.out (fun _ hk => trivial))⟩, ⟨bz_ BK151.out⟩, ⟨bz_ BK170.out⟩, ⟨by repeat (first | (with_reducible first | exact HB.out | apply below_alloc | apply pw_below_drewN | apply below_drew1 | refine below_set ?_ GE151.out | refine below_set ?_ GE170.out) | exact HB.out)⟩⟩
        ·replace c53 := Bool.eq_false_iff.mpr c53
         subst c53
         have H1 : (laws_FnExactShortestCycle.j1 kj10 t159 t162 t163 t171 true l0_0 l0_1) = some r := by rw [if_neg (show ¬ (false = true) by decide)] at H; exact H
         clear H
         have H := H1
         clear H1
         have H' := Aside0.mk H
         clear H
         obtain ⟨Ao59, co59, eo59⟩ := Kd.R_slice HO_8.out
         subst eo59
         obtain ⟨Ao60, co60, eo60⟩ := Kd.R_slice HO_4.out
         subst eo60
         go_wp2_with (first | (go_at_call 19; (with_reducible refine (laws_eqIntS.calls kj10 _ _ t171 _ _ t159 false _ ?side1 ?side2 ?side3 ?side4 A52.out).mono ?_); (case side1 => exact cz_ (Kd.R_reads' HO_8.out).2.2); (case side2 => exact (Kd.R_reads' HO_8.out).2.1); (case side3 => exact cz_ (Kd.R_reads' HO_4.out).2.2); (case side4 => exact (Kd.R_reads' HO_4.out).2.1); rintro e w' ⟨rfl, ⟨nd, rfl⟩⟩))
         go_meet
         case rel => exact ⟨_, (true), (by first | rfl | (simp; done) | (simp [*]; done)), H', ⟨by have := HJ10.out; first | omega | exact Nat.le_refl _⟩, ⟨rz_ HO_4.out⟩, ⟨rz_ HO_8.out⟩, ⟨rz_ (Kd.R_mono HO_171000.out (fun _ hk => trivial))⟩, ⟨rz_ (Kd.R_mono HO_171001.out (fun _ hk => trivial))⟩, ⟨bz_ BK151.out⟩, ⟨bz_ BK170.out⟩, ⟨by repeat (first | (with_reducible first | exact HB.out | apply below_alloc | apply pw_below_drewN | apply below_drew1 | refine below_set ?_ GE151.out | refine below_set ?_ GE170.out) | exact HB.out)⟩⟩
      case rest =>
       clear HC42
       try clear c1
       try clear c2
       try clear p2
       try clear c3
       try clear c3b0
       try clear c4
       try clear c5
       try clear c6
       try clear c15
       try clear c17
       try clear c19
       try clear c20
       try clear c21
       try clear c24
       try clear c29
       try clear c30
       try clear c30b0
       try clear c30b1
       try clear c30b2
       try clear c32
       try clear c33
       try clear c37
       try clear c40
       try clear c48
       try clear c51
       try clear c51b0
       try clear c53
       try clear c54
       try clear c54b0
       try clear c54b1
       try clear c54b2
       try clear hcz13_0
       try clear hcz13_1
       try clear hcz15_0
       try clear hcz15_1
       try clear hcz20_0
       try clear hcz20_1
       try clear hcz25_0
       try clear hcz25_1
       try clear hcz49_0
       try clear hcz49_1
       try clear hcz5_0
       try clear hcz5_1
       try clear hfz13_0
       try clear hfz13_1
       try clear hfz15_0
       try clear hfz15_1
       try clear hfz20_0
       try clear hfz20_1
       try clear hfz25_0
       try clear hfz25_1
       try clear hfz49_0
       try clear hfz49_1
       try clear hfz5_0
       try clear hfz5_1
       try clear p2
       obtain ⟨kq, x76_41, rfl, HA, HJ41, HO_4, HO_8, HO_171000, HO_171001, BK151, BK170, HB⟩ := hcut
       have hl171000_41 := (Kd.R_reads' HO_171000.out).1
       rw [hl171000_41] at HO_171000
       (try simp only [hl171000_41])
       (try simp only [hl171000_41] at BK151)
       (try simp only [hl171000_41] at BK170)
       (try simp only [hl171000_41] at HO_4)
       (try simp only [hl171000_41] at HO_8)
       (try simp only [hl171000_41] at HO_171001)
       have hl171001_41 := (Kd.R_reads' HO_171001.out).1
       rw [hl171001_41] at HO_171001
       (try simp only [hl171001_41])
       (try simp only [hl171001_41] at BK151)
       (try simp only [hl171001_41] at BK170)
       (try simp only [hl171001_41] at HO_4)
       (try simp only [hl171001_41] at HO_8)
       (try simp only [hl171001_41] at HO_171000)
       cases kq with
       | zero => exact absurd HA.out (by simp [laws_FnExactShortestCycle.j1])
       | succ kj41 =>
        have H := HA.out
        clear HA
        simp only [laws_FnExactShortestCycle.j1] at H
        by_cases c61 : x76_41 = true
        ·subst c61
         have H1 : (some false) = some r := by rw [if_pos rfl] at H; exact H
         clear H
         have H := H1
         clear H1
         obtain rfl := Option.some.inj H
         go_wp2
         go_ret
         exact ⟨by first | rfl | (simp [errW_none, errW_some] <;> rfl) | (simp [*, errW_none, errW_some] <;> rfl), by repeat (first | (with_reducible first | exact HB.out | apply below_alloc | apply pw_below_drewN | apply below_drew1 | refine below_set ?_ GE151.out | refine below_set ?_ GE170.out) | exact HB.out)⟩
        ·replace c61 := Bool.eq_false_iff.mpr c61
         subst c61
         have H1 : ((laws_markIntS.f kj41 t171 1).bind fun bt188 => ((laws_heldIntS.f kj41 bt188.2 1).bind fun t190 => (if t190 < 0 then (some false) else (if t190 = bt188.1 then ((laws_toRecord.f kj41 l0_0 l0_1).bind fun bt191 => ((impl_ShortestCycle.f bt191.1 bt191.2).bind fun bt197 => ((laws_eqIntS.f kj41 bt197.1 t159).bind fun t202 => (if t202 = true then (if (bt197.2.1 != t162) = true then (laws_FnExactShortestCycle.j2 kj41 bt188.2 bt188.1 true) else (laws_FnExactShortestCycle.j2 kj41 bt188.2 bt188.1 (bt197.2.2 != t163))) else (laws_FnExactShortestCycle.j2 kj41 bt188.2 bt188.1 true))))) else (some false))))) = some r := by rw [if_neg (show ¬ (false = true) by decide)] at H; exact H
         clear H
         have H := H1
         clear H1
         replace H := Option.bind_eq_some_iff.mp H
         obtain ⟨⟨t188, t189⟩, A620, H⟩ := H
         replace H : ((laws_heldIntS.f kj41 t189 1).bind fun t190 => (if t190 < 0 then (some false) else (if t190 = t188 then ((laws_toRecord.f kj41 l0_0 l0_1).bind fun bt191 => ((impl_ShortestCycle.f bt191.1 bt191.2).bind fun bt197 => ((laws_eqIntS.f kj41 bt197.1 t159).bind fun t202 => (if t202 = true then (if (bt197.2.1 != t162) = true then (laws_FnExactShortestCycle.j2 kj41 t189 t188 true) else (laws_FnExactShortestCycle.j2 kj41 t189 t188 (bt197.2.2 != t163))) else (laws_FnExactShortestCycle.j2 kj41 t189 t188 true))))) else (some false)))) = some r := H
         have A62 := Aside0.mk A620
         clear A620
         replace H := Option.bind_eq_some_iff.mp H
         obtain ⟨t190, A630, H⟩ := H
         replace H : (if t190 < 0 then (some false) else (if t190 = t188 then ((laws_toRecord.f kj41 l0_0 l0_1).bind fun bt191 => ((impl_ShortestCycle.f bt191.1 bt191.2).bind fun bt197 => ((laws_eqIntS.f kj41 bt197.1 t159).bind fun t202 => (if t202 = true then (if (bt197.2.1 != t162) = true then (laws_FnExactShortestCycle.j2 kj41 t189 t188 true) else (laws_FnExactShortestCycle.j2 kj41 t189 t188 (bt197.2.2 != t163))) else (laws_FnExactShortestCycle.j2 kj41 t189 t188 true))))) else (some false))) = some r := H
         have A63 := Aside0.mk A630
         clear A630
         by_cases c64 : t190 < 0
         ·rw [if_pos c64] at H
          have c64b0 : decide (t190 < 0) = true := decide_eq_true c64
          clear c64
          obtain rfl := Option.some.inj H
          obtain ⟨Ao65, co65, eo65⟩ := Kd.R_slice HO_8.out
          subst eo65
          go_wp2_with (first | ((with_reducible refine gate_callee (f := 22) rfl ?_); refine goesL_ (some 79) rfl rfl Try.func22 (by kernel_rfl) rfl #[.slice Ao65 t171.length co65, .int .i64 1] rfl (by (try simp only [List.map_toArray, List.map_cons, List.map_nil]); first | done | rfl | (simp only [List.length_drop, List.length_take]; rfl)) ?_; (with_reducible refine (laws_markIntS.calls kj41 (fun k_ => some k_ = (.slice Ao65 t171.length co65 : Value).ownBlock) (.slice Ao65 t171.length co65) t171 1 t188 t189 w _ ?side1 ?side2 A62.out).mono ?_); (case side1 => repeat (first | (with_reducible first | exact HB.out | apply below_alloc | apply pw_below_drewN | apply below_drew1 | refine below_set ?_ GE151.out | refine below_set ?_ GE170.out) | exact HB.out)); (case side2 => exact Kd.R_tight rfl HO_8.out); rintro e w66 ⟨rfl, hy0, hb, hkp⟩; refine ⟨_, rfl, ?_⟩; have n0_ := Aside0.mk (Kd.R_mono (ok' := fun k_ => some k_ ≠ (.slice Ao65 t171.length co65 : Value).ownBlock) (Kd.R_keptB (HO_4.out) hkp (fun k_ hk_ hs_ => (hk_) hs_)) (fun k_ hk_ => hk_.1)); have n1_ := Aside0.mk (Kd.R_reok rfl hy0 (fun k_ e_ => HO_8.out.1 k_ e_)); have n2_ := Aside0.mk (Kd.R_mono (ok' := fun k_ => True) (Kd.R_keptB ((Kd.R_apart' HO_171000.out (Kd.R_typed HO_8.out) (by decide))) hkp (fun k_ hk_ hs_ => (hk_.2) hs_)) (fun k_ hk_ => trivial)); have n3_ := Aside0.mk (Kd.R_mono (ok' := fun k_ => True) (Kd.R_keptB ((Kd.R_apart' HO_171001.out (Kd.R_typed HO_8.out) (by decide))) hkp (fun k_ hk_ hs_ => (hk_.2) hs_)) (fun k_ hk_ => trivial)); have n4_ := Aside0.mk (blk_kept (bz_ BK151.out) hkp (fun hs_ => (fun e_ => (Kd.R_ne HO_8.out BK151.out (by decide)) e_) hs_)); have n5_ := Aside0.mk (blk_kept (bz_ BK170.out) hkp (fun hs_ => (fun e_ => (Kd.R_ne HO_8.out BK170.out (by decide)) e_) hs_)); have n6_ := Aside0.mk (hb); clear HO_4; clear HO_8; clear HO_171000; clear HO_171001; clear BK151; clear BK170; clear HB; have HO_4 := n0_; have HO_8 := n1_; have HO_171000 := n2_; have HO_171001 := n3_; have BK151 := n4_; have BK170 := n5_; have HB := n6_; clear n0_ n1_ n2_ n3_ n4_ n5_ n6_; (try clear hb); (try clear hkp); (try clear hy0)) | ((with_reducible refine gate_callee (f := 23) rfl ?_); refine goesL_ (some 82) rfl rfl Try.func23 (by kernel_rfl) rfl #[.slice Ao65 t189.length co65, .int .i64 1] rfl (by (try simp only [List.map_toArray, List.map_cons, List.map_nil]); first | done | (rw [show t189.length = t171.length from (Kd.R_reads' HO_8.out).1.symm] <;> rfl) | rfl | (simp only [List.length_drop, List.length_take]; rfl)) ?_; (with_reducible refine (laws_heldIntS.calls kj41 _ _ t189 1 t190 _ ?side1 ?side2 A63.out).mono ?_); (case side1 => exact cz_ (Kd.R_reads' HO_8.out).2.2); (case side2 => rw [show t189.length = t171.length from (Kd.R_reads' HO_8.out).1.symm]; exact (Kd.R_reads' HO_8.out).2.1); rintro e w' ⟨rfl, ⟨nd, rfl⟩⟩; refine ⟨_, rfl, ?_⟩))
          go_ret
          exact ⟨by first | rfl | (simp [errW_none, errW_some] <;> rfl) | (simp [*, errW_none, errW_some] <;> rfl), by repeat (first | (with_reducible first | exact HB.out | apply below_alloc | apply pw_below_drewN | apply below_drew1 | refine below_set ?_ GE151.out | refine below_set ?_ GE170.out) | exact HB.out)⟩
         ·rw [if_neg c64] at H
          have c64b0 : decide (t190 < 0) = false := decide_eq_false c64
          clear c64
          by_cases c67 : t190 = t188
          ·rw [if_pos c67] at H
           have c67b0 : (t190 == t188) = true := beq_iff_eq.mpr c67
           have c67b1 : (t190 != t188) = false := bne_eq_false_iff_eq.mpr c67
           clear c67
           replace H := Option.bind_eq_some_iff.mp H
           obtain ⟨⟨t191, t194⟩, A680, H⟩ := H
           replace H : ((impl_ShortestCycle.f t191 t194).bind fun bt197 => ((laws_eqIntS.f kj41 bt197.1 t159).bind fun t202 => (if t202 = true then (if (bt197.2.1 != t162) = true then (laws_FnExactShortestCycle.j2 kj41 t189 t188 true) else (laws_FnExactShortestCycle.j2 kj41 t189 t188 (bt197.2.2 != t163))) else (laws_FnExactShortestCycle.j2 kj41 t189 t188 true)))) = some r := H
           have A68 := Aside0.mk A680
           clear A680
           replace H := Option.bind_eq_some_iff.mp H
           obtain ⟨⟨t197, t200, t201⟩, A690, H⟩ := H
           replace H : ((laws_eqIntS.f kj41 t197 t159).bind fun t202 => (if t202 = true then (if (t200 != t162) = true then (laws_FnExactShortestCycle.j2 kj41 t189 t188 true) else (laws_FnExactShortestCycle.j2 kj41 t189 t188 (t201 != t163))) else (laws_FnExactShortestCycle.j2 kj41 t189 t188 true))) = some r := H
           have A69 := Aside0.mk A690
           clear A690
           have HC70 := Aside0.mk H
           clear H
           obtain ⟨Ao71, co71, eo71⟩ := Kd.R_slice HO_8.out
           subst eo71
           go_upto_region 25 with (first | ((with_reducible refine gate_callee (f := 22) rfl ?_); refine goesL_ (some 79) rfl rfl Try.func22 (by kernel_rfl) rfl #[.slice Ao71 t171.length co71, .int .i64 1] rfl (by (try simp only [List.map_toArray, List.map_cons, List.map_nil]); first | done | rfl | (simp only [List.length_drop, List.length_take]; rfl)) ?_; (with_reducible refine (laws_markIntS.calls kj41 (fun k_ => some k_ = (.slice Ao71 t171.length co71 : Value).ownBlock) (.slice Ao71 t171.length co71) t171 1 t188 t189 w _ ?side1 ?side2 A62.out).mono ?_); (case side1 => repeat (first | (with_reducible first | exact HB.out | apply below_alloc | apply pw_below_drewN | apply below_drew1 | refine below_set ?_ GE151.out | refine below_set ?_ GE170.out) | exact HB.out)); (case side2 => exact Kd.R_tight rfl HO_8.out); rintro e w72 ⟨rfl, hy0, hb, hkp⟩; refine ⟨_, rfl, ?_⟩; have n0_ := Aside0.mk (Kd.R_mono (ok' := fun k_ => some k_ ≠ (.slice Ao71 t171.length co71 : Value).ownBlock) (Kd.R_keptB (HO_4.out) hkp (fun k_ hk_ hs_ => (hk_) hs_)) (fun k_ hk_ => hk_.1)); have n1_ := Aside0.mk (Kd.R_reok rfl hy0 (fun k_ e_ => HO_8.out.1 k_ e_)); have n2_ := Aside0.mk (Kd.R_mono (ok' := fun k_ => True) (Kd.R_keptB ((Kd.R_apart' HO_171000.out (Kd.R_typed HO_8.out) (by decide))) hkp (fun k_ hk_ hs_ => (hk_.2) hs_)) (fun k_ hk_ => trivial)); have n3_ := Aside0.mk (Kd.R_mono (ok' := fun k_ => True) (Kd.R_keptB ((Kd.R_apart' HO_171001.out (Kd.R_typed HO_8.out) (by decide))) hkp (fun k_ hk_ hs_ => (hk_.2) hs_)) (fun k_ hk_ => trivial)); have n4_ := Aside0.mk (blk_kept (bz_ BK151.out) hkp (fun hs_ => (fun e_ => (Kd.R_ne HO_8.out BK151.out (by decide)) e_) hs_)); have n5_ := Aside0.mk (blk_kept (bz_ BK170.out) hkp (fun hs_ => (fun e_ => (Kd.R_ne HO_8.out BK170.out (by decide)) e_) hs_)); have n6_ := Aside0.mk (hb); clear HO_4; clear HO_8; clear HO_171000; clear HO_171001; clear BK151; clear BK170; clear HB; have HO_4 := n0_; have HO_8 := n1_; have HO_171000 := n2_; have HO_171001 := n3_; have BK151 := n4_; have BK170 := n5_; have HB := n6_; clear n0_ n1_ n2_ n3_ n4_ n5_ n6_; (try clear hb); (try clear hkp); (try clear hy0)) | ((with_reducible refine gate_callee (f := 23) rfl ?_); refine goesL_ (some 82) rfl rfl Try.func23 (by kernel_rfl) rfl #[.slice Ao71 t189.length co71, .int .i64 1] rfl (by (try simp only [List.map_toArray, List.map_cons, List.map_nil]); first | done | (rw [show t189.length = t171.length from (Kd.R_reads' HO_8.out).1.symm] <;> rfl) | rfl | (simp only [List.length_drop, List.length_take]; rfl)) ?_; (with_reducible refine (laws_heldIntS.calls kj41 _ _ t189 1 t190 _ ?side1 ?side2 A63.out).mono ?_); (case side1 => exact cz_ (Kd.R_reads' HO_8.out).2.2); (case side2 => rw [show t189.length = t171.length from (Kd.R_reads' HO_8.out).1.symm]; exact (Kd.R_reads' HO_8.out).2.1); rintro e w' ⟨rfl, ⟨nd, rfl⟩⟩; refine ⟨_, rfl, ?_⟩; have hnb73 := NB151_170.out; have hnc73 := NB170_151.out; have hcz74_0 : w72.cell? ⟨gb151, 0, none⟩ = some (.slice A0_0 l0_0.length c0_0) := (blk_cell BK151.out 0).trans rfl; have hcz74_1 : w72.cell? ⟨gb151, 1, none⟩ = some (.slice A0_1 l0_1.length c0_1) := (blk_cell BK151.out 1).trans rfl; have hfz74_0 := blk_frozen BK151.out 0; have hfz74_1 := blk_frozen BK151.out 1) | ((with_reducible refine gate_callee (f := 17) rfl ?_); refine goesL_ (some 90) rfl rfl Try.func17 (by kernel_rfl) rfl #[.agg #[.slice A0_0 l0_0.length c0_0, .slice A0_1 l0_1.length c0_1]] rfl (by (try simp only [List.map_toArray, List.map_cons, List.map_nil]); first | done | rfl | (simp only [List.length_drop, List.length_take]; rfl)) ?_; (with_reducible refine (laws_toRecord.calls kj41 _ _ l0_0 _ _ l0_1 t191 t194 _ ?side1 ?side2 ?side3 ?side4 A68.out).mono ?_); (case side1 => repeat (first | exact (Kd.C_below HR0_0.out (by repeat (first | (with_reducible first | exact HB.out | apply below_alloc | apply pw_below_drewN | apply below_drew1 | refine below_set ?_ GE151.out | refine below_set ?_ GE170.out) | exact HB.out))) | (with_reducible refine Kd.C_alloc ?_ _) | (with_reducible refine Kd.C_drewN ?_ _) | (with_reducible refine Kd.C_drew ?_))); (case side2 => exact HC0_0.out); (case side3 => repeat (first | exact (Kd.C_below HR0_1.out (by repeat (first | (with_reducible first | exact HB.out | apply below_alloc | apply pw_below_drewN | apply below_drew1 | refine below_set ?_ GE151.out | refine below_set ?_ GE170.out) | exact HB.out))) | (with_reducible refine Kd.C_alloc ?_ _) | (with_reducible refine Kd.C_drewN ?_ _) | (with_reducible refine Kd.C_drew ?_))); (case side4 => exact HC0_1.out); rintro e w75 ⟨v192, v195, rfl, ho0, ho1, hb⟩; refine ⟨_, rfl, ?_⟩; have n0_ := Aside0.mk (Kd.R_below (rz_ HO_4.out) hb); have n1_ := Aside0.mk (Kd.R_below (rz_ HO_8.out) hb); have n2_ := Aside0.mk (Kd.R_elder' (rz_ HO_171000.out) (Kd.R_base ho0) hb); have n3_ := Aside0.mk (Kd.R_elder' (rz_ HO_171001.out) (Kd.R_base ho1) hb); have n4_ := Aside0.mk (Kd.R_lower (Kd.R_new' ho0 (Kd.R_lt (rz_ HO_171000.out))) (below_size (by repeat (first | (with_reducible first | exact HB.out | apply below_alloc | apply pw_below_drewN | apply below_drew1 | refine below_set ?_ GE151.out | refine below_set ?_ GE170.out) | exact HB.out)))); have n5_ := Aside0.mk (Kd.R_lower (Kd.R_new' ho1 (Kd.R_lt (rz_ HO_171001.out))) (below_size (by repeat (first | (with_reducible first | exact HB.out | apply below_alloc | apply pw_below_drewN | apply below_drew1 | refine below_set ?_ GE151.out | refine below_set ?_ GE170.out) | exact HB.out)))); have n6_ := Aside0.mk (blk_below (bz_ BK151.out) hb); have n7_ := Aside0.mk (blk_below (bz_ BK170.out) hb); have n8_ := Aside0.mk (below_step (by repeat (first | (with_reducible first | exact HB.out | apply below_alloc | apply pw_below_drewN | apply below_drew1 | refine below_set ?_ GE151.out | refine below_set ?_ GE170.out) | exact HB.out)) hb); clear HO_4; clear HO_8; clear HO_171000; clear HO_171001; clear BK151; clear BK170; clear HB; have HO_4 := n0_; have HO_8 := n1_; have HO_171000 := n2_; have HO_171001 := n3_; have HO193 := n4_; have HO196 := n5_; have BK151 := n6_; have BK170 := n7_; have HB := n8_; clear n0_ n1_ n2_ n3_ n4_ n5_ n6_ n7_ n8_; (try clear hb); (try clear hb2); (try clear hk); (try clear hi); (try clear ho0); (try clear ho1); obtain ⟨Ao76, co76, eo76⟩ := Kd.R_slice HO193.out; subst eo76; obtain ⟨Ao77, co77, eo77⟩ := Kd.R_slice HO196.out; subst eo77) | ((with_reducible refine gate_callee (f := 33) rfl ?_); refine goesL_ (some 91) rfl rfl Try.func33 (by kernel_rfl) rfl #[.agg #[.slice Ao76 t191.length co76, .slice Ao77 t194.length co77]] rfl (by (try simp only [List.map_toArray, List.map_cons, List.map_nil]); first | done | rfl | (simp only [List.length_drop, List.length_take]; rfl)) ?_; (with_reducible refine (impl_ShortestCycle.calls _ _ t191 _ _ t194 t197 t200 t201 _ ?side1 ?side2 ?side3 ?side4 A69.out).mono ?_); (case side1 => exact cz_ (Kd.R_reads' HO193.out).2.2); (case side2 => exact (Kd.R_reads' HO193.out).2.1); (case side3 => exact cz_ (Kd.R_reads' HO196.out).2.2); (case side4 => exact (Kd.R_reads' HO196.out).2.1); rintro e w78 ⟨v198, rfl, ho0, hb⟩; refine ⟨_, rfl, ?_⟩; have n0_ := Aside0.mk (Kd.R_elder' (rz_ HO_4.out) (Kd.R_base ho0) hb); have n1_ := Aside0.mk (Kd.R_elder' (rz_ HO_8.out) (Kd.R_base ho0) hb); have n2_ := Aside0.mk (Kd.R_below (rz_ HO_171000.out) hb); have n3_ := Aside0.mk (Kd.R_below (rz_ HO_171001.out) hb); have n4_ := Aside0.mk (Kd.R_below (rz_ HO193.out) hb); have n5_ := Aside0.mk (Kd.R_below (rz_ HO196.out) hb); have n6_ := Aside0.mk (Kd.R_lower (Kd.R_new' (Kd.R_new' ho0 (Kd.R_lt (rz_ HO_4.out))) (Kd.R_lt (rz_ HO_8.out))) (below_size (by repeat (first | (with_reducible first | exact HB.out | apply below_alloc | apply pw_below_drewN | apply below_drew1 | refine below_set ?_ GE151.out | refine below_set ?_ GE170.out) | exact HB.out)))); have n7_ := Aside0.mk (blk_below (bz_ BK151.out) hb); have n8_ := Aside0.mk (blk_below (bz_ BK170.out) hb); have n9_ := Aside0.mk (below_step (by repeat (first | (with_reducible first | exact HB.out | apply below_alloc | apply pw_below_drewN | apply below_drew1 | refine below_set ?_ GE151.out | refine below_set ?_ GE170.out) | exact HB.out)) hb); clear HO_4; clear HO_8; clear HO_171000; clear HO_171001; clear HO193; clear HO196; clear BK151; clear BK170; clear HB; have HO_4 := n0_; have HO_8 := n1_; have HO_171000 := n2_; have HO_171001 := n3_; have HO193 := n4_; have HO196 := n5_; have HO199 := n6_; have BK151 := n7_; have BK170 := n8_; have HB := n9_; clear n0_ n1_ n2_ n3_ n4_ n5_ n6_ n7_ n8_ n9_; (try clear hb); (try clear hb2); (try clear hk); (try clear hi); (try clear ho0)))
           (try simp only [Act.put, List.setIfInBounds_toArray, List.set_cons_zero, List.set_cons_succ])
           go_cut [108] (fun v108 wc => ∃ (kq : Nat) (x108_69 : Bool), v108 = .bool x108_69 ∧ Aside0 (laws_FnExactShortestCycle.j2 kq t189 t188 x108_69 = some r) ∧ Aside0 (kq ≤ kj41) ∧ Aside0 (Kd.R (Kd.int .i64) 3 wc w.heap.size (fun _ => True) (.slice Ao71 t171.length co71) t189) ∧ Aside0 (Kd.R k86 86 wc w.heap.size (fun _ => True) (.slice Ao23 t185.length co23) t185) ∧ Aside0 (Kd.R k95 95 wc w.heap.size (fun _ => True) (.slice Ao26 t186.length co26) t186) ∧ Aside0 (wc.heap[gb151]? = some (.cells #[(.slice A0_0 l0_0.length c0_0), (.slice A0_1 l0_1.length c0_1)] 25 (0, 0))) ∧ Aside0 (wc.heap[gb170]? = some (.cells #[(.slice Ao23 t185.length co23), (.slice Ao26 t186.length co26)] 33 (0, 0))) ∧ Aside0 (Below w.heap.size w wc))
           case first =>
            have H := HC70.out
            clear HC70
            replace H := Option.bind_eq_some_iff.mp H
            obtain ⟨t202, A790, H⟩ := H
            replace H : (if t202 = true then (if (t200 != t162) = true then (laws_FnExactShortestCycle.j2 kj41 t189 t188 true) else (laws_FnExactShortestCycle.j2 kj41 t189 t188 (t201 != t163))) else (laws_FnExactShortestCycle.j2 kj41 t189 t188 true)) = some r := H
            have A79 := Aside0.mk A790
            clear A790
            by_cases c80 : t202 = true
            ·subst c80
             have H1 : (if (t200 != t162) = true then (laws_FnExactShortestCycle.j2 kj41 t189 t188 true) else (laws_FnExactShortestCycle.j2 kj41 t189 t188 (t201 != t163))) = some r := by rw [if_pos rfl] at H; exact H
             clear H
             have H := H1
             clear H1
             by_cases c81 : (t200 != t162) = true
             ·rw [if_pos c81] at H
              have c81b0 : (t200 != t162) = true := c81
              (try (have c81b1 : decide (t200 = t162) = false := by simpa using c81))
              (try (have c81b2 : (t200 == t162) = false := by simpa using c81))
              (try (have c81b3 : ¬ (t200 = t162) := by simpa using c81))
              clear c81
              (first | rw [c81b0] | (simp only [i64_w, i32_w]; rw [c81b0]) | skip)
              have H' := Aside0.mk H
              clear H
              obtain ⟨Ao82, co82, eo82⟩ := Kd.R_slice HO199.out
              subst eo82
              obtain ⟨Ao83, co83, eo83⟩ := Kd.R_slice HO_4.out
              subst eo83
              go_wp2_with (first | ((with_reducible refine gate_callee (f := 19) rfl ?_); refine goesL_ (some 97) rfl rfl Try.func19 (by kernel_rfl) rfl #[.slice Ao82 t197.length co82, .slice Ao83 t159.length co83] rfl (by (try simp only [List.map_toArray, List.map_cons, List.map_nil]); first | done | rfl | (simp only [List.length_drop, List.length_take]; rfl)) ?_; (with_reducible refine (laws_eqIntS.calls kj41 _ _ t197 _ _ t159 true _ ?side1 ?side2 ?side3 ?side4 A79.out).mono ?_); (case side1 => exact cz_ (Kd.R_reads' HO199.out).2.2); (case side2 => exact (Kd.R_reads' HO199.out).2.1); (case side3 => exact cz_ (Kd.R_reads' HO_4.out).2.2); (case side4 => exact (Kd.R_reads' HO_4.out).2.1); rintro e w' ⟨rfl, ⟨nd, rfl⟩⟩; refine ⟨_, rfl, ?_⟩))
              go_meet
              case rel => exact ⟨_, (true), (by first | rfl | (simp; done) | (simp [*]; done)), H', ⟨by have := HJ10.out; have := HJ41.out; first | omega | exact Nat.le_refl _⟩, ⟨by (try simp only [hl171000_41]); (try simp only [hl171001_41]); (with_reducible repeat (first | apply Kd.R_alloc | apply Kd.R_drewN | apply Kd.R_drew)); exact Kd.R_mono HO_8.out (fun _ hk => trivial)⟩, ⟨by (try simp only [hl171000_41]); (try simp only [hl171001_41]); (with_reducible repeat (first | apply Kd.R_alloc | apply Kd.R_drewN | apply Kd.R_drew)); exact Kd.R_mono HO_171000.out (fun _ hk => trivial)⟩, ⟨by (try simp only [hl171000_41]); (try simp only [hl171001_41]); (with_reducible repeat (first | apply Kd.R_alloc | apply Kd.R_drewN | apply Kd.R_drew)); exact Kd.R_mono HO_171001.out (fun _ hk => trivial)⟩, ⟨by (try simp only [hl171000_41]); (try simp only [hl171001_41]); (with_reducible repeat (first | refine blk_drewN ?_ _ | refine blk_drew ?_ | refine blk_alloc ?_ _)); exact BK151.out⟩, ⟨by (try simp only [hl171000_41]); (try simp only [hl171001_41]); (with_reducible repeat (first | refine blk_drewN ?_ _ | refine blk_drew ?_ | refine blk_alloc ?_ _)); exact BK170.out⟩, ⟨by repeat (first | (with_reducible first | exact HB.out | apply below_alloc | apply pw_below_drewN | apply below_drew1 | refine below_set ?_ GE151.out | refine below_set ?_ GE170.out) | exact HB.out)⟩⟩
             ·rw [if_neg c81] at H
              have c81b0 : (t200 != t162) = false := by simpa using c81
              (try (have c81b1 : decide (t200 = t162) = true := by simpa using c81))
              (try (have c81b2 : (t200 == t162) = true := by simpa using c81))
              clear c81
              (first | rw [c81b0] | (simp only [i64_w, i32_w]; rw [c81b0]) | skip)
              have H' := Aside0.mk H
              clear H
              obtain ⟨Ao84, co84, eo84⟩ := Kd.R_slice HO199.out
              subst eo84
              obtain ⟨Ao85, co85, eo85⟩ := Kd.R_slice HO_4.out
              subst eo85
              go_wp2_with (first | ((with_reducible refine gate_callee (f := 19) rfl ?_); refine goesL_ (some 97) rfl rfl Try.func19 (by kernel_rfl) rfl #[.slice Ao84 t197.length co84, .slice Ao85 t159.length co85] rfl (by (try simp only [List.map_toArray, List.map_cons, List.map_nil]); first | done | rfl | (simp only [List.length_drop, List.length_take]; rfl)) ?_; (with_reducible refine (laws_eqIntS.calls kj41 _ _ t197 _ _ t159 true _ ?side1 ?side2 ?side3 ?side4 A79.out).mono ?_); (case side1 => exact cz_ (Kd.R_reads' HO199.out).2.2); (case side2 => exact (Kd.R_reads' HO199.out).2.1); (case side3 => exact cz_ (Kd.R_reads' HO_4.out).2.2); (case side4 => exact (Kd.R_reads' HO_4.out).2.1); rintro e w' ⟨rfl, ⟨nd, rfl⟩⟩; refine ⟨_, rfl, ?_⟩))
              go_meet
              case rel => exact ⟨_, ((t201 != t163)), (by first | rfl | (simp; done) | (simp [*]; done)), H', ⟨by have := HJ10.out; have := HJ41.out; first | omega | exact Nat.le_refl _⟩, ⟨by (try simp only [hl171000_41]); (try simp only [hl171001_41]); (with_reducible repeat (first | apply Kd.R_alloc | apply Kd.R_drewN | apply Kd.R_drew)); exact Kd.R_mono HO_8.out (fun _ hk => trivial)⟩, ⟨by (try simp only [hl171000_41]); (try simp only [hl171001_41]); (with_reducible repeat (first | apply Kd.R_alloc | apply Kd.R_drewN | apply Kd.R_drew)); exact Kd.R_mono HO_171000.out (fun _ hk => trivial)⟩, ⟨by (try simp only [hl171000_41]); (try simp only [hl171001_41]); (with_reducible repeat (first | apply Kd.R_alloc | apply Kd.R_drewN | apply Kd.R_drew)); exact Kd.R_mono HO_171001.out (fun _ hk => trivial)⟩, ⟨by (try simp only [hl171000_41]); (try simp only [hl171001_41]); (with_reducible repeat (first | refine blk_drewN ?_ _ | refine blk_drew ?_ | refine blk_alloc ?_ _)); exact BK151.out⟩, ⟨by (try simp only [hl171000_41]); (try simp only [hl171001_41]); (with_reducible repeat (first | refine blk_drewN ?_ _ | refine blk_drew ?_ | refine blk_alloc ?_ _)); exact BK170.out⟩, ⟨by repeat (first | (with_reducible first | exact HB.out | apply below_alloc | apply pw_below_drewN | apply below_drew1 | refine below_set ?_ GE151.out | refine below_set ?_ GE170.out) | exact HB.out)⟩⟩
            ·replace c80 := Bool.eq_false_iff.mpr c80
             subst c80
             have H1 : (laws_FnExactShortestCycle.j2 kj41 t189 t188 true) = some r := by rw [if_neg (show ¬ (false = true) by decide)] at H; exact H
             clear H
             have H := H1
             clear H1
             have H' := Aside0.mk H
             clear H
             obtain ⟨Ao86, co86, eo86⟩ := Kd.R_slice HO199.out
             subst eo86
             obtain ⟨Ao87, co87, eo87⟩ := Kd.R_slice HO_4.out
             subst eo87
             go_wp2_with (first | ((with_reducible refine gate_callee (f := 19) rfl ?_); refine goesL_ (some 97) rfl rfl Try.func19 (by kernel_rfl) rfl #[.slice Ao86 t197.length co86, .slice Ao87 t159.length co87] rfl (by (try simp only [List.map_toArray, List.map_cons, List.map_nil]); first | done | rfl | (simp only [List.length_drop, List.length_take]; rfl)) ?_; (with_reducible refine (laws_eqIntS.calls kj41 _ _ t197 _ _ t159 false _ ?side1 ?side2 ?side3 ?side4 A79.out).mono ?_); (case side1 => exact cz_ (Kd.R_reads' HO199.out).2.2); (case side2 => exact (Kd.R_reads' HO199.out).2.1); (case side3 => exact cz_ (Kd.R_reads' HO_4.out).2.2); (case side4 => exact (Kd.R_reads' HO_4.out).2.1); rintro e w' ⟨rfl, ⟨nd, rfl⟩⟩; refine ⟨_, rfl, ?_⟩))
             go_meet
             case rel => exact ⟨_, (true), (by first | rfl | (simp; done) | (simp [*]; done)), H', ⟨by have := HJ10.out; have := HJ41.out; first | omega | exact Nat.le_refl _⟩, ⟨by (try simp only [hl171000_41]); (try simp only [hl171001_41]); (with_reducible repeat (first | apply Kd.R_alloc | apply Kd.R_drewN | apply Kd.R_drew)); exact Kd.R_mono HO_8.out (fun _ hk => trivial)⟩, ⟨by (try simp only [hl171000_41]); (try simp only [hl171001_41]); (with_reducible repeat (first | apply Kd.R_alloc | apply Kd.R_drewN | apply Kd.R_drew)); exact Kd.R_mono HO_171000.out (fun _ hk => trivial)⟩, ⟨by (try simp only [hl171000_41]); (try simp only [hl171001_41]); (with_reducible repeat (first | apply Kd.R_alloc | apply Kd.R_drewN | apply Kd.R_drew)); exact Kd.R_mono HO_171001.out (fun _ hk => trivial)⟩, ⟨by (try simp only [hl171000_41]); (try simp only [hl171001_41]); (with_reducible repeat (first | refine blk_drewN ?_ _ | refine blk_drew ?_ | refine blk_alloc ?_ _)); exact BK151.out⟩, ⟨by (try simp only [hl171000_41]); (try simp only [hl171001_41]); (with_reducible repeat (first | refine blk_drewN ?_ _ | refine blk_drew ?_ | refine blk_alloc ?_ _)); exact BK170.out⟩, ⟨by repeat (first | (with_reducible first | exact HB.out | apply below_alloc | apply pw_below_drewN | apply below_drew1 | refine below_set ?_ GE151.out | refine below_set ?_ GE170.out) | exact HB.out)⟩⟩
           case rest =>
            clear HC70
            try clear c1
            try clear c2
            try clear p2
            try clear c3
            try clear c3b0
            try clear c4
            try clear c5
            try clear c6
            try clear c7
            try clear c8
            try clear c15
            try clear c17
            try clear c19
            try clear c20
            try clear c21
            try clear c22
            try clear c23
            try clear c24
            try clear c29
            try clear c30
            try clear c30b0
            try clear c30b1
            try clear c30b2
            try clear c32
            try clear c33
            try clear c37
            try clear c40
            try clear c48
            try clear c51
            try clear c51b0
            try clear c53
            try clear c54
            try clear c54b0
            try clear c54b1
            try clear c54b2
            try clear c61
            try clear c64
            try clear c64b0
            try clear c67
            try clear c67b0
            try clear c67b1
            try clear c73
            try clear c80
            try clear c81
            try clear c81b0
            try clear c81b1
            try clear c81b2
            try clear hcz13_0
            try clear hcz13_1
            try clear hcz15_0
            try clear hcz15_1
            try clear hcz20_0
            try clear hcz20_1
            try clear hcz25_0
            try clear hcz25_1
            try clear hcz49_0
            try clear hcz49_1
            try clear hcz5_0
            try clear hcz5_1
            try clear hcz74_0
            try clear hcz74_1
            try clear hfz13_0
            try clear hfz13_1
            try clear hfz15_0
            try clear hfz15_1
            try clear hfz20_0
            try clear hfz20_1
            try clear hfz25_0
            try clear hfz25_1
            try clear hfz49_0
            try clear hfz49_1
            try clear hfz5_0
            try clear hfz5_1
            try clear hfz74_0
            try clear hfz74_1
            try clear p2
            obtain ⟨kq, x108_69, rfl, HA, HJ69, HO_8, HO_171000, HO_171001, BK151, BK170, HB⟩ := hcut
            have hl8_69 := (Kd.R_reads' HO_8.out).1
            rw [hl8_69] at HO_8
            (try simp only [hl8_69])
            (try simp only [hl8_69] at BK151)
            (try simp only [hl8_69] at BK170)
            (try simp only [hl8_69] at HO_171000)
            (try simp only [hl8_69] at HO_171001)
            cases kq with
            | zero => exact absurd HA.out (by simp [laws_FnExactShortestCycle.j2])
            | succ kj69 =>
             have H := HA.out
             clear HA
             simp only [laws_FnExactShortestCycle.j2] at H
             by_cases c88 : x108_69 = true
             ·subst c88
              have H1 : (some false) = some r := by rw [if_pos rfl] at H; exact H
              clear H
              have H := H1
              clear H1
              obtain rfl := Option.some.inj H
              go_wp2
              go_ret
              exact ⟨by first | rfl | (simp [errW_none, errW_some] <;> rfl) | (simp [*, errW_none, errW_some] <;> rfl), by repeat (first | (with_reducible first | exact HB.out | apply below_alloc | apply pw_below_drewN | apply below_drew1 | refine below_set ?_ GE151.out | refine below_set ?_ GE170.out) | exact HB.out)⟩
             ·replace c88 := Bool.eq_false_iff.mpr c88
              subst c88
              have H1 : ((laws_heldIntS.f kj69 t189 1).bind fun t203 => (if t203 < 0 then (some false) else (if t203 = t188 then (some true) else (some false)))) = some r := by rw [if_neg (show ¬ (false = true) by decide)] at H; exact H
              clear H
              have H := H1
              clear H1
              replace H := Option.bind_eq_some_iff.mp H
              obtain ⟨t203, A890, H⟩ := H
              replace H : (if t203 < 0 then (some false) else (if t203 = t188 then (some true) else (some false))) = some r := H
              have A89 := Aside0.mk A890
              clear A890
              by_cases c90 : t203 < 0
              ·rw [if_pos c90] at H
               have c90b0 : decide (t203 < 0) = true := decide_eq_true c90
               clear c90
               obtain rfl := Option.some.inj H
               go_wp2_with (first | ((with_reducible refine gate_callee (f := 23) rfl ?_); refine goesL_ (some 111) rfl rfl Try.func23 (by kernel_rfl) rfl #[.slice Ao71 t189.length co71, .int .i64 1] rfl (by (try simp only [List.map_toArray, List.map_cons, List.map_nil]); first | done | rfl | (simp only [List.length_drop, List.length_take]; rfl)) ?_; (with_reducible refine (laws_heldIntS.calls kj69 _ _ t189 1 t203 _ ?side1 ?side2 A89.out).mono ?_); (case side1 => exact cz_ (Kd.R_reads' HO_8.out).2.2); (case side2 => exact (Kd.R_reads' HO_8.out).2.1); rintro e w' ⟨rfl, ⟨nd, rfl⟩⟩; refine ⟨_, rfl, ?_⟩))
               go_ret
               exact ⟨by first | rfl | (simp [errW_none, errW_some] <;> rfl) | (simp [*, errW_none, errW_some] <;> rfl), by repeat (first | (with_reducible first | exact HB.out | apply below_alloc | apply pw_below_drewN | apply below_drew1 | refine below_set ?_ GE151.out | refine below_set ?_ GE170.out) | exact HB.out)⟩
              ·rw [if_neg c90] at H
               have c90b0 : decide (t203 < 0) = false := decide_eq_false c90
               clear c90
               by_cases c91 : t203 = t188
               ·rw [if_pos c91] at H
                have c91b0 : (t203 == t188) = true := beq_iff_eq.mpr c91
                have c91b1 : (t203 != t188) = false := bne_eq_false_iff_eq.mpr c91
                clear c91
                obtain rfl := Option.some.inj H
                go_wp2_with (first | ((with_reducible refine gate_callee (f := 23) rfl ?_); refine goesL_ (some 111) rfl rfl Try.func23 (by kernel_rfl) rfl #[.slice Ao71 t189.length co71, .int .i64 1] rfl (by (try simp only [List.map_toArray, List.map_cons, List.map_nil]); first | done | rfl | (simp only [List.length_drop, List.length_take]; rfl)) ?_; (with_reducible refine (laws_heldIntS.calls kj69 _ _ t189 1 t203 _ ?side1 ?side2 A89.out).mono ?_); (case side1 => exact cz_ (Kd.R_reads' HO_8.out).2.2); (case side2 => exact (Kd.R_reads' HO_8.out).2.1); rintro e w' ⟨rfl, ⟨nd, rfl⟩⟩; refine ⟨_, rfl, ?_⟩))
                go_ret
                exact ⟨by first | rfl | (simp [errW_none, errW_some] <;> rfl) | (simp [*, errW_none, errW_some] <;> rfl), by repeat (first | (with_reducible first | exact HB.out | apply below_alloc | apply pw_below_drewN | apply below_drew1 | refine below_set ?_ GE151.out | refine below_set ?_ GE170.out) | exact HB.out)⟩
               ·rw [if_neg c91] at H
                have c91b0 : (t203 == t188) = false := beq_eq_false_iff_ne.mpr c91
                have c91b1 : (t203 != t188) = true := bne_iff_ne.mpr c91
                obtain rfl := Option.some.inj H
                go_wp2_with (first | ((with_reducible refine gate_callee (f := 23) rfl ?_); refine goesL_ (some 111) rfl rfl Try.func23 (by kernel_rfl) rfl #[.slice Ao71 t189.length co71, .int .i64 1] rfl (by (try simp only [List.map_toArray, List.map_cons, List.map_nil]); first | done | rfl | (simp only [List.length_drop, List.length_take]; rfl)) ?_; (with_reducible refine (laws_heldIntS.calls kj69 _ _ t189 1 t203 _ ?side1 ?side2 A89.out).mono ?_); (case side1 => exact cz_ (Kd.R_reads' HO_8.out).2.2); (case side2 => exact (Kd.R_reads' HO_8.out).2.1); rintro e w' ⟨rfl, ⟨nd, rfl⟩⟩; refine ⟨_, rfl, ?_⟩))
                go_ret
                exact ⟨by first | rfl | (simp [errW_none, errW_some] <;> rfl) | (simp [*, errW_none, errW_some] <;> rfl), by repeat (first | (with_reducible first | exact HB.out | apply below_alloc | apply pw_below_drewN | apply below_drew1 | refine below_set ?_ GE151.out | refine below_set ?_ GE170.out) | exact HB.out)⟩
          ·rw [if_neg c67] at H
           have c67b0 : (t190 == t188) = false := beq_eq_false_iff_ne.mpr c67
           have c67b1 : (t190 != t188) = true := bne_iff_ne.mpr c67
           obtain rfl := Option.some.inj H
           obtain ⟨Ao92, co92, eo92⟩ := Kd.R_slice HO_8.out
           subst eo92
           go_wp2_with (first | ((with_reducible refine gate_callee (f := 22) rfl ?_); refine goesL_ (some 79) rfl rfl Try.func22 (by kernel_rfl) rfl #[.slice Ao92 t171.length co92, .int .i64 1] rfl (by (try simp only [List.map_toArray, List.map_cons, List.map_nil]); first | done | rfl | (simp only [List.length_drop, List.length_take]; rfl)) ?_; (with_reducible refine (laws_markIntS.calls kj41 (fun k_ => some k_ = (.slice Ao92 t171.length co92 : Value).ownBlock) (.slice Ao92 t171.length co92) t171 1 t188 t189 w _ ?side1 ?side2 A62.out).mono ?_); (case side1 => repeat (first | (with_reducible first | exact HB.out | apply below_alloc | apply pw_below_drewN | apply below_drew1 | refine below_set ?_ GE151.out | refine below_set ?_ GE170.out) | exact HB.out)); (case side2 => exact Kd.R_tight rfl HO_8.out); rintro e w93 ⟨rfl, hy0, hb, hkp⟩; refine ⟨_, rfl, ?_⟩; have n0_ := Aside0.mk (Kd.R_mono (ok' := fun k_ => some k_ ≠ (.slice Ao92 t171.length co92 : Value).ownBlock) (Kd.R_keptB (HO_4.out) hkp (fun k_ hk_ hs_ => (hk_) hs_)) (fun k_ hk_ => hk_.1)); have n1_ := Aside0.mk (Kd.R_reok rfl hy0 (fun k_ e_ => HO_8.out.1 k_ e_)); have n2_ := Aside0.mk (Kd.R_mono (ok' := fun k_ => True) (Kd.R_keptB ((Kd.R_apart' HO_171000.out (Kd.R_typed HO_8.out) (by decide))) hkp (fun k_ hk_ hs_ => (hk_.2) hs_)) (fun k_ hk_ => trivial)); have n3_ := Aside0.mk (Kd.R_mono (ok' := fun k_ => True) (Kd.R_keptB ((Kd.R_apart' HO_171001.out (Kd.R_typed HO_8.out) (by decide))) hkp (fun k_ hk_ hs_ => (hk_.2) hs_)) (fun k_ hk_ => trivial)); have n4_ := Aside0.mk (blk_kept (bz_ BK151.out) hkp (fun hs_ => (fun e_ => (Kd.R_ne HO_8.out BK151.out (by decide)) e_) hs_)); have n5_ := Aside0.mk (blk_kept (bz_ BK170.out) hkp (fun hs_ => (fun e_ => (Kd.R_ne HO_8.out BK170.out (by decide)) e_) hs_)); have n6_ := Aside0.mk (hb); clear HO_4; clear HO_8; clear HO_171000; clear HO_171001; clear BK151; clear BK170; clear HB; have HO_4 := n0_; have HO_8 := n1_; have HO_171000 := n2_; have HO_171001 := n3_; have BK151 := n4_; have BK170 := n5_; have HB := n6_; clear n0_ n1_ n2_ n3_ n4_ n5_ n6_; (try clear hb); (try clear hkp); (try clear hy0)) | ((with_reducible refine gate_callee (f := 23) rfl ?_); refine goesL_ (some 82) rfl rfl Try.func23 (by kernel_rfl) rfl #[.slice Ao92 t189.length co92, .int .i64 1] rfl (by (try simp only [List.map_toArray, List.map_cons, List.map_nil]); first | done | (rw [show t189.length = t171.length from (Kd.R_reads' HO_8.out).1.symm] <;> rfl) | rfl | (simp only [List.length_drop, List.length_take]; rfl)) ?_; (with_reducible refine (laws_heldIntS.calls kj41 _ _ t189 1 t190 _ ?side1 ?side2 A63.out).mono ?_); (case side1 => exact cz_ (Kd.R_reads' HO_8.out).2.2); (case side2 => rw [show t189.length = t171.length from (Kd.R_reads' HO_8.out).1.symm]; exact (Kd.R_reads' HO_8.out).2.1); rintro e w' ⟨rfl, ⟨nd, rfl⟩⟩; refine ⟨_, rfl, ?_⟩))
           go_ret
           exact ⟨by first | rfl | (simp [errW_none, errW_some] <;> rfl) | (simp [*, errW_none, errW_some] <;> rfl), by repeat (first | (with_reducible first | exact HB.out | apply below_alloc | apply pw_below_drewN | apply below_drew1 | refine below_set ?_ GE151.out | refine below_set ?_ GE170.out) | exact HB.out)⟩
     ·replace c40 := Bool.eq_false_iff.mpr c40
      subst c40
      have H1 : (some false) = some r := by rw [if_neg (show ¬ (false = true) by decide)] at H; exact H
      clear H
      have H := H1
      clear H1
      obtain rfl := Option.some.inj H
      try go_wp2
      have n0_ := Aside0.mk (Kd.R_drew HO_4.out)
      have n1_ := Aside0.mk (Kd.R_drew HO_8.out)
      have n2_ := Aside0.mk (Kd.R_drew HO_171000.out)
      have n3_ := Aside0.mk (Kd.R_drew HO_171001.out)
      have n4_ := Aside0.mk (blk_drew BK151.out)
      have n5_ := Aside0.mk (blk_drew BK170.out)
      have n6_ := Aside0.mk (below_drew1 HB.out)
      clear HO_4
      clear HO_8
      clear HO_171000
      clear HO_171001
      clear BK151
      clear BK170
      clear HB
      have HO_4 := n0_
      have HO_8 := n1_
      have HO_171000 := n2_
      have HO_171001 := n3_
      have BK151 := n4_
      have BK170 := n5_
      have HB := n6_
      clear n0_ n1_ n2_ n3_ n4_ n5_ n6_
      refine start_ (n := 5) (S := fun w' => w'.cell? ⟨gb170, 0, none⟩ = some (.slice Ao23 t164.length co23) ∧ w'.cell? ⟨gb170, 1, none⟩ = some (.slice Ao26 t167.length co26) ∧ w'.cell? ⟨gb151, 0, none⟩ = some (.slice A0_0 l0_0.length c0_0) ∧ w'.cell? ⟨gb151, 1, none⟩ = some (.slice A0_1 l0_1.length c0_1)) (ds := []) #[false, false, false, false, false] (by kernel_rfl) rfl rfl ⟨(blk_cell BK170.out 0).trans rfl, (blk_cell BK170.out 1).trans rfl, (blk_cell BK151.out 0).trans rfl, (blk_cell BK151.out 1).trans rfl⟩ (fun hHeld => ?_)
      generalize wc.drew = w94 at HO_4 HO_8 HO_171000 HO_171001 BK151 BK170 HB hHeld ⊢
      refine take_ (i := 0) (N := some 51) (v := ?_) (a' := ?_) #[true, false, false, false, false] rfl rfl (by kernel_rfl) (fun _ _ _ h => h) (Or.inl ⟨by rfl, ?_⟩) hHeld ?_ ?_
      rotate_left
      ·rintro w' ⟨s0, s1, s2, s3⟩
       go_simp
       with_reducible rfl
      rotate_left
      ·simp only [Act.put, List.setIfInBounds_toArray, List.set_cons_zero, List.set_cons_succ, i64_w, i32_w]
       rfl
      refine take_ (i := 1) (N := some 52) (v := ?_) (a' := ?_) #[true, true, false, false, false] rfl rfl (by kernel_rfl) (fun _ _ _ h => h) (Or.inl ⟨by rfl, ?_⟩) hHeld ?_ ?_
      rotate_left
      ·rintro w' ⟨s0, s1, s2, s3⟩
       go_simp
       with_reducible rfl
      rotate_left
      ·simp only [Act.put, List.setIfInBounds_toArray, List.set_cons_zero, List.set_cons_succ, i64_w, i32_w]
       rfl
      refine one_ (i := 2) (N := some 53) (bl 3 5) rfl rfl (by kernel_rfl) (by decide) (fun K hK => ?_)
      refine goes_ Try.func17 (by kernel_rfl) rfl #[.agg #[.slice A0_0 l0_0.length c0_0, .slice A0_1 l0_1.length c0_1]] (by rfl) rfl rfl (by (try simp only [List.map_toArray, List.map_cons, List.map_nil]); first | done | rfl | (simp only [List.length_drop, List.length_take]; rfl)) ?_
      with_reducible refine (laws_toRecord.calls kj10 _ _ l0_0 _ _ l0_1 t177 t180 _ ?side1 ?side2 ?side3 ?side4 A38.out).mono ?_
      (case side1 => exact cz_ (Kd.C_below HR0_0.out HB.out))
      (case side2 => exact HC0_0.out)
      (case side3 => exact cz_ (Kd.C_below HR0_1.out HB.out))
      (case side4 => exact HC0_1.out)
      rintro e w95 ⟨v178, v181, rfl, ho0, ho1, hb⟩
      refine ⟨_, rfl, ?_⟩
      have n0_ := Aside0.mk (Kd.R_below (rz_ HO_4.out) hb)
      have n1_ := Aside0.mk (Kd.R_below (rz_ HO_8.out) hb)
      have n2_ := Aside0.mk (Kd.R_elder' (rz_ HO_171000.out) (Kd.R_base ho0) hb)
      have n3_ := Aside0.mk (Kd.R_elder' (rz_ HO_171001.out) (Kd.R_base ho1) hb)
      have n4_ := Aside0.mk (Kd.R_lower (Kd.R_new' ho0 (Kd.R_lt (rz_ HO_171000.out))) (below_size (by repeat (first | (with_reducible first | exact HB.out | apply below_alloc | apply pw_below_drewN | apply below_drew1 | refine below_set ?_ GE151.out | refine below_set ?_ GE170.out) | exact HB.out))))
      have n5_ := Aside0.mk (Kd.R_lower (Kd.R_new' ho1 (Kd.R_lt (rz_ HO_171001.out))) (below_size (by repeat (first | (with_reducible first | exact HB.out | apply below_alloc | apply pw_below_drewN | apply below_drew1 | refine below_set ?_ GE151.out | refine below_set ?_ GE170.out) | exact HB.out))))
      have n6_ := Aside0.mk (blk_below (bz_ BK151.out) hb)
      have n7_ := Aside0.mk (blk_below (bz_ BK170.out) hb)
      have n8_ := Aside0.mk (below_step (by repeat (first | (with_reducible first | exact HB.out | apply below_alloc | apply pw_below_drewN | apply below_drew1 | refine below_set ?_ GE151.out | refine below_set ?_ GE170.out) | exact HB.out)) hb)
      clear HO_4
      clear HO_8
      clear HO_171000
      clear HO_171001
      clear BK151
      clear BK170
      clear HB
      have HO_4 := n0_
      have HO_8 := n1_
      have HO_171000 := n2_
      have HO_171001 := n3_
      have HO179 := n4_
      have HO182 := n5_
      have BK151 := n6_
      have BK170 := n7_
      have HB := n8_
      clear n0_ n1_ n2_ n3_ n4_ n5_ n6_ n7_ n8_
      (try clear hb)
      (try clear hb2)
      (try clear hk)
      (try clear hi)
      (try clear ho0)
      (try clear ho1)
      obtain ⟨Ao96, co96, eo96⟩ := Kd.R_slice HO179.out
      (first | subst eo96 | (injection eo96 with f1_ f2_ f3_; have f4_ := f1_.symm; have f5_ := f3_.symm; clear f1_ f2_ f3_; subst f4_; subst f5_))
      obtain ⟨Ao97, co97, eo97⟩ := Kd.R_slice HO182.out
      (first | subst eo97 | (injection eo97 with f1_ f2_ f3_; have f4_ := f1_.symm; have f5_ := f3_.symm; clear f1_ f2_ f3_; subst f4_; subst f5_))
      refine hK.out _ _ ⟨(blk_cell BK170.out 0).trans rfl, (blk_cell BK170.out 1).trans rfl, (blk_cell BK151.out 0).trans rfl, (blk_cell BK151.out 1).trans rfl⟩ (fun hHeld => ?_)
      clear hK K
      refine norm_ (a' := ?_) ?_ ?_
      rotate_left
      ·show Act.put _ (some 53) _ = _
       simp only [Act.put, List.setIfInBounds_toArray, List.set_cons_zero, List.set_cons_succ, i64_w, i32_w]
       rfl
      refine one_ (i := 3) (N := some 54) (bl 4 5) rfl rfl (by kernel_rfl) (by decide) (fun K hK => ?_)
      refine goes_ Try.func20 (by kernel_rfl) rfl #[.agg #[.slice Ao23 t164.length co23, .slice Ao26 t167.length co26], .agg #[.slice Ao96 t177.length co96, .slice Ao97 t180.length co97]] (by rfl) rfl rfl (by (try simp only [List.map_toArray, List.map_cons, List.map_nil]); first | done | rfl | (simp only [List.length_drop, List.length_take]; rfl)) ?_
      with_reducible refine (laws_eqRecord.calls kj10 _ _ t164 _ _ t167 _ _ t177 _ _ t180 false _ ?side1 ?side2 ?side3 ?side4 ?side5 ?side6 ?side7 ?side8 A39.out).mono ?_
      (case side1 => exact cz_ (Kd.R_reads' HO_171000.out).2.2)
      (case side2 => exact (Kd.R_reads' HO_171000.out).2.1)
      (case side3 => exact cz_ (Kd.R_reads' HO_171001.out).2.2)
      (case side4 => exact (Kd.R_reads' HO_171001.out).2.1)
      (case side5 => exact cz_ (Kd.R_reads' HO179.out).2.2)
      (case side6 => exact (Kd.R_reads' HO179.out).2.1)
      (case side7 => exact cz_ (Kd.R_reads' HO182.out).2.2)
      (case side8 => exact (Kd.R_reads' HO182.out).2.1)
      rintro e w98 ⟨rfl, hb⟩
      refine ⟨_, rfl, ?_⟩
      have n0_ := Aside0.mk (Kd.R_below (rz_ HO_4.out) hb)
      have n1_ := Aside0.mk (Kd.R_below (rz_ HO_8.out) hb)
      have n2_ := Aside0.mk (Kd.R_below (rz_ HO_171000.out) hb)
      have n3_ := Aside0.mk (Kd.R_below (rz_ HO_171001.out) hb)
      have n4_ := Aside0.mk (Kd.R_below (rz_ HO179.out) hb)
      have n5_ := Aside0.mk (Kd.R_below (rz_ HO182.out) hb)
      have n6_ := Aside0.mk (blk_below (bz_ BK151.out) hb)
      have n7_ := Aside0.mk (blk_below (bz_ BK170.out) hb)
      have n8_ := Aside0.mk (below_step (by repeat (first | (with_reducible first | exact HB.out | apply below_alloc | apply pw_below_drewN | apply below_drew1 | refine below_set ?_ GE151.out | refine below_set ?_ GE170.out) | exact HB.out)) hb)
      clear HO_4
      clear HO_8
      clear HO_171000
      clear HO_171001
      clear HO179
      clear HO182
      clear BK151
      clear BK170
      clear HB
      have HO_4 := n0_
      have HO_8 := n1_
      have HO_171000 := n2_
      have HO_171001 := n3_
      have HO179 := n4_
      have HO182 := n5_
      have BK151 := n6_
      have BK170 := n7_
      have HB := n8_
      clear n0_ n1_ n2_ n3_ n4_ n5_ n6_ n7_ n8_
      (try clear hb)
      (try clear hb2)
      (try clear hk)
      (try clear hi)
      refine hK.out _ _ ⟨(blk_cell BK170.out 0).trans rfl, (blk_cell BK170.out 1).trans rfl, (blk_cell BK151.out 0).trans rfl, (blk_cell BK151.out 1).trans rfl⟩ (fun hHeld => ?_)
      clear hK K
      refine norm_ (a' := ?_) ?_ ?_
      rotate_left
      ·show Act.put _ (some 54) _ = _
       simp only [Act.put, List.setIfInBounds_toArray, List.set_cons_zero, List.set_cons_succ, i64_w, i32_w]
       rfl
      refine pure_ (i := 4) (N := some 55) (v := ?_) (a' := ?_) #[true, true, true, true, true] rfl rfl (by kernel_rfl) (fun _ _ _ h => h) (Or.inl ⟨by rfl, ?_⟩) ?_ ?_
      rotate_left
      ·intro w'
       go_simp
       with_reducible rfl
      rotate_left
      ·simp only [Act.put, List.setIfInBounds_toArray, List.set_cons_zero, List.set_cons_succ, i64_w, i32_w]
       rfl
      refine done_ (by kernel_rfl) ?_
      try go_wp2
      go_ret
      exact ⟨by first | rfl | (simp [errW_none, errW_some] <;> rfl) | (simp [*, errW_none, errW_some] <;> rfl), by repeat (first | (with_reducible first | exact HB.out | apply below_alloc | apply pw_below_drewN | apply below_drew1 | refine below_set ?_ GE151.out | refine below_set ?_ GE170.out) | exact HB.out)⟩

end Go.Proofs.Ytdiejmhphhdcfaa.Q

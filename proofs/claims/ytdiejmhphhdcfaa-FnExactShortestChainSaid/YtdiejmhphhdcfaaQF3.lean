-- Written by a program of this session (wip/xprint.py over the kit's printer).
import Derived.Test.YtdiejmhphhdcfaaQ0
import Derived.Test.YtdiejmhphhdcfaaQB0
import Derived.Test.YtdiejmhphhdcfaaQB1
import Derived.Test.YtdiejmhphhdcfaaQF16
import Derived.Test.YtdiejmhphhdcfaaQF18
import Derived.Test.YtdiejmhphhdcfaaQF19
import Derived.Test.YtdiejmhphhdcfaaQF22
import Derived.Test.YtdiejmhphhdcfaaQF23
import Derived.Test.YtdiejmhphhdcfaaQM0
namespace Go.Proofs.Ytdiejmhphhdcfaa.Q
open Go.RowKit Go.Proofs.YtdiejmhphhdcfaaW.PrintWords Go.Proofs.YtdiejmhphhdcfaaW.PrintLast
set_option linter.unusedVariables false
set_option linter.unusedSimpArgs false

/-! ### laws_FnExactShortestChain: function 3 -/
mutual
def laws_FnExactShortestChain.j0 : Nat → Int → Int → List Int → Bool → Bool → List Int → Bool → Bool → Bool → List (S127) → List (S129) → List (S86) → List (S95) → Option (Bool)
 | 0, _, _, _, _, _, _, _, _, _, _, _, _, _ => none
 | k + 1, x1, x2, x8, x9, x10, x12, x13, x14, x58, x152000, x152001, x171000, x171001 => if x58 = true then (some false) else ((laws_toRecord.f k x152000 x152001).bind fun bt177 => ((laws_eqRecord.f k x171000 x171001 bt177.1 bt177.2).bind fun t183 => (if t183 = true then ((laws_markRecord.f k x171000 x171001 1).bind fun bt184 => (if bt184.1 < 0 then (laws_FnExactShortestChain.j1 k x1 x2 x8 x9 x10 x12 true x152000 x152001) else ((laws_eqIntS.f k x12 x8).bind fun t187 => (if t187 = true then (if (x13 != x9) = true then (laws_FnExactShortestChain.j1 k x1 x2 x8 x9 x10 x12 true x152000 x152001) else (laws_FnExactShortestChain.j1 k x1 x2 x8 x9 x10 x12 (x14 != x10) x152000 x152001)) else (laws_FnExactShortestChain.j1 k x1 x2 x8 x9 x10 x12 true x152000 x152001))))) else (some false))))
def laws_FnExactShortestChain.j1 : Nat → Int → Int → List Int → Bool → Bool → List Int → Bool → List (S127) → List (S129) → Option (Bool)
 | 0, _, _, _, _, _, _, _, _, _ => none
 | k + 1, x1, x2, x8, x9, x10, x12, x84, x152000, x152001 => if x84 = true then (some false) else ((laws_markIntS.f k x12 1).bind fun bt188 => ((laws_heldIntS.f k bt188.2 1).bind fun t190 => (if t190 < 0 then (some false) else (if t190 = bt188.1 then ((laws_toRecord.f k x152000 x152001).bind fun bt191 => ((impl_ShortestChain.f bt191.1 bt191.2 x1 x2).bind fun bt197 => ((laws_eqIntS.f k bt197.1 x8).bind fun t202 => (if t202 = true then (if (bt197.2.1 != x9) = true then (laws_FnExactShortestChain.j2 k bt188.2 bt188.1 true) else (laws_FnExactShortestChain.j2 k bt188.2 bt188.1 (bt197.2.2 != x10))) else (laws_FnExactShortestChain.j2 k bt188.2 bt188.1 true))))) else (some false)))))
def laws_FnExactShortestChain.j2 : Nat → List Int → Int → Bool → Option (Bool)
 | 0, _, _, _ => none
 | k + 1, x12, x16, x118 => if x118 = true then (some false) else ((laws_heldIntS.f k x12 1).bind fun t203 => (if t203 < 0 then (some false) else (if t203 = x16 then (some true) else (some false))))
end
def laws_FnExactShortestChain.f (k : Nat) (l0_0 : List (S127)) (l0_1 : List (S129)) (a1 : Int) (a2 : Int) : Option (Bool) := (laws_szRecord.f l0_0 l0_1 1048576).bind fun t152 => (if t152 < 0 then (some true) else ((laws_toRecord.f k l0_0 l0_1).bind fun bt153 => ((spec_ShortestChain.f bt153.1 bt153.2 a1 a2).bind fun bt159 => ((laws_toRecord.f k l0_0 l0_1).bind fun bt164 => ((impl_ShortestChain.f bt164.1 bt164.2 a1 a2).bind fun bt171 => ((laws_eqIntS.f k bt171.1 bt159.1).bind fun t176 => (if t176 = true then (if (bt171.2.1 != bt159.2.1) = true then (laws_FnExactShortestChain.j0 k a1 a2 bt159.1 bt159.2.1 bt159.2.2 bt171.1 bt171.2.1 bt171.2.2 true l0_0 l0_1 bt164.1 bt164.2) else (laws_FnExactShortestChain.j0 k a1 a2 bt159.1 bt159.2.1 bt159.2.2 bt171.1 bt171.2.1 bt171.2.2 (bt171.2.2 != bt159.2.2) l0_0 l0_1 bt164.1 bt164.2)) else (laws_FnExactShortestChain.j0 k a1 a2 bt159.1 bt159.2.1 bt159.2.2 bt171.1 bt171.2.1 bt171.2.2 true l0_0 l0_1 bt164.1 bt164.2))))))))
theorem laws_FnExactShortestChain.mono_l : ∀ k, (∀ y0 y1 y2 y3 y4 y5 y6 y7 y8 y9 y10 y11 y12, LeO (laws_FnExactShortestChain.j0 k y0 y1 y2 y3 y4 y5 y6 y7 y8 y9 y10 y11 y12) (laws_FnExactShortestChain.j0 (k + 1) y0 y1 y2 y3 y4 y5 y6 y7 y8 y9 y10 y11 y12)) ∧ (∀ y0 y1 y2 y3 y4 y5 y6 y7 y8, LeO (laws_FnExactShortestChain.j1 k y0 y1 y2 y3 y4 y5 y6 y7 y8) (laws_FnExactShortestChain.j1 (k + 1) y0 y1 y2 y3 y4 y5 y6 y7 y8)) ∧ (∀ y0 y1 y2, LeO (laws_FnExactShortestChain.j2 k y0 y1 y2) (laws_FnExactShortestChain.j2 (k + 1) y0 y1 y2))
 | 0 => ⟨fun _ _ _ _ _ _ _ _ _ _ _ _ _ r h => by simp [laws_FnExactShortestChain.j0] at h, fun _ _ _ _ _ _ _ _ _ r h => by simp [laws_FnExactShortestChain.j1] at h, fun _ _ _ r h => by simp [laws_FnExactShortestChain.j2] at h⟩
 | k + 1 => by
  obtain ⟨ih0, ih1, ih2⟩ := laws_FnExactShortestChain.mono_l k
  refine ⟨?_, ?_, ?_⟩
  ·intro y0 y1 y2 y3 y4 y5 y6 y7 y8 y9 y10 y11 y12
   unfold laws_FnExactShortestChain.j0
   repeat' first
   | (with_reducible exact ih0 _ _ _ _ _ _ _ _ _ _ _ _ _)
   | (with_reducible exact ih1 _ _ _ _ _ _ _ _ _)
   | (with_reducible exact ih2 _ _ _)
   | (with_reducible exact laws_eqIntS.mono _ _ _)
   | (with_reducible exact laws_eqRecord.mono _ _ _ _ _)
   | (with_reducible exact laws_heldIntS.mono _ _ _)
   | (with_reducible exact laws_markIntS.mono _ _ _)
   | (with_reducible exact laws_markRecord.mono _ _ _ _)
   | (with_reducible exact laws_toRecord.mono _ _ _)
   | (with_reducible exact LeO.refl _)
   | (with_reducible exact LeO.none _)
   | (with_reducible refine LeO.ite ?_ ?_)
   | (with_reducible refine LeO.bind ?_ (fun _ => ?_))
   | exact ih0 _ _ _ _ _ _ _ _ _ _ _ _ _
   | exact ih1 _ _ _ _ _ _ _ _ _
   | exact ih2 _ _ _
   | exact laws_eqIntS.mono _ _ _
   | exact laws_eqRecord.mono _ _ _ _ _
   | exact laws_heldIntS.mono _ _ _
   | exact laws_markIntS.mono _ _ _
   | exact laws_markRecord.mono _ _ _ _
   | exact laws_toRecord.mono _ _ _
   | exact LeO.none _
   | refine LeO.ite ?_ ?_
   | refine LeO.bind ?_ (fun _ => ?_)
  ·intro y0 y1 y2 y3 y4 y5 y6 y7 y8
   unfold laws_FnExactShortestChain.j1
   repeat' first
   | (with_reducible exact ih0 _ _ _ _ _ _ _ _ _ _ _ _ _)
   | (with_reducible exact ih1 _ _ _ _ _ _ _ _ _)
   | (with_reducible exact ih2 _ _ _)
   | (with_reducible exact laws_eqIntS.mono _ _ _)
   | (with_reducible exact laws_eqRecord.mono _ _ _ _ _)
   | (with_reducible exact laws_heldIntS.mono _ _ _)
   | (with_reducible exact laws_markIntS.mono _ _ _)
   | (with_reducible exact laws_markRecord.mono _ _ _ _)
   | (with_reducible exact laws_toRecord.mono _ _ _)
   | (with_reducible exact LeO.refl _)
   | (with_reducible exact LeO.none _)
   | (with_reducible refine LeO.ite ?_ ?_)
   | (with_reducible refine LeO.bind ?_ (fun _ => ?_))
   | exact ih0 _ _ _ _ _ _ _ _ _ _ _ _ _
   | exact ih1 _ _ _ _ _ _ _ _ _
   | exact ih2 _ _ _
   | exact laws_eqIntS.mono _ _ _
   | exact laws_eqRecord.mono _ _ _ _ _
   | exact laws_heldIntS.mono _ _ _
   | exact laws_markIntS.mono _ _ _
   | exact laws_markRecord.mono _ _ _ _
   | exact laws_toRecord.mono _ _ _
   | exact LeO.none _
   | refine LeO.ite ?_ ?_
   | refine LeO.bind ?_ (fun _ => ?_)
  ·intro y0 y1 y2
   unfold laws_FnExactShortestChain.j2
   repeat' first
   | (with_reducible exact ih0 _ _ _ _ _ _ _ _ _ _ _ _ _)
   | (with_reducible exact ih1 _ _ _ _ _ _ _ _ _)
   | (with_reducible exact ih2 _ _ _)
   | (with_reducible exact laws_eqIntS.mono _ _ _)
   | (with_reducible exact laws_eqRecord.mono _ _ _ _ _)
   | (with_reducible exact laws_heldIntS.mono _ _ _)
   | (with_reducible exact laws_markIntS.mono _ _ _)
   | (with_reducible exact laws_markRecord.mono _ _ _ _)
   | (with_reducible exact laws_toRecord.mono _ _ _)
   | (with_reducible exact LeO.refl _)
   | (with_reducible exact LeO.none _)
   | (with_reducible refine LeO.ite ?_ ?_)
   | (with_reducible refine LeO.bind ?_ (fun _ => ?_))
   | exact ih0 _ _ _ _ _ _ _ _ _ _ _ _ _
   | exact ih1 _ _ _ _ _ _ _ _ _
   | exact ih2 _ _ _
   | exact laws_eqIntS.mono _ _ _
   | exact laws_eqRecord.mono _ _ _ _ _
   | exact laws_heldIntS.mono _ _ _
   | exact laws_markIntS.mono _ _ _
   | exact laws_markRecord.mono _ _ _ _
   | exact laws_toRecord.mono _ _ _
   | exact LeO.none _
   | refine LeO.ite ?_ ?_
   | refine LeO.bind ?_ (fun _ => ?_)
theorem laws_FnExactShortestChain.mono : ∀ a0 a1 a2 a3 k, LeO (laws_FnExactShortestChain.f k a0 a1 a2 a3) (laws_FnExactShortestChain.f (k + 1) a0 a1 a2 a3) := by
 intro a0 a1 a2 a3 k
 obtain ⟨ih0, ih1, ih2⟩ := laws_FnExactShortestChain.mono_l k
 unfold laws_FnExactShortestChain.f
 repeat' first
   | (with_reducible exact ih0 _ _ _ _ _ _ _ _ _ _ _ _ _)
   | (with_reducible exact ih1 _ _ _ _ _ _ _ _ _)
   | (with_reducible exact ih2 _ _ _)
   | (with_reducible exact laws_eqIntS.mono _ _ _)
   | (with_reducible exact laws_eqRecord.mono _ _ _ _ _)
   | (with_reducible exact laws_heldIntS.mono _ _ _)
   | (with_reducible exact laws_markIntS.mono _ _ _)
   | (with_reducible exact laws_markRecord.mono _ _ _ _)
   | (with_reducible exact laws_toRecord.mono _ _ _)
   | (with_reducible exact LeO.refl _)
   | (with_reducible exact LeO.none _)
   | (with_reducible refine LeO.ite ?_ ?_)
   | (with_reducible refine LeO.bind ?_ (fun _ => ?_))
   | exact ih0 _ _ _ _ _ _ _ _ _ _ _ _ _
   | exact ih1 _ _ _ _ _ _ _ _ _
   | exact ih2 _ _ _
   | exact laws_eqIntS.mono _ _ _
   | exact laws_eqRecord.mono _ _ _ _ _
   | exact laws_heldIntS.mono _ _ _
   | exact laws_markIntS.mono _ _ _
   | exact laws_markRecord.mono _ _ _ _
   | exact laws_toRecord.mono _ _ _
   | exact LeO.none _
   | refine LeO.ite ?_ ?_
   | refine LeO.bind ?_ (fun _ => ?_)
set_option maxHeartbeats 8000000 in
set_option maxRecDepth 100000 in
theorem laws_FnExactShortestChain.calls (k : Nat) (A0_0 : Option Addr) (c0_0 : Nat) (l0_0 : List (S127)) (A0_1 : Option Addr) (c0_1 : Nat) (l0_1 : List (S129)) (a1 : Int) (a2 : Int) (r : Bool) (w : World) (hr0_0 : Kd.C k127 w A0_0 l0_0.length l0_0) (hc0_0 : l0_0.length ≤ c0_0) (hr0_1 : Kd.C k129 w A0_1 l0_1.length l0_1) (hc0_1 : l0_1.length ≤ c0_1) (h : laws_FnExactShortestChain.f k l0_0 l0_1 a1 a2 = some r) :
  Calls Try.prog 3 #[.agg #[.slice A0_0 l0_0.length c0_0, .slice A0_1 l0_1.length c0_1], .int .i64 a1, .int .i64 a2] w fun e w' => e = .returned (.bool r) ∧ Below w.heap.size w w' := by
 have hu25 := Try.underlying25
 have hu33 := Try.underlying33
 have HR0_0 := Aside0.mk hr0_0
 have HC0_0 := Aside0.mk hc0_0
 clear hr0_0 hc0_0
 have HR0_1 := Aside0.mk hr0_1
 have HC0_1 := Aside0.mk hc0_1
 clear hr0_1 hc0_1
 have HB := Aside0.mk (Below.refl w.heap.size w)
 have H : ((laws_szRecord.f l0_0 l0_1 1048576).bind fun t152 => (if t152 < 0 then (some true) else ((laws_toRecord.f k l0_0 l0_1).bind fun bt153 => ((spec_ShortestChain.f bt153.1 bt153.2 a1 a2).bind fun bt159 => ((laws_toRecord.f k l0_0 l0_1).bind fun bt164 => ((impl_ShortestChain.f bt164.1 bt164.2 a1 a2).bind fun bt171 => ((laws_eqIntS.f k bt171.1 bt159.1).bind fun t176 => (if t176 = true then (if (bt171.2.1 != bt159.2.1) = true then (laws_FnExactShortestChain.j0 k a1 a2 bt159.1 bt159.2.1 bt159.2.2 bt171.1 bt171.2.1 bt171.2.2 true l0_0 l0_1 bt164.1 bt164.2) else (laws_FnExactShortestChain.j0 k a1 a2 bt159.1 bt159.2.1 bt159.2.2 bt171.1 bt171.2.1 bt171.2.2 (bt171.2.2 != bt159.2.2) l0_0 l0_1 bt164.1 bt164.2)) else (laws_FnExactShortestChain.j0 k a1 a2 bt159.1 bt159.2.1 bt159.2.2 bt171.1 bt171.2.1 bt171.2.2 true l0_0 l0_1 bt164.1 bt164.2))))))))) = some r := h
 clear h
 replace H := Option.bind_eq_some_iff.mp H
 obtain ⟨t152, A40, H⟩ := H
 replace H : (if t152 < 0 then (some true) else ((laws_toRecord.f k l0_0 l0_1).bind fun bt153 => ((spec_ShortestChain.f bt153.1 bt153.2 a1 a2).bind fun bt159 => ((laws_toRecord.f k l0_0 l0_1).bind fun bt164 => ((impl_ShortestChain.f bt164.1 bt164.2 a1 a2).bind fun bt171 => ((laws_eqIntS.f k bt171.1 bt159.1).bind fun t176 => (if t176 = true then (if (bt171.2.1 != bt159.2.1) = true then (laws_FnExactShortestChain.j0 k a1 a2 bt159.1 bt159.2.1 bt159.2.2 bt171.1 bt171.2.1 bt171.2.2 true l0_0 l0_1 bt164.1 bt164.2) else (laws_FnExactShortestChain.j0 k a1 a2 bt159.1 bt159.2.1 bt159.2.2 bt171.1 bt171.2.1 bt171.2.2 (bt171.2.2 != bt159.2.2) l0_0 l0_1 bt164.1 bt164.2)) else (laws_FnExactShortestChain.j0 k a1 a2 bt159.1 bt159.2.1 bt159.2.2 bt171.1 bt171.2.1 bt171.2.2 true l0_0 l0_1 bt164.1 bt164.2)))))))) = some r := H
 have A4 := Aside0.mk A40
 clear A40
 by_cases c5 : t152 < 0
 ·rw [if_pos c5] at H
  have c5b0 : decide (t152 < 0) = true := decide_eq_true c5
  clear c5
  obtain rfl := Option.some.inj H
  go_enter Try.func3, Try.ntmps3
  go_wp2_with (first | ((with_reducible refine gate_dst (N := 3) rfl ?_); refine box_event ?hg (N := 3) ?hd (cs := #[.slice A0_0 l0_0.length c0_0, .slice A0_1 l0_1.length c0_1]) (t := 25) ?hr ?_; (case hd => rfl); (case hg => rfl); (case hr => first | (go_simp; done) | (go_simp; rfl)); intro gb151 hg w6 hbox hb; have n0_ := Aside0.mk (below_step (wz_ HB.out) hb); have n1_ := Aside0.mk (hbox); have n2_ := Aside0.mk ((by rw [hg]; exact (below_size (wz_ HB.out)) : w.heap.size ≤ gb151)); have n3_ := Aside0.mk ((by rw [hg]; exact (below_size (wz_ HB.out)) : w.heap.size ≤ gb151)); clear HB; have HB := n0_; have BK151 := n1_; have GW151 := n2_; have GE151 := n3_; clear n0_ n1_ n2_ n3_; clear hb hbox hg; have hcz7_0 : w6.cell? ⟨gb151, 0, none⟩ = some (.slice A0_0 l0_0.length c0_0) := (blk_cell BK151.out 0).trans rfl; have hcz7_1 : w6.cell? ⟨gb151, 1, none⟩ = some (.slice A0_1 l0_1.length c0_1) := (blk_cell BK151.out 1).trans rfl; have hfz7_0 := blk_frozen BK151.out 0; have hfz7_1 := blk_frozen BK151.out 1) | ((with_reducible refine gate_callee (f := 15) rfl ?_); refine goesL_ (some 23) rfl rfl Try.func15 (by kernel_rfl) rfl #[.agg #[.slice A0_0 l0_0.length c0_0, .slice A0_1 l0_1.length c0_1], .int .i64 1048576] rfl (by (try simp only [List.map_toArray, List.map_cons, List.map_nil]); first | done | rfl | (simp only [List.length_drop, List.length_take]; rfl)) ?_; (with_reducible refine (laws_szRecord.calls _ _ l0_0 _ _ l0_1 1048576 t152 _ ?side1 ?side2 ?side3 ?side4 A4.out).mono ?_); (case side1 => exact cz_ (Kd.C_below HR0_0.out HB.out)); (case side2 => exact HC0_0.out); (case side3 => exact cz_ (Kd.C_below HR0_1.out HB.out)); (case side4 => exact HC0_1.out); rintro e w8 ⟨rfl, hb⟩; refine ⟨_, rfl, ?_⟩; have n0_ := Aside0.mk (blk_below (bz_ BK151.out) hb); have n1_ := Aside0.mk (below_step (by repeat (first | (with_reducible first | exact HB.out | apply below_alloc | apply pw_below_drewN | apply below_drew1 | refine below_set ?_ GE151.out) | exact HB.out)) hb); clear BK151; clear HB; have BK151 := n0_; have HB := n1_; clear n0_ n1_; (try clear hb); (try clear hb2); (try clear hk); (try clear hi)))
  go_ret
  exact ⟨by first | rfl | (simp [errW_none, errW_some] <;> rfl) | (simp [*, errW_none, errW_some] <;> rfl), by repeat (first | (with_reducible first | exact HB.out | apply below_alloc | apply pw_below_drewN | apply below_drew1 | refine below_set ?_ GE151.out) | exact HB.out)⟩
 ·rw [if_neg c5] at H
  have c5b0 : decide (t152 < 0) = false := decide_eq_false c5
  clear c5
  replace H := Option.bind_eq_some_iff.mp H
  obtain ⟨⟨t153, t156⟩, A90, H⟩ := H
  replace H : ((spec_ShortestChain.f t153 t156 a1 a2).bind fun bt159 => ((laws_toRecord.f k l0_0 l0_1).bind fun bt164 => ((impl_ShortestChain.f bt164.1 bt164.2 a1 a2).bind fun bt171 => ((laws_eqIntS.f k bt171.1 bt159.1).bind fun t176 => (if t176 = true then (if (bt171.2.1 != bt159.2.1) = true then (laws_FnExactShortestChain.j0 k a1 a2 bt159.1 bt159.2.1 bt159.2.2 bt171.1 bt171.2.1 bt171.2.2 true l0_0 l0_1 bt164.1 bt164.2) else (laws_FnExactShortestChain.j0 k a1 a2 bt159.1 bt159.2.1 bt159.2.2 bt171.1 bt171.2.1 bt171.2.2 (bt171.2.2 != bt159.2.2) l0_0 l0_1 bt164.1 bt164.2)) else (laws_FnExactShortestChain.j0 k a1 a2 bt159.1 bt159.2.1 bt159.2.2 bt171.1 bt171.2.1 bt171.2.2 true l0_0 l0_1 bt164.1 bt164.2)))))) = some r := H
  have A9 := Aside0.mk A90
  clear A90
  replace H := Option.bind_eq_some_iff.mp H
  obtain ⟨⟨t159, t162, t163⟩, A100, H⟩ := H
  replace H : ((laws_toRecord.f k l0_0 l0_1).bind fun bt164 => ((impl_ShortestChain.f bt164.1 bt164.2 a1 a2).bind fun bt171 => ((laws_eqIntS.f k bt171.1 t159).bind fun t176 => (if t176 = true then (if (bt171.2.1 != t162) = true then (laws_FnExactShortestChain.j0 k a1 a2 t159 t162 t163 bt171.1 bt171.2.1 bt171.2.2 true l0_0 l0_1 bt164.1 bt164.2) else (laws_FnExactShortestChain.j0 k a1 a2 t159 t162 t163 bt171.1 bt171.2.1 bt171.2.2 (bt171.2.2 != t163) l0_0 l0_1 bt164.1 bt164.2)) else (laws_FnExactShortestChain.j0 k a1 a2 t159 t162 t163 bt171.1 bt171.2.1 bt171.2.2 true l0_0 l0_1 bt164.1 bt164.2))))) = some r := H
  have A10 := Aside0.mk A100
  clear A100
  replace H := Option.bind_eq_some_iff.mp H
  obtain ⟨⟨t164, t167⟩, A110, H⟩ := H
  replace H : ((impl_ShortestChain.f t164 t167 a1 a2).bind fun bt171 => ((laws_eqIntS.f k bt171.1 t159).bind fun t176 => (if t176 = true then (if (bt171.2.1 != t162) = true then (laws_FnExactShortestChain.j0 k a1 a2 t159 t162 t163 bt171.1 bt171.2.1 bt171.2.2 true l0_0 l0_1 t164 t167) else (laws_FnExactShortestChain.j0 k a1 a2 t159 t162 t163 bt171.1 bt171.2.1 bt171.2.2 (bt171.2.2 != t163) l0_0 l0_1 t164 t167)) else (laws_FnExactShortestChain.j0 k a1 a2 t159 t162 t163 bt171.1 bt171.2.1 bt171.2.2 true l0_0 l0_1 t164 t167)))) = some r := H
  have A11 := Aside0.mk A110
  clear A110
  replace H := Option.bind_eq_some_iff.mp H
  obtain ⟨⟨t171, t174, t175⟩, A120, H⟩ := H
  replace H : ((laws_eqIntS.f k t171 t159).bind fun t176 => (if t176 = true then (if (t174 != t162) = true then (laws_FnExactShortestChain.j0 k a1 a2 t159 t162 t163 t171 t174 t175 true l0_0 l0_1 t164 t167) else (laws_FnExactShortestChain.j0 k a1 a2 t159 t162 t163 t171 t174 t175 (t175 != t163) l0_0 l0_1 t164 t167)) else (laws_FnExactShortestChain.j0 k a1 a2 t159 t162 t163 t171 t174 t175 true l0_0 l0_1 t164 t167))) = some r := H
  have A12 := Aside0.mk A120
  clear A120
  have HC13 := Aside0.mk H
  clear H
  go_enter Try.func3, Try.ntmps3
  go_upto_region 8 with (first | ((with_reducible refine gate_dst (N := 3) rfl ?_); refine box_event ?hg (N := 3) ?hd (cs := #[.slice A0_0 l0_0.length c0_0, .slice A0_1 l0_1.length c0_1]) (t := 25) ?hr ?_; (case hd => rfl); (case hg => rfl); (case hr => first | (go_simp; done) | (go_simp; rfl)); intro gb151 hg w14 hbox hb; have n0_ := Aside0.mk (below_step (wz_ HB.out) hb); have n1_ := Aside0.mk (hbox); have n2_ := Aside0.mk ((by rw [hg]; exact (below_size (wz_ HB.out)) : w.heap.size ≤ gb151)); have n3_ := Aside0.mk ((by rw [hg]; exact (below_size (wz_ HB.out)) : w.heap.size ≤ gb151)); clear HB; have HB := n0_; have BK151 := n1_; have GW151 := n2_; have GE151 := n3_; clear n0_ n1_ n2_ n3_; clear hb hbox hg; have hcz15_0 : w14.cell? ⟨gb151, 0, none⟩ = some (.slice A0_0 l0_0.length c0_0) := (blk_cell BK151.out 0).trans rfl; have hcz15_1 : w14.cell? ⟨gb151, 1, none⟩ = some (.slice A0_1 l0_1.length c0_1) := (blk_cell BK151.out 1).trans rfl; have hfz15_0 := blk_frozen BK151.out 0; have hfz15_1 := blk_frozen BK151.out 1) | ((with_reducible refine gate_callee (f := 15) rfl ?_); refine goesL_ (some 23) rfl rfl Try.func15 (by kernel_rfl) rfl #[.agg #[.slice A0_0 l0_0.length c0_0, .slice A0_1 l0_1.length c0_1], .int .i64 1048576] rfl (by (try simp only [List.map_toArray, List.map_cons, List.map_nil]); first | done | rfl | (simp only [List.length_drop, List.length_take]; rfl)) ?_; (with_reducible refine (laws_szRecord.calls _ _ l0_0 _ _ l0_1 1048576 t152 _ ?side1 ?side2 ?side3 ?side4 A4.out).mono ?_); (case side1 => exact cz_ (Kd.C_below HR0_0.out HB.out)); (case side2 => exact HC0_0.out); (case side3 => exact cz_ (Kd.C_below HR0_1.out HB.out)); (case side4 => exact HC0_1.out); rintro e w16 ⟨rfl, hb⟩; refine ⟨_, rfl, ?_⟩; have n0_ := Aside0.mk (blk_below (bz_ BK151.out) hb); have n1_ := Aside0.mk (below_step (by repeat (first | (with_reducible first | exact HB.out | apply below_alloc | apply pw_below_drewN | apply below_drew1 | refine below_set ?_ GE151.out) | exact HB.out)) hb); clear BK151; clear HB; have BK151 := n0_; have HB := n1_; clear n0_ n1_; (try clear hb); (try clear hb2); (try clear hk); (try clear hi); have hcz17_0 : w16.cell? ⟨gb151, 0, none⟩ = some (.slice A0_0 l0_0.length c0_0) := (blk_cell BK151.out 0).trans rfl; have hcz17_1 : w16.cell? ⟨gb151, 1, none⟩ = some (.slice A0_1 l0_1.length c0_1) := (blk_cell BK151.out 1).trans rfl; have hfz17_0 := blk_frozen BK151.out 0; have hfz17_1 := blk_frozen BK151.out 1) | ((with_reducible refine gate_callee (f := 17) rfl ?_); refine goesL_ (some 28) rfl rfl Try.func17 (by kernel_rfl) rfl #[.agg #[.slice A0_0 l0_0.length c0_0, .slice A0_1 l0_1.length c0_1]] rfl (by (try simp only [List.map_toArray, List.map_cons, List.map_nil]); first | done | rfl | (simp only [List.length_drop, List.length_take]; rfl)) ?_; (with_reducible refine (laws_toRecord.calls k _ _ l0_0 _ _ l0_1 t153 t156 _ ?side1 ?side2 ?side3 ?side4 A9.out).mono ?_); (case side1 => exact cz_ (Kd.C_below HR0_0.out HB.out)); (case side2 => exact HC0_0.out); (case side3 => exact cz_ (Kd.C_below HR0_1.out HB.out)); (case side4 => exact HC0_1.out); rintro e w18 ⟨v154, v157, rfl, ho0, ho1, hb⟩; refine ⟨_, rfl, ?_⟩; have n0_ := Aside0.mk (Kd.R_lower ho0 (below_size (by repeat (first | (with_reducible first | exact HB.out | apply below_alloc | apply pw_below_drewN | apply below_drew1 | refine below_set ?_ GE151.out) | exact HB.out)))); have n1_ := Aside0.mk (Kd.R_lower ho1 (below_size (by repeat (first | (with_reducible first | exact HB.out | apply below_alloc | apply pw_below_drewN | apply below_drew1 | refine below_set ?_ GE151.out) | exact HB.out)))); have n2_ := Aside0.mk (blk_below (bz_ BK151.out) hb); have n3_ := Aside0.mk (below_step (by repeat (first | (with_reducible first | exact HB.out | apply below_alloc | apply pw_below_drewN | apply below_drew1 | refine below_set ?_ GE151.out) | exact HB.out)) hb); clear BK151; clear HB; have HO155 := n0_; have HO158 := n1_; have BK151 := n2_; have HB := n3_; clear n0_ n1_ n2_ n3_; (try clear hb); (try clear hb2); (try clear hk); (try clear hi); (try clear ho0); (try clear ho1); obtain ⟨Ao19, co19, eo19⟩ := Kd.R_slice HO155.out; subst eo19; obtain ⟨Ao20, co20, eo20⟩ := Kd.R_slice HO158.out; subst eo20) | ((with_reducible refine gate_callee (f := 16) rfl ?_); refine goesL_ (some 31) rfl rfl Try.func16 (by kernel_rfl) rfl #[.agg #[.slice Ao19 t153.length co19, .slice Ao20 t156.length co20], .int .i64 a1, .int .i64 a2] rfl (by (try simp only [List.map_toArray, List.map_cons, List.map_nil]); first | done | rfl | (simp only [List.length_drop, List.length_take]; rfl)) ?_; (with_reducible refine (spec_ShortestChain.calls _ _ t153 _ _ t156 a1 a2 t159 t162 t163 _ ?side1 ?side2 ?side3 ?side4 A10.out).mono ?_); (case side1 => exact cz_ (Kd.R_reads' HO155.out).2.2); (case side2 => exact (Kd.R_reads' HO155.out).2.1); (case side3 => exact cz_ (Kd.R_reads' HO158.out).2.2); (case side4 => exact (Kd.R_reads' HO158.out).2.1); rintro e w21 ⟨v160, rfl, ho0, hb⟩; refine ⟨_, rfl, ?_⟩; have n0_ := Aside0.mk (Kd.R_below (rz_ HO155.out) hb); have n1_ := Aside0.mk (Kd.R_below (rz_ HO158.out) hb); have n2_ := Aside0.mk (Kd.R_lower ho0 (below_size (by repeat (first | (with_reducible first | exact HB.out | apply below_alloc | apply pw_below_drewN | apply below_drew1 | refine below_set ?_ GE151.out) | exact HB.out)))); have n3_ := Aside0.mk (blk_below (bz_ BK151.out) hb); have n4_ := Aside0.mk (below_step (by repeat (first | (with_reducible first | exact HB.out | apply below_alloc | apply pw_below_drewN | apply below_drew1 | refine below_set ?_ GE151.out) | exact HB.out)) hb); clear HO155; clear HO158; clear BK151; clear HB; have HO155 := n0_; have HO158 := n1_; have HO161 := n2_; have BK151 := n3_; have HB := n4_; clear n0_ n1_ n2_ n3_ n4_; (try clear hb); (try clear hb2); (try clear hk); (try clear hi); (try clear ho0); have hcz22_0 : w21.cell? ⟨gb151, 0, none⟩ = some (.slice A0_0 l0_0.length c0_0) := (blk_cell BK151.out 0).trans rfl; have hcz22_1 : w21.cell? ⟨gb151, 1, none⟩ = some (.slice A0_1 l0_1.length c0_1) := (blk_cell BK151.out 1).trans rfl; have hfz22_0 := blk_frozen BK151.out 0; have hfz22_1 := blk_frozen BK151.out 1) | ((with_reducible refine gate_callee (f := 17) rfl ?_); refine goesL_ (some 36) rfl rfl Try.func17 (by kernel_rfl) rfl #[.agg #[.slice A0_0 l0_0.length c0_0, .slice A0_1 l0_1.length c0_1]] rfl (by (try simp only [List.map_toArray, List.map_cons, List.map_nil]); first | done | rfl | (simp only [List.length_drop, List.length_take]; rfl)) ?_; (with_reducible refine (laws_toRecord.calls k _ _ l0_0 _ _ l0_1 t164 t167 _ ?side1 ?side2 ?side3 ?side4 A11.out).mono ?_); (case side1 => exact cz_ (Kd.C_below HR0_0.out HB.out)); (case side2 => exact HC0_0.out); (case side3 => exact cz_ (Kd.C_below HR0_1.out HB.out)); (case side4 => exact HC0_1.out); rintro e w23 ⟨v165, v168, rfl, ho0, ho1, hb⟩; refine ⟨_, rfl, ?_⟩; have n0_ := Aside0.mk (Kd.R_elder' (rz_ HO155.out) (Kd.R_base ho0) hb); have n1_ := Aside0.mk (Kd.R_elder' (rz_ HO158.out) (Kd.R_base ho1) hb); have n2_ := Aside0.mk (Kd.R_below (rz_ HO161.out) hb); have n3_ := Aside0.mk (Kd.R_lower (Kd.R_new' ho0 (Kd.R_lt (rz_ HO155.out))) (below_size (by repeat (first | (with_reducible first | exact HB.out | apply below_alloc | apply pw_below_drewN | apply below_drew1 | refine below_set ?_ GE151.out) | exact HB.out)))); have n4_ := Aside0.mk (Kd.R_lower (Kd.R_new' ho1 (Kd.R_lt (rz_ HO158.out))) (below_size (by repeat (first | (with_reducible first | exact HB.out | apply below_alloc | apply pw_below_drewN | apply below_drew1 | refine below_set ?_ GE151.out) | exact HB.out)))); have n5_ := Aside0.mk (blk_below (bz_ BK151.out) hb); have n6_ := Aside0.mk (below_step (by repeat (first | (with_reducible first | exact HB.out | apply below_alloc | apply pw_below_drewN | apply below_drew1 | refine below_set ?_ GE151.out) | exact HB.out)) hb); clear HO155; clear HO158; clear HO161; clear BK151; clear HB; have HO155 := n0_; have HO158 := n1_; have HO161 := n2_; have HO166 := n3_; have HO169 := n4_; have BK151 := n5_; have HB := n6_; clear n0_ n1_ n2_ n3_ n4_ n5_ n6_; (try clear hb); (try clear hb2); (try clear hk); (try clear hi); (try clear ho0); (try clear ho1)) | ((with_reducible refine gate_dst (N := 11) rfl ?_); refine box_event ?hg (N := 11) ?hd (cs := #[.slice none 0 0, .slice none 0 0]) (t := 33) ?hr ?_; (case hd => rfl); (case hg => rfl); (case hr => first | (go_simp; done) | (go_simp; rfl)); intro gb170 hg w24 hbox hb; have n0_ := Aside0.mk (Kd.R_below (rz_ HO155.out) hb); have n1_ := Aside0.mk (Kd.R_below (rz_ HO158.out) hb); have n2_ := Aside0.mk (Kd.R_below (rz_ HO161.out) hb); have n3_ := Aside0.mk (Kd.R_below (rz_ HO166.out) hb); have n4_ := Aside0.mk (Kd.R_below (rz_ HO169.out) hb); have n5_ := Aside0.mk (blk_below (bz_ BK151.out) hb); have n6_ := Aside0.mk (below_step (by repeat (first | (with_reducible first | exact HB.out | apply below_alloc | apply pw_below_drewN | apply below_drew1 | refine below_set ?_ GE151.out) | exact HB.out)) hb); have n7_ := Aside0.mk (hbox); have n8_ := Aside0.mk ((by rw [hg]; exact (below_size (by repeat (first | (with_reducible first | exact HB.out | apply below_alloc | apply pw_below_drewN | apply below_drew1 | refine below_set ?_ GE151.out) | exact HB.out))) : w.heap.size ≤ gb170)); have n9_ := Aside0.mk ((by rw [hg]; exact (below_size (by repeat (first | (with_reducible first | exact HB.out | apply below_alloc | apply pw_below_drewN | apply below_drew1 | refine below_set ?_ GE151.out) | exact HB.out))) : w.heap.size ≤ gb170)); have n10_ := Aside0.mk ((by rw [hg]; exact Nat.ne_of_lt (blk_lt (g := gb151) (o := .cells #[.slice A0_0 l0_0.length c0_0, .slice A0_1 l0_1.length c0_1] 25 (0, 0)) (bz_ BK151.out)) : gb151 ≠ gb170)); have n11_ := Aside0.mk ((by rw [hg]; exact Nat.ne_of_gt (blk_lt (g := gb151) (o := .cells #[.slice A0_0 l0_0.length c0_0, .slice A0_1 l0_1.length c0_1] 25 (0, 0)) (bz_ BK151.out)) : gb170 ≠ gb151)); clear HO155; clear HO158; clear HO161; clear HO166; clear HO169; clear BK151; clear HB; have HO155 := n0_; have HO158 := n1_; have HO161 := n2_; have HO166 := n3_; have HO169 := n4_; have BK151 := n5_; have HB := n6_; have BK170 := n7_; have GW170 := n8_; have GE170 := n9_; have NB151_170 := n10_; have NB170_151 := n11_; clear n0_ n1_ n2_ n3_ n4_ n5_ n6_ n7_ n8_ n9_ n10_ n11_; clear hb hbox hg; obtain ⟨Ao25, co25, eo25⟩ := Kd.R_slice HO166.out; subst eo25; have hnb26 := NB170_151.out; have hnc26 := NB151_170.out; have hcz27_0 : w24.cell? ⟨gb170, 0, none⟩ = some (.slice none 0 0) := (blk_cell BK170.out 0).trans rfl; have hcz27_1 : w24.cell? ⟨gb170, 1, none⟩ = some (.slice none 0 0) := (blk_cell BK170.out 1).trans rfl; have hfz27_0 := blk_frozen BK170.out 0; have hfz27_1 := blk_frozen BK170.out 1; obtain ⟨Ao28, co28, eo28⟩ := Kd.R_slice HO169.out; subst eo28) | ((with_reducible refine gate_callee (f := 18) rfl ?_); refine goesL_ (some 41) rfl rfl Try.func18 (by kernel_rfl) rfl #[.agg #[.slice Ao25 t164.length co25, .slice Ao28 t167.length co28], .int .i64 a1, .int .i64 a2] rfl (by (try simp only [List.map_toArray, List.map_cons, List.map_nil]); first | done | rfl | (simp only [List.length_drop, List.length_take]; rfl)) ?_; (with_reducible refine (impl_ShortestChain.calls _ _ t164 _ _ t167 a1 a2 t171 t174 t175 _ ?side1 ?side2 ?side3 ?side4 A12.out).mono ?_); (case side1 => refine (Kd.R_reads' (e := 86) (base := w.heap.size) (ok := fun k_ => (True ∧ some k_ ≠ (.slice Ao19 t153.length co19 : Value).ownBlock)) (n := t164.length) (c := co25) ?_).2.2; exact (rz_ (Kd.R_mono (Kd.R_far (p := ⟨gb170, 1, none⟩) (Kd.R_far (p := ⟨gb170, 0, none⟩) (Kd.R_types HO166.out BK170.out (by decide)) (fun _ hk => hk.2) (.slice Ao25 t164.length co25)) (fun _ hk => hk.2) (.slice Ao28 t167.length co28)) (fun _ h_ => h_.1)))); (case side2 => exact (Kd.R_reads' HO166.out).2.1); (case side3 => refine (Kd.R_reads' (e := 95) (base := w.heap.size) (ok := fun k_ => (True ∧ some k_ ≠ (.slice Ao20 t156.length co20 : Value).ownBlock)) (n := t167.length) (c := co28) ?_).2.2; exact (rz_ (Kd.R_mono (Kd.R_far (p := ⟨gb170, 1, none⟩) (Kd.R_far (p := ⟨gb170, 0, none⟩) (Kd.R_types HO169.out BK170.out (by decide)) (fun _ hk => hk.2) (.slice Ao25 t164.length co25)) (fun _ hk => hk.2) (.slice Ao28 t167.length co28)) (fun _ h_ => h_.1)))); (case side4 => exact (Kd.R_reads' HO169.out).2.1); rintro e w29 ⟨v172, rfl, ho0, hb⟩; refine ⟨_, rfl, ?_⟩; have n0_ := Aside0.mk (Kd.R_below (rz_ (Kd.R_mono (Kd.R_far (p := ⟨gb170, 1, none⟩) (Kd.R_far (p := ⟨gb170, 0, none⟩) (Kd.R_types HO155.out BK170.out (by decide)) (fun _ hk => hk.2) (.slice Ao25 t164.length co25)) (fun _ hk => hk.2) (.slice Ao28 t167.length co28)) (fun _ h_ => h_.1))) hb); have n1_ := Aside0.mk (Kd.R_below (rz_ (Kd.R_mono (Kd.R_far (p := ⟨gb170, 1, none⟩) (Kd.R_far (p := ⟨gb170, 0, none⟩) (Kd.R_types HO158.out BK170.out (by decide)) (fun _ hk => hk.2) (.slice Ao25 t164.length co25)) (fun _ hk => hk.2) (.slice Ao28 t167.length co28)) (fun _ h_ => h_.1))) hb); have n2_ := Aside0.mk (Kd.R_elder' (rz_ (Kd.R_mono (Kd.R_far (p := ⟨gb170, 1, none⟩) (Kd.R_far (p := ⟨gb170, 0, none⟩) (Kd.R_types HO161.out BK170.out (by decide)) (fun _ hk => hk.2) (.slice Ao25 t164.length co25)) (fun _ hk => hk.2) (.slice Ao28 t167.length co28)) (fun _ h_ => h_.1))) (Kd.R_base ho0) hb); have n3_ := Aside0.mk (Kd.R_below (rz_ (Kd.R_mono (Kd.R_far (p := ⟨gb170, 1, none⟩) (Kd.R_far (p := ⟨gb170, 0, none⟩) (Kd.R_types HO166.out BK170.out (by decide)) (fun _ hk => hk.2) (.slice Ao25 t164.length co25)) (fun _ hk => hk.2) (.slice Ao28 t167.length co28)) (fun _ h_ => h_.1))) hb); have n4_ := Aside0.mk (Kd.R_below (rz_ (Kd.R_mono (Kd.R_far (p := ⟨gb170, 1, none⟩) (Kd.R_far (p := ⟨gb170, 0, none⟩) (Kd.R_types HO169.out BK170.out (by decide)) (fun _ hk => hk.2) (.slice Ao25 t164.length co25)) (fun _ hk => hk.2) (.slice Ao28 t167.length co28)) (fun _ h_ => h_.1))) hb); have n5_ := Aside0.mk (Kd.R_lower (Kd.R_new' ho0 (Kd.R_lt (rz_ (Kd.R_mono (Kd.R_far (p := ⟨gb170, 1, none⟩) (Kd.R_far (p := ⟨gb170, 0, none⟩) (Kd.R_types HO161.out BK170.out (by decide)) (fun _ hk => hk.2) (.slice Ao25 t164.length co25)) (fun _ hk => hk.2) (.slice Ao28 t167.length co28)) (fun _ h_ => h_.1))))) (below_size (by repeat (first | (with_reducible first | exact HB.out | apply below_alloc | apply pw_below_drewN | apply below_drew1 | refine below_set ?_ GE151.out | refine below_set ?_ GE170.out) | exact HB.out)))); have n6_ := Aside0.mk (blk_below (g := gb151) (o := .cells #[.slice A0_0 l0_0.length c0_0, .slice A0_1 l0_1.length c0_1] 25 (0, 0)) (by (with_reducible repeat (first | refine blk_drewN ?_ _ | refine blk_drew ?_ | refine blk_alloc ?_ _)); refine blk_far ?_ NB151_170.out _; (with_reducible repeat (first | refine blk_drewN ?_ _ | refine blk_drew ?_ | refine blk_alloc ?_ _)); refine blk_far ?_ NB151_170.out _; (with_reducible repeat (first | refine blk_drewN ?_ _ | refine blk_drew ?_ | refine blk_alloc ?_ _)); exact BK151.out) hb); have n7_ := Aside0.mk (blk_below (g := gb170) (o := .cells #[.slice Ao25 t164.length co25, .slice Ao28 t167.length co28] 33 (0, 0)) (by (with_reducible repeat (first | refine blk_drewN ?_ _ | refine blk_drew ?_ | refine blk_alloc ?_ _)); refine blk_put (cs := #[.slice Ao25 t164.length co25, .slice none 0 0]) ?_ 1 _ rfl; (with_reducible repeat (first | refine blk_drewN ?_ _ | refine blk_drew ?_ | refine blk_alloc ?_ _)); refine blk_put (cs := #[.slice none 0 0, .slice none 0 0]) ?_ 0 _ rfl; (with_reducible repeat (first | refine blk_drewN ?_ _ | refine blk_drew ?_ | refine blk_alloc ?_ _)); exact BK170.out) hb); have n8_ := Aside0.mk (below_step (by repeat (first | (with_reducible first | exact HB.out | apply below_alloc | apply pw_below_drewN | apply below_drew1 | refine below_set ?_ GE151.out | refine below_set ?_ GE170.out) | exact HB.out)) hb); clear HO155; clear HO158; clear HO161; clear HO166; clear HO169; clear BK151; clear BK170; clear HB; have HO155 := n0_; have HO158 := n1_; have HO161 := n2_; have HO166 := n3_; have HO169 := n4_; have HO173 := n5_; have BK151 := n6_; have BK170 := n7_; have HB := n8_; clear n0_ n1_ n2_ n3_ n4_ n5_ n6_ n7_ n8_; (try clear hb); (try clear hb2); (try clear hk); (try clear hi); (try clear ho0)))
  (try simp only [Act.put, List.setIfInBounds_toArray, List.set_cons_zero, List.set_cons_succ])
  go_cut [58] (fun v58 wc => ∃ (kq : Nat) (x58_12 : Bool), v58 = .bool x58_12 ∧ Aside0 (laws_FnExactShortestChain.j0 kq a1 a2 t159 t162 t163 t171 t174 t175 x58_12 l0_0 l0_1 t164 t167 = some r) ∧ Aside0 (kq ≤ k) ∧ Aside0 (Kd.R (Kd.int .i64) 3 wc w.heap.size (fun k_ => some k_ ≠ (v172 : Value).ownBlock) v160 t159) ∧ Aside0 (Kd.R (Kd.int .i64) 3 wc w.heap.size (fun k_ => some k_ ≠ (v160 : Value).ownBlock) v172 t171) ∧ Aside0 (Kd.R k86 86 wc w.heap.size (fun _ => True) (.slice Ao25 t164.length co25) t164) ∧ Aside0 (Kd.R k95 95 wc w.heap.size (fun _ => True) (.slice Ao28 t167.length co28) t167) ∧ Aside0 (wc.heap[gb151]? = some (.cells #[(.slice A0_0 l0_0.length c0_0), (.slice A0_1 l0_1.length c0_1)] 25 (0, 0))) ∧ Aside0 (wc.heap[gb170]? = some (.cells #[(.slice Ao25 t164.length co25), (.slice Ao28 t167.length co28)] 33 (0, 0))) ∧ Aside0 (Below w.heap.size w wc))
  case first =>
   have H := HC13.out
   clear HC13
   replace H := Option.bind_eq_some_iff.mp H
   obtain ⟨t176, A300, H⟩ := H
   replace H : (if t176 = true then (if (t174 != t162) = true then (laws_FnExactShortestChain.j0 k a1 a2 t159 t162 t163 t171 t174 t175 true l0_0 l0_1 t164 t167) else (laws_FnExactShortestChain.j0 k a1 a2 t159 t162 t163 t171 t174 t175 (t175 != t163) l0_0 l0_1 t164 t167)) else (laws_FnExactShortestChain.j0 k a1 a2 t159 t162 t163 t171 t174 t175 true l0_0 l0_1 t164 t167)) = some r := H
   have A30 := Aside0.mk A300
   clear A300
   by_cases c31 : t176 = true
   ·subst c31
    have H1 : (if (t174 != t162) = true then (laws_FnExactShortestChain.j0 k a1 a2 t159 t162 t163 t171 t174 t175 true l0_0 l0_1 t164 t167) else (laws_FnExactShortestChain.j0 k a1 a2 t159 t162 t163 t171 t174 t175 (t175 != t163) l0_0 l0_1 t164 t167)) = some r := by rw [if_pos rfl] at H; exact H
    clear H
    have H := H1
    clear H1
    by_cases c32 : (t174 != t162) = true
    ·rw [if_pos c32] at H
     have c32b0 : (t174 != t162) = true := c32
     (try (have c32b1 : decide (t174 = t162) = false := by simpa using c32))
     (try (have c32b2 : (t174 == t162) = false := by simpa using c32))
     (try (have c32b3 : ¬ (t174 = t162) := by simpa using c32))
     clear c32
     (first | rw [c32b0] | (simp only [i64_w, i32_w]; rw [c32b0]) | skip)
     have H' := Aside0.mk H
     clear H
     obtain ⟨Ao33, co33, eo33⟩ := Kd.R_slice HO173.out
     subst eo33
     obtain ⟨Ao34, co34, eo34⟩ := Kd.R_slice HO161.out
     subst eo34
     go_wp2_with (first | ((with_reducible refine gate_callee (f := 19) rfl ?_); refine goesL_ (some 47) rfl rfl Try.func19 (by kernel_rfl) rfl #[.slice Ao33 t171.length co33, .slice Ao34 t159.length co34] rfl (by (try simp only [List.map_toArray, List.map_cons, List.map_nil]); first | done | rfl | (simp only [List.length_drop, List.length_take]; rfl)) ?_; (with_reducible refine (laws_eqIntS.calls k _ _ t171 _ _ t159 true _ ?side1 ?side2 ?side3 ?side4 A30.out).mono ?_); (case side1 => exact cz_ (Kd.R_reads' HO173.out).2.2); (case side2 => exact (Kd.R_reads' HO173.out).2.1); (case side3 => exact cz_ (Kd.R_reads' HO161.out).2.2); (case side4 => exact (Kd.R_reads' HO161.out).2.1); rintro e w' ⟨rfl, ⟨nd, rfl⟩⟩; refine ⟨_, rfl, ?_⟩))
     go_meet
     case rel => exact ⟨_, (true), (by first | rfl | (simp; done) | (simp [*]; done)), H', ⟨by first | omega | exact Nat.le_refl _⟩, ⟨rz_ (Kd.R_mono HO161.out (fun _ hk => hk.2))⟩, ⟨rz_ (Kd.R_mono HO173.out (fun _ hk => hk.2))⟩, ⟨rz_ (Kd.R_mono HO166.out (fun _ hk => trivial))⟩, ⟨rz_ (Kd.R_mono HO169.out (fun _ hk => trivial))⟩, ⟨bz_ BK151.out⟩, ⟨bz_ BK170.out⟩, ⟨by repeat (first | (with_reducible first | exact HB.out | apply below_alloc | apply pw_below_drewN | apply below_drew1 | refine below_set ?_ GE151.out | refine below_set ?_ GE170.out) | exact HB.out)⟩⟩
    ·rw [if_neg c32] at H
     have c32b0 : (t174 != t162) = false := by simpa using c32
     (try (have c32b1 : decide (t174 = t162) = true := by simpa using c32))
     (try (have c32b2 : (t174 == t162) = true := by simpa using c32))
     clear c32
     (first | rw [c32b0] | (simp only [i64_w, i32_w]; rw [c32b0]) | skip)
     have H' := Aside0.mk H
     clear H
     obtain ⟨Ao35, co35, eo35⟩ := Kd.R_slice HO173.out
     subst eo35
     obtain ⟨Ao36, co36, eo36⟩ := Kd.R_slice HO161.out
     subst eo36
     go_wp2_with (first | ((with_reducible refine gate_callee (f := 19) rfl ?_); refine goesL_ (some 47) rfl rfl Try.func19 (by kernel_rfl) rfl #[.slice Ao35 t171.length co35, .slice Ao36 t159.length co36] rfl (by (try simp only [List.map_toArray, List.map_cons, List.map_nil]); first | done | rfl | (simp only [List.length_drop, List.length_take]; rfl)) ?_; (with_reducible refine (laws_eqIntS.calls k _ _ t171 _ _ t159 true _ ?side1 ?side2 ?side3 ?side4 A30.out).mono ?_); (case side1 => exact cz_ (Kd.R_reads' HO173.out).2.2); (case side2 => exact (Kd.R_reads' HO173.out).2.1); (case side3 => exact cz_ (Kd.R_reads' HO161.out).2.2); (case side4 => exact (Kd.R_reads' HO161.out).2.1); rintro e w' ⟨rfl, ⟨nd, rfl⟩⟩; refine ⟨_, rfl, ?_⟩))
     go_meet
     case rel => exact ⟨_, ((t175 != t163)), (by first | rfl | (simp; done) | (simp [*]; done)), H', ⟨by first | omega | exact Nat.le_refl _⟩, ⟨rz_ (Kd.R_mono HO161.out (fun _ hk => hk.2))⟩, ⟨rz_ (Kd.R_mono HO173.out (fun _ hk => hk.2))⟩, ⟨rz_ (Kd.R_mono HO166.out (fun _ hk => trivial))⟩, ⟨rz_ (Kd.R_mono HO169.out (fun _ hk => trivial))⟩, ⟨bz_ BK151.out⟩, ⟨bz_ BK170.out⟩, ⟨by repeat (first | (with_reducible first | exact HB.out | apply below_alloc | apply pw_below_drewN | apply below_drew1 | refine below_set ?_ GE151.out | refine below_set ?_ GE170.out) | exact HB.out)⟩⟩
   ·replace c31 := Bool.eq_false_iff.mpr c31
    subst c31
    have H1 : (laws_FnExactShortestChain.j0 k a1 a2 t159 t162 t163 t171 t174 t175 true l0_0 l0_1 t164 t167) = some r := by rw [if_neg (show ¬ (false = true) by decide)] at H; exact H
    clear H
    have H := H1
    clear H1
    have H' := Aside0.mk H
    clear H
    obtain ⟨Ao37, co37, eo37⟩ := Kd.R_slice HO173.out
    subst eo37
    obtain ⟨Ao38, co38, eo38⟩ := Kd.R_slice HO161.out
    subst eo38
    go_wp2_with (first | ((with_reducible refine gate_callee (f := 19) rfl ?_); refine goesL_ (some 47) rfl rfl Try.func19 (by kernel_rfl) rfl #[.slice Ao37 t171.length co37, .slice Ao38 t159.length co38] rfl (by (try simp only [List.map_toArray, List.map_cons, List.map_nil]); first | done | rfl | (simp only [List.length_drop, List.length_take]; rfl)) ?_; (with_reducible refine (laws_eqIntS.calls k _ _ t171 _ _ t159 false _ ?side1 ?side2 ?side3 ?side4 A30.out).mono ?_); (case side1 => exact cz_ (Kd.R_reads' HO173.out).2.2); (case side2 => exact (Kd.R_reads' HO173.out).2.1); (case side3 => exact cz_ (Kd.R_reads' HO161.out).2.2); (case side4 => exact (Kd.R_reads' HO161.out).2.1); rintro e w' ⟨rfl, ⟨nd, rfl⟩⟩; refine ⟨_, rfl, ?_⟩))
    go_meet
    case rel => exact ⟨_, (true), (by first | rfl | (simp; done) | (simp [*]; done)), H', ⟨by first | omega | exact Nat.le_refl _⟩, ⟨rz_ (Kd.R_mono HO161.out (fun _ hk => hk.2))⟩, ⟨rz_ (Kd.R_mono HO173.out (fun _ hk => hk.2))⟩, ⟨rz_ (Kd.R_mono HO166.out (fun _ hk => trivial))⟩, ⟨rz_ (Kd.R_mono HO169.out (fun _ hk => trivial))⟩, ⟨bz_ BK151.out⟩, ⟨bz_ BK170.out⟩, ⟨by repeat (first | (with_reducible first | exact HB.out | apply below_alloc | apply pw_below_drewN | apply below_drew1 | refine below_set ?_ GE151.out | refine below_set ?_ GE170.out) | exact HB.out)⟩⟩
  case rest =>
   clear HC13
   try clear c1
   try clear c2
   try clear p2
   try clear c3
   try clear c5
   try clear c5b0
   try clear c15
   try clear c16
   try clear c17
   try clear c18
   try clear c19
   try clear c26
   try clear c31
   try clear c32
   try clear c32b0
   try clear c32b1
   try clear c32b2
   try clear hcz15_0
   try clear hcz15_1
   try clear hcz17_0
   try clear hcz17_1
   try clear hcz22_0
   try clear hcz22_1
   try clear hcz27_0
   try clear hcz27_1
   try clear hcz7_0
   try clear hcz7_1
   try clear hfz15_0
   try clear hfz15_1
   try clear hfz17_0
   try clear hfz17_1
   try clear hfz22_0
   try clear hfz22_1
   try clear hfz27_0
   try clear hfz27_1
   try clear hfz7_0
   try clear hfz7_1
   obtain ⟨kq, x58_12, rfl, HA, HJ12, HO_8, HO_12, HO_171000, HO_171001, BK151, BK170, HB⟩ := hcut
   cases kq with
   | zero => exact absurd HA.out (by simp [laws_FnExactShortestChain.j0])
   | succ kj12 =>
    have H := HA.out
    clear HA
    simp only [laws_FnExactShortestChain.j0] at H
    by_cases c39 : x58_12 = true
    ·subst c39
     have H1 : (some false) = some r := by rw [if_pos rfl] at H; exact H
     clear H
     have H := H1
     clear H1
     obtain rfl := Option.some.inj H
     go_wp2
     go_ret
     exact ⟨by first | rfl | (simp [errW_none, errW_some] <;> rfl) | (simp [*, errW_none, errW_some] <;> rfl), by repeat (first | (with_reducible first | exact HB.out | apply below_alloc | apply pw_below_drewN | apply below_drew1 | refine below_set ?_ GE151.out | refine below_set ?_ GE170.out) | exact HB.out)⟩
    ·replace c39 := Bool.eq_false_iff.mpr c39
     subst c39
     have H1 : ((laws_toRecord.f kj12 l0_0 l0_1).bind fun bt177 => ((laws_eqRecord.f kj12 t164 t167 bt177.1 bt177.2).bind fun t183 => (if t183 = true then ((laws_markRecord.f kj12 t164 t167 1).bind fun bt184 => (if bt184.1 < 0 then (laws_FnExactShortestChain.j1 kj12 a1 a2 t159 t162 t163 t171 true l0_0 l0_1) else ((laws_eqIntS.f kj12 t171 t159).bind fun t187 => (if t187 = true then (if (t174 != t162) = true then (laws_FnExactShortestChain.j1 kj12 a1 a2 t159 t162 t163 t171 true l0_0 l0_1) else (laws_FnExactShortestChain.j1 kj12 a1 a2 t159 t162 t163 t171 (t175 != t163) l0_0 l0_1)) else (laws_FnExactShortestChain.j1 kj12 a1 a2 t159 t162 t163 t171 true l0_0 l0_1))))) else (some false)))) = some r := by rw [if_neg (show ¬ (false = true) by decide)] at H; exact H
     clear H
     have H := H1
     clear H1
     replace H := Option.bind_eq_some_iff.mp H
     obtain ⟨⟨t177, t180⟩, A400, H⟩ := H
     replace H : ((laws_eqRecord.f kj12 t164 t167 t177 t180).bind fun t183 => (if t183 = true then ((laws_markRecord.f kj12 t164 t167 1).bind fun bt184 => (if bt184.1 < 0 then (laws_FnExactShortestChain.j1 kj12 a1 a2 t159 t162 t163 t171 true l0_0 l0_1) else ((laws_eqIntS.f kj12 t171 t159).bind fun t187 => (if t187 = true then (if (t174 != t162) = true then (laws_FnExactShortestChain.j1 kj12 a1 a2 t159 t162 t163 t171 true l0_0 l0_1) else (laws_FnExactShortestChain.j1 kj12 a1 a2 t159 t162 t163 t171 (t175 != t163) l0_0 l0_1)) else (laws_FnExactShortestChain.j1 kj12 a1 a2 t159 t162 t163 t171 true l0_0 l0_1))))) else (some false))) = some r := H
     have A40 := Aside0.mk A400
     clear A400
     replace H := Option.bind_eq_some_iff.mp H
     obtain ⟨t183, A410, H⟩ := H
     replace H : (if t183 = true then ((laws_markRecord.f kj12 t164 t167 1).bind fun bt184 => (if bt184.1 < 0 then (laws_FnExactShortestChain.j1 kj12 a1 a2 t159 t162 t163 t171 true l0_0 l0_1) else ((laws_eqIntS.f kj12 t171 t159).bind fun t187 => (if t187 = true then (if (t174 != t162) = true then (laws_FnExactShortestChain.j1 kj12 a1 a2 t159 t162 t163 t171 true l0_0 l0_1) else (laws_FnExactShortestChain.j1 kj12 a1 a2 t159 t162 t163 t171 (t175 != t163) l0_0 l0_1)) else (laws_FnExactShortestChain.j1 kj12 a1 a2 t159 t162 t163 t171 true l0_0 l0_1))))) else (some false)) = some r := H
     have A41 := Aside0.mk A410
     clear A410
     by_cases c42 : t183 = true
     ·subst c42
      have H1 : ((laws_markRecord.f kj12 t164 t167 1).bind fun bt184 => (if bt184.1 < 0 then (laws_FnExactShortestChain.j1 kj12 a1 a2 t159 t162 t163 t171 true l0_0 l0_1) else ((laws_eqIntS.f kj12 t171 t159).bind fun t187 => (if t187 = true then (if (t174 != t162) = true then (laws_FnExactShortestChain.j1 kj12 a1 a2 t159 t162 t163 t171 true l0_0 l0_1) else (laws_FnExactShortestChain.j1 kj12 a1 a2 t159 t162 t163 t171 (t175 != t163) l0_0 l0_1)) else (laws_FnExactShortestChain.j1 kj12 a1 a2 t159 t162 t163 t171 true l0_0 l0_1))))) = some r := by rw [if_pos rfl] at H; exact H
      clear H
      have H := H1
      clear H1
      replace H := Option.bind_eq_some_iff.mp H
      obtain ⟨⟨t184, t185, t186⟩, A430, H⟩ := H
      replace H : (if t184 < 0 then (laws_FnExactShortestChain.j1 kj12 a1 a2 t159 t162 t163 t171 true l0_0 l0_1) else ((laws_eqIntS.f kj12 t171 t159).bind fun t187 => (if t187 = true then (if (t174 != t162) = true then (laws_FnExactShortestChain.j1 kj12 a1 a2 t159 t162 t163 t171 true l0_0 l0_1) else (laws_FnExactShortestChain.j1 kj12 a1 a2 t159 t162 t163 t171 (t175 != t163) l0_0 l0_1)) else (laws_FnExactShortestChain.j1 kj12 a1 a2 t159 t162 t163 t171 true l0_0 l0_1)))) = some r := H
      have A43 := Aside0.mk A430
      clear A430
      have HC44 := Aside0.mk H
      clear H
      try go_wp2
      have n0_ := Aside0.mk (Kd.R_drew HO_8.out)
      have n1_ := Aside0.mk (Kd.R_drew HO_12.out)
      have n2_ := Aside0.mk (Kd.R_drew HO_171000.out)
      have n3_ := Aside0.mk (Kd.R_drew HO_171001.out)
      have n4_ := Aside0.mk (blk_drew BK151.out)
      have n5_ := Aside0.mk (blk_drew BK170.out)
      have n6_ := Aside0.mk (below_drew1 HB.out)
      clear HO_8
      clear HO_12
      clear HO_171000
      clear HO_171001
      clear BK151
      clear BK170
      clear HB
      have HO_8 := n0_
      have HO_12 := n1_
      have HO_171000 := n2_
      have HO_171001 := n3_
      have BK151 := n4_
      have BK170 := n5_
      have HB := n6_
      clear n0_ n1_ n2_ n3_ n4_ n5_ n6_
      refine start_ (n := 5) (S := fun w' => w'.cell? ⟨gb170, 0, none⟩ = some (.slice Ao25 t164.length co25) ∧ w'.cell? ⟨gb170, 1, none⟩ = some (.slice Ao28 t167.length co28) ∧ w'.cell? ⟨gb151, 0, none⟩ = some (.slice A0_0 l0_0.length c0_0) ∧ w'.cell? ⟨gb151, 1, none⟩ = some (.slice A0_1 l0_1.length c0_1)) (ds := []) #[false, false, false, false, false] (by kernel_rfl) rfl rfl ⟨(blk_cell BK170.out 0).trans rfl, (blk_cell BK170.out 1).trans rfl, (blk_cell BK151.out 0).trans rfl, (blk_cell BK151.out 1).trans rfl⟩ (fun hHeld => ?_)
      generalize wc.drew = w45 at HO_8 HO_12 HO_171000 HO_171001 BK151 BK170 HB hHeld ⊢
      refine take_ (i := 0) (N := some 59) (v := ?_) (a' := ?_) #[true, false, false, false, false] rfl rfl (by kernel_rfl) (fun _ _ _ h => h) (Or.inl ⟨by rfl, ?_⟩) hHeld ?_ ?_
      rotate_left
      ·rintro w' ⟨s0, s1, s2, s3⟩
       go_simp
       with_reducible rfl
      rotate_left
      ·simp only [Act.put, List.setIfInBounds_toArray, List.set_cons_zero, List.set_cons_succ, i64_w, i32_w]
       rfl
      refine take_ (i := 1) (N := some 60) (v := ?_) (a' := ?_) #[true, true, false, false, false] rfl rfl (by kernel_rfl) (fun _ _ _ h => h) (Or.inl ⟨by rfl, ?_⟩) hHeld ?_ ?_
      rotate_left
      ·rintro w' ⟨s0, s1, s2, s3⟩
       go_simp
       with_reducible rfl
      rotate_left
      ·simp only [Act.put, List.setIfInBounds_toArray, List.set_cons_zero, List.set_cons_succ, i64_w, i32_w]
       rfl
      refine one_ (i := 2) (N := some 61) (bl 3 5) rfl rfl (by kernel_rfl) (by decide) (fun K hK => ?_)
      refine goes_ Try.func17 (by kernel_rfl) rfl #[.agg #[.slice A0_0 l0_0.length c0_0, .slice A0_1 l0_1.length c0_1]] (by rfl) rfl rfl (by (try simp only [List.map_toArray, List.map_cons, List.map_nil]); first | done | rfl | (simp only [List.length_drop, List.length_take]; rfl)) ?_
      with_reducible refine (laws_toRecord.calls kj12 _ _ l0_0 _ _ l0_1 t177 t180 _ ?side1 ?side2 ?side3 ?side4 A40.out).mono ?_
      (case side1 => exact cz_ (Kd.C_below HR0_0.out HB.out))
      (case side2 => exact HC0_0.out)
      (case side3 => exact cz_ (Kd.C_below HR0_1.out HB.out))
      (case side4 => exact HC0_1.out)
      rintro e w46 ⟨v178, v181, rfl, ho0, ho1, hb⟩
      refine ⟨_, rfl, ?_⟩
      have n0_ := Aside0.mk (Kd.R_below (rz_ HO_8.out) hb)
      have n1_ := Aside0.mk (Kd.R_below (rz_ HO_12.out) hb)
      have n2_ := Aside0.mk (Kd.R_elder' (rz_ HO_171000.out) (Kd.R_base ho0) hb)
      have n3_ := Aside0.mk (Kd.R_elder' (rz_ HO_171001.out) (Kd.R_base ho1) hb)
      have n4_ := Aside0.mk (Kd.R_lower (Kd.R_new' ho0 (Kd.R_lt (rz_ HO_171000.out))) (below_size (by repeat (first | (with_reducible first | exact HB.out | apply below_alloc | apply pw_below_drewN | apply below_drew1 | refine below_set ?_ GE151.out | refine below_set ?_ GE170.out) | exact HB.out))))
      have n5_ := Aside0.mk (Kd.R_lower (Kd.R_new' ho1 (Kd.R_lt (rz_ HO_171001.out))) (below_size (by repeat (first | (with_reducible first | exact HB.out | apply below_alloc | apply pw_below_drewN | apply below_drew1 | refine below_set ?_ GE151.out | refine below_set ?_ GE170.out) | exact HB.out))))
      have n6_ := Aside0.mk (blk_below (bz_ BK151.out) hb)
      have n7_ := Aside0.mk (blk_below (bz_ BK170.out) hb)
      have n8_ := Aside0.mk (below_step (by repeat (first | (with_reducible first | exact HB.out | apply below_alloc | apply pw_below_drewN | apply below_drew1 | refine below_set ?_ GE151.out | refine below_set ?_ GE170.out) | exact HB.out)) hb)
      clear HO_8
      clear HO_12
      clear HO_171000
      clear HO_171001
      clear BK151
      clear BK170
      clear HB
      have HO_8 := n0_
      have HO_12 := n1_
      have HO_171000 := n2_
      have HO_171001 := n3_
      have HO179 := n4_
      have HO182 := n5_
      have BK151 := n6_
      have BK170 := n7_
      have HB := n8_
      clear n0_ n1_ n2_ n3_ n4_ n5_ n6_ n7_ n8_
      (try clear hb)
      (try clear hb2)
      (try clear hk)
      (try clear hi)
      (try clear ho0)
      (try clear ho1)
      obtain ⟨Ao47, co47, eo47⟩ := Kd.R_slice HO179.out
      (first | subst eo47 | (injection eo47 with f1_ f2_ f3_; have f4_ := f1_.symm; have f5_ := f3_.symm; clear f1_ f2_ f3_; subst f4_; subst f5_))
      obtain ⟨Ao48, co48, eo48⟩ := Kd.R_slice HO182.out
      (first | subst eo48 | (injection eo48 with f1_ f2_ f3_; have f4_ := f1_.symm; have f5_ := f3_.symm; clear f1_ f2_ f3_; subst f4_; subst f5_))
      refine hK.out _ _ ⟨(blk_cell BK170.out 0).trans rfl, (blk_cell BK170.out 1).trans rfl, (blk_cell BK151.out 0).trans rfl, (blk_cell BK151.out 1).trans rfl⟩ (fun hHeld => ?_)
      clear hK K
      refine norm_ (a' := ?_) ?_ ?_
      rotate_left
      ·show Act.put _ (some 61) _ = _
       simp only [Act.put, List.setIfInBounds_toArray, List.set_cons_zero, List.set_cons_succ, i64_w, i32_w]
       rfl
      refine one_ (i := 3) (N := some 62) (bl 4 5) rfl rfl (by kernel_rfl) (by decide) (fun K hK => ?_)
      refine goes_ Try.func20 (by kernel_rfl) rfl #[.agg #[.slice Ao25 t164.length co25, .slice Ao28 t167.length co28], .agg #[.slice Ao47 t177.length co47, .slice Ao48 t180.length co48]] (by rfl) rfl rfl (by (try simp only [List.map_toArray, List.map_cons, List.map_nil]); first | done | rfl | (simp only [List.length_drop, List.length_take]; rfl)) ?_
      with_reducible refine (laws_eqRecord.calls kj12 _ _ t164 _ _ t167 _ _ t177 _ _ t180 true _ ?side1 ?side2 ?side3 ?side4 ?side5 ?side6 ?side7 ?side8 A41.out).mono ?_
      (case side1 => exact cz_ (Kd.R_reads' HO_171000.out).2.2)
      (case side2 => exact (Kd.R_reads' HO_171000.out).2.1)
      (case side3 => exact cz_ (Kd.R_reads' HO_171001.out).2.2)
      (case side4 => exact (Kd.R_reads' HO_171001.out).2.1)
      (case side5 => exact cz_ (Kd.R_reads' HO179.out).2.2)
      (case side6 => exact (Kd.R_reads' HO179.out).2.1)
      (case side7 => exact cz_ (Kd.R_reads' HO182.out).2.2)
      (case side8 => exact (Kd.R_reads' HO182.out).2.1)
      rintro e w49 ⟨rfl, hb⟩
      refine ⟨_, rfl, ?_⟩
      have n0_ := Aside0.mk (Kd.R_below (rz_ HO_8.out) hb)
      have n1_ := Aside0.mk (Kd.R_below (rz_ HO_12.out) hb)
      have n2_ := Aside0.mk (Kd.R_below (rz_ HO_171000.out) hb)
      have n3_ := Aside0.mk (Kd.R_below (rz_ HO_171001.out) hb)
      have n4_ := Aside0.mk (Kd.R_below (rz_ HO179.out) hb)
      have n5_ := Aside0.mk (Kd.R_below (rz_ HO182.out) hb)
      have n6_ := Aside0.mk (blk_below (bz_ BK151.out) hb)
      have n7_ := Aside0.mk (blk_below (bz_ BK170.out) hb)
      have n8_ := Aside0.mk (below_step (by repeat (first | (with_reducible first | exact HB.out | apply below_alloc | apply pw_below_drewN | apply below_drew1 | refine below_set ?_ GE151.out | refine below_set ?_ GE170.out) | exact HB.out)) hb)
      clear HO_8
      clear HO_12
      clear HO_171000
      clear HO_171001
      clear HO179
      clear HO182
      clear BK151
      clear BK170
      clear HB
      have HO_8 := n0_
      have HO_12 := n1_
      have HO_171000 := n2_
      have HO_171001 := n3_
      have HO179 := n4_
      have HO182 := n5_
      have BK151 := n6_
      have BK170 := n7_
      have HB := n8_
      clear n0_ n1_ n2_ n3_ n4_ n5_ n6_ n7_ n8_
      (try clear hb)
      (try clear hb2)
      (try clear hk)
      (try clear hi)
      refine hK.out _ _ ⟨(blk_cell BK170.out 0).trans rfl, (blk_cell BK170.out 1).trans rfl, (blk_cell BK151.out 0).trans rfl, (blk_cell BK151.out 1).trans rfl⟩ (fun hHeld => ?_)
      clear hK K
      refine norm_ (a' := ?_) ?_ ?_
      rotate_left
      ·show Act.put _ (some 62) _ = _
       simp only [Act.put, List.setIfInBounds_toArray, List.set_cons_zero, List.set_cons_succ, i64_w, i32_w]
       rfl
      refine pure_ (i := 4) (N := some 63) (v := ?_) (a' := ?_) #[true, true, true, true, true] rfl rfl (by kernel_rfl) (fun _ _ _ h => h) (Or.inl ⟨by rfl, ?_⟩) ?_ ?_
      rotate_left
      ·intro w'
       go_simp
       with_reducible rfl
      rotate_left
      ·simp only [Act.put, List.setIfInBounds_toArray, List.set_cons_zero, List.set_cons_succ, i64_w, i32_w]
       rfl
      refine done_ (by kernel_rfl) ?_
      have hnb50 := NB170_151.out
      have hnc50 := NB151_170.out
      have hcz51_0 : w49.cell? ⟨gb170, 0, none⟩ = some (.slice Ao25 t164.length co25) := (blk_cell BK170.out 0).trans rfl
      have hcz51_1 : w49.cell? ⟨gb170, 1, none⟩ = some (.slice Ao28 t167.length co28) := (blk_cell BK170.out 1).trans rfl
      have hfz51_0 := blk_frozen BK170.out 0
      have hfz51_1 := blk_frozen BK170.out 1
      go_upto_region 14 with (first | ((with_reducible refine gate_callee (f := 21) rfl ?_); refine goesL_ (some 66) rfl rfl Try.func21 (by kernel_rfl) rfl #[.agg #[.slice Ao25 t164.length co25, .slice Ao28 t167.length co28], .int .i64 1] rfl (by (try simp only [List.map_toArray, List.map_cons, List.map_nil]); first | done | rfl | (simp only [List.length_drop, List.length_take]; rfl)) ?_; (with_reducible refine (laws_markRecord.calls kj12 (fun k_ => some k_ = (.slice Ao25 t164.length co25 : Value).ownBlock) (.slice Ao25 t164.length co25) t164 (fun k_ => some k_ = (.slice Ao28 t167.length co28 : Value).ownBlock) (.slice Ao28 t167.length co28) t167 1 t184 t185 t186 w _ ?side1 ?side2 ?side3 A43.out).mono ?_); (case side1 => repeat (first | (with_reducible first | exact HB.out | apply below_alloc | apply pw_below_drewN | apply below_drew1 | refine below_set ?_ GE151.out | refine below_set ?_ GE170.out) | exact HB.out)); (case side2 => exact Kd.R_tight rfl HO_171000.out); (case side3 => exact Kd.R_tight rfl HO_171001.out); rintro e w52 ⟨rfl, hy0, hy1, hb, hkp⟩; refine ⟨_, rfl, ?_⟩; have n0_ := Aside0.mk (Kd.R_mono (ok' := fun k_ => some k_ ≠ (v172 : Value).ownBlock) (Kd.R_keptB ((Kd.R_apart' (Kd.R_apart' HO_8.out (Kd.R_typed HO_171000.out) (by decide)) (Kd.R_typed HO_171001.out) (by decide))) hkp (fun k_ hk_ hs_ => Or.elim hs_ (fun e_ => (hk_.1.2) e_) (fun e_ => (hk_.2) e_))) (fun k_ hk_ => hk_.1.1.1)); have n1_ := Aside0.mk (Kd.R_mono (ok' := fun k_ => some k_ ≠ (v160 : Value).ownBlock) (Kd.R_keptB ((Kd.R_apart' (Kd.R_apart' HO_12.out (Kd.R_typed HO_171000.out) (by decide)) (Kd.R_typed HO_171001.out) (by decide))) hkp (fun k_ hk_ hs_ => Or.elim hs_ (fun e_ => (hk_.1.2) e_) (fun e_ => (hk_.2) e_))) (fun k_ hk_ => hk_.1.1.1)); have n2_ := Aside0.mk (Kd.R_reok rfl hy0 (fun k_ e_ => HO_171000.out.1 k_ e_)); have n3_ := Aside0.mk (Kd.R_reok rfl hy1 (fun k_ e_ => HO_171001.out.1 k_ e_)); have n4_ := Aside0.mk (blk_kept (bz_ BK151.out) hkp (fun hs_ => Or.elim hs_ (fun e_ => (fun e_ => (Kd.R_ne HO_171000.out BK151.out (by decide)) e_) e_) (fun e_ => (fun e_ => (Kd.R_ne HO_171001.out BK151.out (by decide)) e_) e_))); have n5_ := Aside0.mk (blk_kept (bz_ BK170.out) hkp (fun hs_ => Or.elim hs_ (fun e_ => (fun e_ => (Kd.R_ne HO_171000.out BK170.out (by decide)) e_) e_) (fun e_ => (fun e_ => (Kd.R_ne HO_171001.out BK170.out (by decide)) e_) e_))); have n6_ := Aside0.mk (Kd.R_mono (ok' := fun k_ => some k_ ≠ (.slice Ao25 t164.length co25 : Value).ownBlock) (Kd.R_keptB ((Kd.R_apart' HO179.out (Kd.R_typed HO_171001.out) (by decide))) hkp (fun k_ hk_ hs_ => Or.elim hs_ (fun e_ => (hk_.1.2) e_) (fun e_ => (hk_.2) e_))) (fun k_ hk_ => hk_.1.1.2)); have n7_ := Aside0.mk (Kd.R_mono (ok' := fun k_ => some k_ ≠ (.slice Ao28 t167.length co28 : Value).ownBlock) (Kd.R_keptB ((Kd.R_apart' HO182.out (Kd.R_typed HO_171000.out) (by decide))) hkp (fun k_ hk_ hs_ => Or.elim hs_ (fun e_ => (hk_.2) e_) (fun e_ => (hk_.1.2) e_))) (fun k_ hk_ => hk_.1.1.2)); have n8_ := Aside0.mk (hb); clear HO_8; clear HO_12; clear HO_171000; clear HO_171001; clear BK151; clear BK170; clear HO179; clear HO182; clear HB; have HO_8 := n0_; have HO_12 := n1_; have HO_171000 := n2_; have HO_171001 := n3_; have BK151 := n4_; have BK170 := n5_; have HO179 := n6_; have HO182 := n7_; have HB := n8_; clear n0_ n1_ n2_ n3_ n4_ n5_ n6_ n7_ n8_; (try clear hb); (try clear hkp); (try clear hy0); (try clear hy1)))
      (try simp only [Act.put, List.setIfInBounds_toArray, List.set_cons_zero, List.set_cons_succ])
      go_cut [84] (fun v84 wc => ∃ (kq : Nat) (x84_43 : Bool), v84 = .bool x84_43 ∧ Aside0 (laws_FnExactShortestChain.j1 kq a1 a2 t159 t162 t163 t171 x84_43 l0_0 l0_1 = some r) ∧ Aside0 (kq ≤ kj12) ∧ Aside0 (Kd.R (Kd.int .i64) 3 wc w.heap.size (fun k_ => some k_ ≠ (v172 : Value).ownBlock) v160 t159) ∧ Aside0 (Kd.R (Kd.int .i64) 3 wc w.heap.size (fun k_ => some k_ ≠ (v160 : Value).ownBlock) v172 t171) ∧ Aside0 (Kd.R k86 86 wc w.heap.size (fun _ => True) (.slice Ao25 t164.length co25) t185) ∧ Aside0 (Kd.R k95 95 wc w.heap.size (fun _ => True) (.slice Ao28 t167.length co28) t186) ∧ Aside0 (wc.heap[gb151]? = some (.cells #[(.slice A0_0 l0_0.length c0_0), (.slice A0_1 l0_1.length c0_1)] 25 (0, 0))) ∧ Aside0 (wc.heap[gb170]? = some (.cells #[(.slice Ao25 t164.length co25), (.slice Ao28 t167.length co28)] 33 (0, 0))) ∧ Aside0 (Below w.heap.size w wc))
      case first =>
       have H := HC44.out
       clear HC44
       by_cases c53 : t184 < 0
       ·rw [if_pos c53] at H
        have c53b0 : decide (t184 < 0) = true := decide_eq_true c53
        clear c53
        (first | rw [c53b0] | (simp only [i64_w, i32_w]; rw [c53b0]) | skip)
        have H' := Aside0.mk H
        clear H
        go_wp2
        go_meet
        case rel => exact ⟨_, (true), (by first | rfl | (simp; done) | (simp [*]; done)), H', ⟨by have := HJ12.out; first | omega | exact Nat.le_refl _⟩, ⟨rz_ HO_8.out⟩, ⟨rz_ HO_12.out⟩, ⟨rz_ (Kd.R_mono HO_171000.out (fun _ hk => trivial))⟩, ⟨rz_ (Kd.R_mono HO_171001.out (fun _ hk => trivial))⟩, ⟨bz_ BK151.out⟩, ⟨bz_ BK170.out⟩, ⟨by repeat (first | (with_reducible first | exact HB.out | apply below_alloc | apply pw_below_drewN | apply below_drew1 | refine below_set ?_ GE151.out | refine below_set ?_ GE170.out) | exact HB.out)⟩⟩
       ·rw [if_neg c53] at H
        have c53b0 : decide (t184 < 0) = false := decide_eq_false c53
        clear c53
        (first | rw [c53b0] | (simp only [i64_w, i32_w]; rw [c53b0]) | skip)
        replace H := Option.bind_eq_some_iff.mp H
        obtain ⟨t187, A540, H⟩ := H
        replace H : (if t187 = true then (if (t174 != t162) = true then (laws_FnExactShortestChain.j1 kj12 a1 a2 t159 t162 t163 t171 true l0_0 l0_1) else (laws_FnExactShortestChain.j1 kj12 a1 a2 t159 t162 t163 t171 (t175 != t163) l0_0 l0_1)) else (laws_FnExactShortestChain.j1 kj12 a1 a2 t159 t162 t163 t171 true l0_0 l0_1)) = some r := H
        have A54 := Aside0.mk A540
        clear A540
        by_cases c55 : t187 = true
        ·subst c55
         have H1 : (if (t174 != t162) = true then (laws_FnExactShortestChain.j1 kj12 a1 a2 t159 t162 t163 t171 true l0_0 l0_1) else (laws_FnExactShortestChain.j1 kj12 a1 a2 t159 t162 t163 t171 (t175 != t163) l0_0 l0_1)) = some r := by rw [if_pos rfl] at H; exact H
         clear H
         have H := H1
         clear H1
         by_cases c56 : (t174 != t162) = true
         ·rw [if_pos c56] at H
          have c56b0 : (t174 != t162) = true := c56
          (try (have c56b1 : decide (t174 = t162) = false := by simpa using c56))
          (try (have c56b2 : (t174 == t162) = false := by simpa using c56))
          (try (have c56b3 : ¬ (t174 = t162) := by simpa using c56))
          clear c56
          have H' := Aside0.mk H
          clear H
          obtain ⟨Ao57, co57, eo57⟩ := Kd.R_slice HO_12.out
          subst eo57
          obtain ⟨Ao58, co58, eo58⟩ := Kd.R_slice HO_8.out
          subst eo58
          go_wp2_with (first | (go_at_call 19; (with_reducible refine (laws_eqIntS.calls kj12 _ _ t171 _ _ t159 true _ ?side1 ?side2 ?side3 ?side4 A54.out).mono ?_); (case side1 => exact cz_ (Kd.R_reads' HO_12.out).2.2); (case side2 => exact (Kd.R_reads' HO_12.out).2.1); (case side3 => exact cz_ (Kd.R_reads' HO_8.out).2.2); (case side4 => exact (Kd.R_reads' HO_8.out).2.1); rintro e w' ⟨rfl, ⟨nd, rfl⟩⟩))
          go_meet
          case rel => exact ⟨_, (true), (by first | rfl | (simp; done) | (simp [*]; done)), H', ⟨by have := HJ12.out; first | omega | exact Nat.le_refl _⟩, ⟨rz_ HO_8.out⟩, ⟨rz_ HO_12.out⟩, ⟨rz_ (Kd.R_mono HO_171000.out (fun _ hk => trivial))⟩, ⟨rz_ (Kd.R_mono HO_171001.out (fun _ hk => trivial))⟩, ⟨bz_ BK151.out⟩, ⟨bz_ BK170.out⟩, ⟨by repeat (first | (with_reducible first | exact HB.out | apply below_alloc | apply pw_below_drewN | apply below_drew1 | refine below_set ?_ GE151.out | refine below_set ?_ GE170.out) | exact HB.out)⟩⟩
         ·rw [if_neg c56] at H
          have c56b0 : (t174 != t162) = false := by simpa using c56
          (try (have c56b1 : decide (t174 = t162) = true := by simpa using c56))
          (try (have c56b2 : (t174 == t162) = true := by simpa using c56))
          clear c56
          have H' := Aside0.mk H
          clear H
          obtain ⟨Ao59, co59, eo59⟩ := Kd.R_slice HO_12.out
          subst eo59
          obtain ⟨Ao60, co60, eo60⟩ := Kd.R_slice HO_8.out
          subst eo60
          go_wp2_with (first | (go_at_call 19; (with_reducible refine (laws_eqIntS.calls kj12 _ _ t171 _ _ t159 true _ ?side1 ?side2 ?side3 ?side4 A54.out).mono ?_); (case side1 => exact cz_ (Kd.R_reads' HO_12.out).2.2); (case side2 => exact (Kd.R_reads' HO_12.out).2.1); (case side3 => exact cz_ (Kd.R_reads' HO_8.out).2.2); (case side4 => exact (Kd.R_reads' HO_8.out).2.1); rintro e w' ⟨rfl, ⟨nd, rfl⟩⟩))
          go_meet
          case rel => exact ⟨_, ((t175 != t163)), (by first | rfl | (simp; done) | (simp [*]; done)), H', ⟨by have := HJ12.out; first | omega | exact Nat.le_refl _⟩, ⟨rz_ HO_8.out⟩, ⟨rz_ HO_12.out⟩, ⟨rz_ (Kd.R_mono HO_171000.out (fun _ hk => trivial))⟩, ⟨rz_ (Kd.R_mono HO_171001.out (fun _ hk => trivial))⟩, ⟨bz_ BK151.out⟩, ⟨bz_ BK170.out⟩, ⟨by repeat (first | (with_reducible first | exact HB.out | apply below_alloc | apply pw_below_drewN | apply below_drew1 | refine below_set ?_ GE151.out | refine below_set ?_ GE170.out) | exact HB.out)⟩⟩
        ·replace c55 := Bool.eq_false_iff.mpr c55
         subst c55
         have H1 : (laws_FnExactShortestChain.j1 kj12 a1 a2 t159 t162 t163 t171 true l0_0 l0_1) = some r := by rw [if_neg (show ¬ (false = true) by decide)] at H; exact H
         clear H
         have H := H1
         clear H1
         have H' := Aside0.mk H
         clear H
         obtain ⟨Ao61, co61, eo61⟩ := Kd.R_slice HO_12.out
         subst eo61
         obtain ⟨Ao62, co62, eo62⟩ := Kd.R_slice HO_8.out
         subst eo62
         go_wp2_with (first | (go_at_call 19; (with_reducible refine (laws_eqIntS.calls kj12 _ _ t171 _ _ t159 false _ ?side1 ?side2 ?side3 ?side4 A54.out).mono ?_); (case side1 => exact cz_ (Kd.R_reads' HO_12.out).2.2); (case side2 => exact (Kd.R_reads' HO_12.out).2.1); (case side3 => exact cz_ (Kd.R_reads' HO_8.out).2.2); (case side4 => exact (Kd.R_reads' HO_8.out).2.1); rintro e w' ⟨rfl, ⟨nd, rfl⟩⟩))
         go_meet
         case rel => exact ⟨_, (true), (by first | rfl | (simp; done) | (simp [*]; done)), H', ⟨by have := HJ12.out; first | omega | exact Nat.le_refl _⟩, ⟨rz_ HO_8.out⟩, ⟨rz_ HO_12.out⟩, ⟨rz_ (Kd.R_mono HO_171000.out (fun _ hk => trivial))⟩, ⟨rz_ (Kd.R_mono HO_171001.out (fun _ hk => trivial))⟩, ⟨bz_ BK151.out⟩, ⟨bz_ BK170.out⟩, ⟨by repeat (first | (with_reducible first | exact HB.out | apply below_alloc | apply pw_below_drewN | apply below_drew1 | refine below_set ?_ GE151.out | refine below_set ?_ GE170.out) | exact HB.out)⟩⟩
      case rest =>
       clear HC44
       try clear c1
       try clear c2
       try clear p2
       try clear c3
       try clear c4
       try clear c5
       try clear c5b0
       try clear c15
       try clear c16
       try clear c17
       try clear c18
       try clear c19
       try clear c20
       try clear c21
       try clear c26
       try clear c31
       try clear c32
       try clear c32b0
       try clear c32b1
       try clear c32b2
       try clear c39
       try clear c42
       try clear c50
       try clear c53
       try clear c53b0
       try clear c55
       try clear c56
       try clear c56b0
       try clear c56b1
       try clear c56b2
       try clear hcz15_0
       try clear hcz15_1
       try clear hcz17_0
       try clear hcz17_1
       try clear hcz22_0
       try clear hcz22_1
       try clear hcz27_0
       try clear hcz27_1
       try clear hcz51_0
       try clear hcz51_1
       try clear hcz7_0
       try clear hcz7_1
       try clear hfz15_0
       try clear hfz15_1
       try clear hfz17_0
       try clear hfz17_1
       try clear hfz22_0
       try clear hfz22_1
       try clear hfz27_0
       try clear hfz27_1
       try clear hfz51_0
       try clear hfz51_1
       try clear hfz7_0
       try clear hfz7_1
       try clear p2
       obtain ⟨kq, x84_43, rfl, HA, HJ43, HO_8, HO_12, HO_171000, HO_171001, BK151, BK170, HB⟩ := hcut
       have hl171000_43 := (Kd.R_reads' HO_171000.out).1
       rw [hl171000_43] at HO_171000
       (try simp only [hl171000_43])
       (try simp only [hl171000_43] at BK151)
       (try simp only [hl171000_43] at BK170)
       (try simp only [hl171000_43] at HO_8)
       (try simp only [hl171000_43] at HO_12)
       (try simp only [hl171000_43] at HO_171001)
       have hl171001_43 := (Kd.R_reads' HO_171001.out).1
       rw [hl171001_43] at HO_171001
       (try simp only [hl171001_43])
       (try simp only [hl171001_43] at BK151)
       (try simp only [hl171001_43] at BK170)
       (try simp only [hl171001_43] at HO_8)
       (try simp only [hl171001_43] at HO_12)
       (try simp only [hl171001_43] at HO_171000)
       cases kq with
       | zero => exact absurd HA.out (by simp [laws_FnExactShortestChain.j1])
       | succ kj43 =>
        have H := HA.out
        clear HA
        simp only [laws_FnExactShortestChain.j1] at H
        by_cases c63 : x84_43 = true
        ·subst c63
         have H1 : (some false) = some r := by rw [if_pos rfl] at H; exact H
         clear H
         have H := H1
         clear H1
         obtain rfl := Option.some.inj H
         go_wp2
         go_ret
         exact ⟨by first | rfl | (simp [errW_none, errW_some] <;> rfl) | (simp [*, errW_none, errW_some] <;> rfl), by repeat (first | (with_reducible first | exact HB.out | apply below_alloc | apply pw_below_drewN | apply below_drew1 | refine below_set ?_ GE151.out | refine below_set ?_ GE170.out) | exact HB.out)⟩
        ·replace c63 := Bool.eq_false_iff.mpr c63
         subst c63
         have H1 : ((laws_markIntS.f kj43 t171 1).bind fun bt188 => ((laws_heldIntS.f kj43 bt188.2 1).bind fun t190 => (if t190 < 0 then (some false) else (if t190 = bt188.1 then ((laws_toRecord.f kj43 l0_0 l0_1).bind fun bt191 => ((impl_ShortestChain.f bt191.1 bt191.2 a1 a2).bind fun bt197 => ((laws_eqIntS.f kj43 bt197.1 t159).bind fun t202 => (if t202 = true then (if (bt197.2.1 != t162) = true then (laws_FnExactShortestChain.j2 kj43 bt188.2 bt188.1 true) else (laws_FnExactShortestChain.j2 kj43 bt188.2 bt188.1 (bt197.2.2 != t163))) else (laws_FnExactShortestChain.j2 kj43 bt188.2 bt188.1 true))))) else (some false))))) = some r := by rw [if_neg (show ¬ (false = true) by decide)] at H; exact H
         clear H
         have H := H1
         clear H1
         replace H := Option.bind_eq_some_iff.mp H
         obtain ⟨⟨t188, t189⟩, A640, H⟩ := H
         replace H : ((laws_heldIntS.f kj43 t189 1).bind fun t190 => (if t190 < 0 then (some false) else (if t190 = t188 then ((laws_toRecord.f kj43 l0_0 l0_1).bind fun bt191 => ((impl_ShortestChain.f bt191.1 bt191.2 a1 a2).bind fun bt197 => ((laws_eqIntS.f kj43 bt197.1 t159).bind fun t202 => (if t202 = true then (if (bt197.2.1 != t162) = true then (laws_FnExactShortestChain.j2 kj43 t189 t188 true) else (laws_FnExactShortestChain.j2 kj43 t189 t188 (bt197.2.2 != t163))) else (laws_FnExactShortestChain.j2 kj43 t189 t188 true))))) else (some false)))) = some r := H
         have A64 := Aside0.mk A640
         clear A640
         replace H := Option.bind_eq_some_iff.mp H
         obtain ⟨t190, A650, H⟩ := H
         replace H : (if t190 < 0 then (some false) else (if t190 = t188 then ((laws_toRecord.f kj43 l0_0 l0_1).bind fun bt191 => ((impl_ShortestChain.f bt191.1 bt191.2 a1 a2).bind fun bt197 => ((laws_eqIntS.f kj43 bt197.1 t159).bind fun t202 => (if t202 = true then (if (bt197.2.1 != t162) = true then (laws_FnExactShortestChain.j2 kj43 t189 t188 true) else (laws_FnExactShortestChain.j2 kj43 t189 t188 (bt197.2.2 != t163))) else (laws_FnExactShortestChain.j2 kj43 t189 t188 true))))) else (some false))) = some r := H
         have A65 := Aside0.mk A650
         clear A650
         by_cases c66 : t190 < 0
         ·rw [if_pos c66] at H
          have c66b0 : decide (t190 < 0) = true := decide_eq_true c66
          clear c66
          obtain rfl := Option.some.inj H
          obtain ⟨Ao67, co67, eo67⟩ := Kd.R_slice HO_12.out
          subst eo67
          go_wp2_with (first | ((with_reducible refine gate_callee (f := 22) rfl ?_); refine goesL_ (some 87) rfl rfl Try.func22 (by kernel_rfl) rfl #[.slice Ao67 t171.length co67, .int .i64 1] rfl (by (try simp only [List.map_toArray, List.map_cons, List.map_nil]); first | done | rfl | (simp only [List.length_drop, List.length_take]; rfl)) ?_; (with_reducible refine (laws_markIntS.calls kj43 (fun k_ => some k_ = (.slice Ao67 t171.length co67 : Value).ownBlock) (.slice Ao67 t171.length co67) t171 1 t188 t189 w _ ?side1 ?side2 A64.out).mono ?_); (case side1 => repeat (first | (with_reducible first | exact HB.out | apply below_alloc | apply pw_below_drewN | apply below_drew1 | refine below_set ?_ GE151.out | refine below_set ?_ GE170.out) | exact HB.out)); (case side2 => exact Kd.R_tight rfl HO_12.out); rintro e w68 ⟨rfl, hy0, hb, hkp⟩; refine ⟨_, rfl, ?_⟩; have n0_ := Aside0.mk (Kd.R_mono (ok' := fun k_ => some k_ ≠ (.slice Ao67 t171.length co67 : Value).ownBlock) (Kd.R_keptB (HO_8.out) hkp (fun k_ hk_ hs_ => (hk_) hs_)) (fun k_ hk_ => hk_.1)); have n1_ := Aside0.mk (Kd.R_reok rfl hy0 (fun k_ e_ => HO_12.out.1 k_ e_)); have n2_ := Aside0.mk (Kd.R_mono (ok' := fun k_ => True) (Kd.R_keptB ((Kd.R_apart' HO_171000.out (Kd.R_typed HO_12.out) (by decide))) hkp (fun k_ hk_ hs_ => (hk_.2) hs_)) (fun k_ hk_ => trivial)); have n3_ := Aside0.mk (Kd.R_mono (ok' := fun k_ => True) (Kd.R_keptB ((Kd.R_apart' HO_171001.out (Kd.R_typed HO_12.out) (by decide))) hkp (fun k_ hk_ hs_ => (hk_.2) hs_)) (fun k_ hk_ => trivial)); have n4_ := Aside0.mk (blk_kept (bz_ BK151.out) hkp (fun hs_ => (fun e_ => (Kd.R_ne HO_12.out BK151.out (by decide)) e_) hs_)); have n5_ := Aside0.mk (blk_kept (bz_ BK170.out) hkp (fun hs_ => (fun e_ => (Kd.R_ne HO_12.out BK170.out (by decide)) e_) hs_)); have n6_ := Aside0.mk (hb); clear HO_8; clear HO_12; clear HO_171000; clear HO_171001; clear BK151; clear BK170; clear HB; have HO_8 := n0_; have HO_12 := n1_; have HO_171000 := n2_; have HO_171001 := n3_; have BK151 := n4_; have BK170 := n5_; have HB := n6_; clear n0_ n1_ n2_ n3_ n4_ n5_ n6_; (try clear hb); (try clear hkp); (try clear hy0)) | ((with_reducible refine gate_callee (f := 23) rfl ?_); refine goesL_ (some 90) rfl rfl Try.func23 (by kernel_rfl) rfl #[.slice Ao67 t189.length co67, .int .i64 1] rfl (by (try simp only [List.map_toArray, List.map_cons, List.map_nil]); first | done | (rw [show t189.length = t171.length from (Kd.R_reads' HO_12.out).1.symm] <;> rfl) | rfl | (simp only [List.length_drop, List.length_take]; rfl)) ?_; (with_reducible refine (laws_heldIntS.calls kj43 _ _ t189 1 t190 _ ?side1 ?side2 A65.out).mono ?_); (case side1 => exact cz_ (Kd.R_reads' HO_12.out).2.2); (case side2 => rw [show t189.length = t171.length from (Kd.R_reads' HO_12.out).1.symm]; exact (Kd.R_reads' HO_12.out).2.1); rintro e w' ⟨rfl, ⟨nd, rfl⟩⟩; refine ⟨_, rfl, ?_⟩))
          go_ret
          exact ⟨by first | rfl | (simp [errW_none, errW_some] <;> rfl) | (simp [*, errW_none, errW_some] <;> rfl), by repeat (first | (with_reducible first | exact HB.out | apply below_alloc | apply pw_below_drewN | apply below_drew1 | refine below_set ?_ GE151.out | refine below_set ?_ GE170.out) | exact HB.out)⟩
         ·rw [if_neg c66] at H
          have c66b0 : decide (t190 < 0) = false := decide_eq_false c66
          clear c66
          by_cases c69 : t190 = t188
          ·rw [if_pos c69] at H
           have c69b0 : (t190 == t188) = true := beq_iff_eq.mpr c69
           have c69b1 : (t190 != t188) = false := bne_eq_false_iff_eq.mpr c69
           clear c69
           replace H := Option.bind_eq_some_iff.mp H
           obtain ⟨⟨t191, t194⟩, A700, H⟩ := H
           replace H : ((impl_ShortestChain.f t191 t194 a1 a2).bind fun bt197 => ((laws_eqIntS.f kj43 bt197.1 t159).bind fun t202 => (if t202 = true then (if (bt197.2.1 != t162) = true then (laws_FnExactShortestChain.j2 kj43 t189 t188 true) else (laws_FnExactShortestChain.j2 kj43 t189 t188 (bt197.2.2 != t163))) else (laws_FnExactShortestChain.j2 kj43 t189 t188 true)))) = some r := H
           have A70 := Aside0.mk A700
           clear A700
           replace H := Option.bind_eq_some_iff.mp H
           obtain ⟨⟨t197, t200, t201⟩, A710, H⟩ := H
           replace H : ((laws_eqIntS.f kj43 t197 t159).bind fun t202 => (if t202 = true then (if (t200 != t162) = true then (laws_FnExactShortestChain.j2 kj43 t189 t188 true) else (laws_FnExactShortestChain.j2 kj43 t189 t188 (t201 != t163))) else (laws_FnExactShortestChain.j2 kj43 t189 t188 true))) = some r := H
           have A71 := Aside0.mk A710
           clear A710
           have HC72 := Aside0.mk H
           clear H
           obtain ⟨Ao73, co73, eo73⟩ := Kd.R_slice HO_12.out
           subst eo73
           go_upto_region 25 with (first | ((with_reducible refine gate_callee (f := 22) rfl ?_); refine goesL_ (some 87) rfl rfl Try.func22 (by kernel_rfl) rfl #[.slice Ao73 t171.length co73, .int .i64 1] rfl (by (try simp only [List.map_toArray, List.map_cons, List.map_nil]); first | done | rfl | (simp only [List.length_drop, List.length_take]; rfl)) ?_; (with_reducible refine (laws_markIntS.calls kj43 (fun k_ => some k_ = (.slice Ao73 t171.length co73 : Value).ownBlock) (.slice Ao73 t171.length co73) t171 1 t188 t189 w _ ?side1 ?side2 A64.out).mono ?_); (case side1 => repeat (first | (with_reducible first | exact HB.out | apply below_alloc | apply pw_below_drewN | apply below_drew1 | refine below_set ?_ GE151.out | refine below_set ?_ GE170.out) | exact HB.out)); (case side2 => exact Kd.R_tight rfl HO_12.out); rintro e w74 ⟨rfl, hy0, hb, hkp⟩; refine ⟨_, rfl, ?_⟩; have n0_ := Aside0.mk (Kd.R_mono (ok' := fun k_ => some k_ ≠ (.slice Ao73 t171.length co73 : Value).ownBlock) (Kd.R_keptB (HO_8.out) hkp (fun k_ hk_ hs_ => (hk_) hs_)) (fun k_ hk_ => hk_.1)); have n1_ := Aside0.mk (Kd.R_reok rfl hy0 (fun k_ e_ => HO_12.out.1 k_ e_)); have n2_ := Aside0.mk (Kd.R_mono (ok' := fun k_ => True) (Kd.R_keptB ((Kd.R_apart' HO_171000.out (Kd.R_typed HO_12.out) (by decide))) hkp (fun k_ hk_ hs_ => (hk_.2) hs_)) (fun k_ hk_ => trivial)); have n3_ := Aside0.mk (Kd.R_mono (ok' := fun k_ => True) (Kd.R_keptB ((Kd.R_apart' HO_171001.out (Kd.R_typed HO_12.out) (by decide))) hkp (fun k_ hk_ hs_ => (hk_.2) hs_)) (fun k_ hk_ => trivial)); have n4_ := Aside0.mk (blk_kept (bz_ BK151.out) hkp (fun hs_ => (fun e_ => (Kd.R_ne HO_12.out BK151.out (by decide)) e_) hs_)); have n5_ := Aside0.mk (blk_kept (bz_ BK170.out) hkp (fun hs_ => (fun e_ => (Kd.R_ne HO_12.out BK170.out (by decide)) e_) hs_)); have n6_ := Aside0.mk (hb); clear HO_8; clear HO_12; clear HO_171000; clear HO_171001; clear BK151; clear BK170; clear HB; have HO_8 := n0_; have HO_12 := n1_; have HO_171000 := n2_; have HO_171001 := n3_; have BK151 := n4_; have BK170 := n5_; have HB := n6_; clear n0_ n1_ n2_ n3_ n4_ n5_ n6_; (try clear hb); (try clear hkp); (try clear hy0)) | ((with_reducible refine gate_callee (f := 23) rfl ?_); refine goesL_ (some 90) rfl rfl Try.func23 (by kernel_rfl) rfl #[.slice Ao73 t189.length co73, .int .i64 1] rfl (by (try simp only [List.map_toArray, List.map_cons, List.map_nil]); first | done | (rw [show t189.length = t171.length from (Kd.R_reads' HO_12.out).1.symm] <;> rfl) | rfl | (simp only [List.length_drop, List.length_take]; rfl)) ?_; (with_reducible refine (laws_heldIntS.calls kj43 _ _ t189 1 t190 _ ?side1 ?side2 A65.out).mono ?_); (case side1 => exact cz_ (Kd.R_reads' HO_12.out).2.2); (case side2 => rw [show t189.length = t171.length from (Kd.R_reads' HO_12.out).1.symm]; exact (Kd.R_reads' HO_12.out).2.1); rintro e w' ⟨rfl, ⟨nd, rfl⟩⟩; refine ⟨_, rfl, ?_⟩; have hnb75 := NB151_170.out; have hnc75 := NB170_151.out; have hcz76_0 : w74.cell? ⟨gb151, 0, none⟩ = some (.slice A0_0 l0_0.length c0_0) := (blk_cell BK151.out 0).trans rfl; have hcz76_1 : w74.cell? ⟨gb151, 1, none⟩ = some (.slice A0_1 l0_1.length c0_1) := (blk_cell BK151.out 1).trans rfl; have hfz76_0 := blk_frozen BK151.out 0; have hfz76_1 := blk_frozen BK151.out 1) | ((with_reducible refine gate_callee (f := 17) rfl ?_); refine goesL_ (some 98) rfl rfl Try.func17 (by kernel_rfl) rfl #[.agg #[.slice A0_0 l0_0.length c0_0, .slice A0_1 l0_1.length c0_1]] rfl (by (try simp only [List.map_toArray, List.map_cons, List.map_nil]); first | done | rfl | (simp only [List.length_drop, List.length_take]; rfl)) ?_; (with_reducible refine (laws_toRecord.calls kj43 _ _ l0_0 _ _ l0_1 t191 t194 _ ?side1 ?side2 ?side3 ?side4 A70.out).mono ?_); (case side1 => repeat (first | exact (Kd.C_below HR0_0.out (by repeat (first | (with_reducible first | exact HB.out | apply below_alloc | apply pw_below_drewN | apply below_drew1 | refine below_set ?_ GE151.out | refine below_set ?_ GE170.out) | exact HB.out))) | (with_reducible refine Kd.C_alloc ?_ _) | (with_reducible refine Kd.C_drewN ?_ _) | (with_reducible refine Kd.C_drew ?_))); (case side2 => exact HC0_0.out); (case side3 => repeat (first | exact (Kd.C_below HR0_1.out (by repeat (first | (with_reducible first | exact HB.out | apply below_alloc | apply pw_below_drewN | apply below_drew1 | refine below_set ?_ GE151.out | refine below_set ?_ GE170.out) | exact HB.out))) | (with_reducible refine Kd.C_alloc ?_ _) | (with_reducible refine Kd.C_drewN ?_ _) | (with_reducible refine Kd.C_drew ?_))); (case side4 => exact HC0_1.out); rintro e w77 ⟨v192, v195, rfl, ho0, ho1, hb⟩; refine ⟨_, rfl, ?_⟩; have n0_ := Aside0.mk (Kd.R_below (rz_ HO_8.out) hb); have n1_ := Aside0.mk (Kd.R_below (rz_ HO_12.out) hb); have n2_ := Aside0.mk (Kd.R_elder' (rz_ HO_171000.out) (Kd.R_base ho0) hb); have n3_ := Aside0.mk (Kd.R_elder' (rz_ HO_171001.out) (Kd.R_base ho1) hb); have n4_ := Aside0.mk (Kd.R_lower (Kd.R_new' ho0 (Kd.R_lt (rz_ HO_171000.out))) (below_size (by repeat (first | (with_reducible first | exact HB.out | apply below_alloc | apply pw_below_drewN | apply below_drew1 | refine below_set ?_ GE151.out | refine below_set ?_ GE170.out) | exact HB.out)))); have n5_ := Aside0.mk (Kd.R_lower (Kd.R_new' ho1 (Kd.R_lt (rz_ HO_171001.out))) (below_size (by repeat (first | (with_reducible first | exact HB.out | apply below_alloc | apply pw_below_drewN | apply below_drew1 | refine below_set ?_ GE151.out | refine below_set ?_ GE170.out) | exact HB.out)))); have n6_ := Aside0.mk (blk_below (bz_ BK151.out) hb); have n7_ := Aside0.mk (blk_below (bz_ BK170.out) hb); have n8_ := Aside0.mk (below_step (by repeat (first | (with_reducible first | exact HB.out | apply below_alloc | apply pw_below_drewN | apply below_drew1 | refine below_set ?_ GE151.out | refine below_set ?_ GE170.out) | exact HB.out)) hb); clear HO_8; clear HO_12; clear HO_171000; clear HO_171001; clear BK151; clear BK170; clear HB; have HO_8 := n0_; have HO_12 := n1_; have HO_171000 := n2_; have HO_171001 := n3_; have HO193 := n4_; have HO196 := n5_; have BK151 := n6_; have BK170 := n7_; have HB := n8_; clear n0_ n1_ n2_ n3_ n4_ n5_ n6_ n7_ n8_; (try clear hb); (try clear hb2); (try clear hk); (try clear hi); (try clear ho0); (try clear ho1); obtain ⟨Ao78, co78, eo78⟩ := Kd.R_slice HO193.out; subst eo78; obtain ⟨Ao79, co79, eo79⟩ := Kd.R_slice HO196.out; subst eo79) | ((with_reducible refine gate_callee (f := 18) rfl ?_); refine goesL_ (some 101) rfl rfl Try.func18 (by kernel_rfl) rfl #[.agg #[.slice Ao78 t191.length co78, .slice Ao79 t194.length co79], .int .i64 a1, .int .i64 a2] rfl (by (try simp only [List.map_toArray, List.map_cons, List.map_nil]); first | done | rfl | (simp only [List.length_drop, List.length_take]; rfl)) ?_; (with_reducible refine (impl_ShortestChain.calls _ _ t191 _ _ t194 a1 a2 t197 t200 t201 _ ?side1 ?side2 ?side3 ?side4 A71.out).mono ?_); (case side1 => exact cz_ (Kd.R_reads' HO193.out).2.2); (case side2 => exact (Kd.R_reads' HO193.out).2.1); (case side3 => exact cz_ (Kd.R_reads' HO196.out).2.2); (case side4 => exact (Kd.R_reads' HO196.out).2.1); rintro e w80 ⟨v198, rfl, ho0, hb⟩; refine ⟨_, rfl, ?_⟩; have n0_ := Aside0.mk (Kd.R_elder' (rz_ HO_8.out) (Kd.R_base ho0) hb); have n1_ := Aside0.mk (Kd.R_elder' (rz_ HO_12.out) (Kd.R_base ho0) hb); have n2_ := Aside0.mk (Kd.R_below (rz_ HO_171000.out) hb); have n3_ := Aside0.mk (Kd.R_below (rz_ HO_171001.out) hb); have n4_ := Aside0.mk (Kd.R_below (rz_ HO193.out) hb); have n5_ := Aside0.mk (Kd.R_below (rz_ HO196.out) hb); have n6_ := Aside0.mk (Kd.R_lower (Kd.R_new' (Kd.R_new' ho0 (Kd.R_lt (rz_ HO_8.out))) (Kd.R_lt (rz_ HO_12.out))) (below_size (by repeat (first | (with_reducible first | exact HB.out | apply below_alloc | apply pw_below_drewN | apply below_drew1 | refine below_set ?_ GE151.out | refine below_set ?_ GE170.out) | exact HB.out)))); have n7_ := Aside0.mk (blk_below (bz_ BK151.out) hb); have n8_ := Aside0.mk (blk_below (bz_ BK170.out) hb); have n9_ := Aside0.mk (below_step (by repeat (first | (with_reducible first | exact HB.out | apply below_alloc | apply pw_below_drewN | apply below_drew1 | refine below_set ?_ GE151.out | refine below_set ?_ GE170.out) | exact HB.out)) hb); clear HO_8; clear HO_12; clear HO_171000; clear HO_171001; clear HO193; clear HO196; clear BK151; clear BK170; clear HB; have HO_8 := n0_; have HO_12 := n1_; have HO_171000 := n2_; have HO_171001 := n3_; have HO193 := n4_; have HO196 := n5_; have HO199 := n6_; have BK151 := n7_; have BK170 := n8_; have HB := n9_; clear n0_ n1_ n2_ n3_ n4_ n5_ n6_ n7_ n8_ n9_; (try clear hb); (try clear hb2); (try clear hk); (try clear hi); (try clear ho0)))
           (try simp only [Act.put, List.setIfInBounds_toArray, List.set_cons_zero, List.set_cons_succ])
           go_cut [118] (fun v118 wc => ∃ (kq : Nat) (x118_71 : Bool), v118 = .bool x118_71 ∧ Aside0 (laws_FnExactShortestChain.j2 kq t189 t188 x118_71 = some r) ∧ Aside0 (kq ≤ kj43) ∧ Aside0 (Kd.R (Kd.int .i64) 3 wc w.heap.size (fun _ => True) (.slice Ao73 t171.length co73) t189) ∧ Aside0 (Kd.R k86 86 wc w.heap.size (fun _ => True) (.slice Ao25 t185.length co25) t185) ∧ Aside0 (Kd.R k95 95 wc w.heap.size (fun _ => True) (.slice Ao28 t186.length co28) t186) ∧ Aside0 (wc.heap[gb151]? = some (.cells #[(.slice A0_0 l0_0.length c0_0), (.slice A0_1 l0_1.length c0_1)] 25 (0, 0))) ∧ Aside0 (wc.heap[gb170]? = some (.cells #[(.slice Ao25 t185.length co25), (.slice Ao28 t186.length co28)] 33 (0, 0))) ∧ Aside0 (Below w.heap.size w wc))
           case first =>
            have H := HC72.out
            clear HC72
            replace H := Option.bind_eq_some_iff.mp H
            obtain ⟨t202, A810, H⟩ := H
            replace H : (if t202 = true then (if (t200 != t162) = true then (laws_FnExactShortestChain.j2 kj43 t189 t188 true) else (laws_FnExactShortestChain.j2 kj43 t189 t188 (t201 != t163))) else (laws_FnExactShortestChain.j2 kj43 t189 t188 true)) = some r := H
            have A81 := Aside0.mk A810
            clear A810
            by_cases c82 : t202 = true
            ·subst c82
             have H1 : (if (t200 != t162) = true then (laws_FnExactShortestChain.j2 kj43 t189 t188 true) else (laws_FnExactShortestChain.j2 kj43 t189 t188 (t201 != t163))) = some r := by rw [if_pos rfl] at H; exact H
             clear H
             have H := H1
             clear H1
             by_cases c83 : (t200 != t162) = true
             ·rw [if_pos c83] at H
              have c83b0 : (t200 != t162) = true := c83
              (try (have c83b1 : decide (t200 = t162) = false := by simpa using c83))
              (try (have c83b2 : (t200 == t162) = false := by simpa using c83))
              (try (have c83b3 : ¬ (t200 = t162) := by simpa using c83))
              clear c83
              (first | rw [c83b0] | (simp only [i64_w, i32_w]; rw [c83b0]) | skip)
              have H' := Aside0.mk H
              clear H
              obtain ⟨Ao84, co84, eo84⟩ := Kd.R_slice HO199.out
              subst eo84
              obtain ⟨Ao85, co85, eo85⟩ := Kd.R_slice HO_8.out
              subst eo85
              go_wp2_with (first | ((with_reducible refine gate_callee (f := 19) rfl ?_); refine goesL_ (some 107) rfl rfl Try.func19 (by kernel_rfl) rfl #[.slice Ao84 t197.length co84, .slice Ao85 t159.length co85] rfl (by (try simp only [List.map_toArray, List.map_cons, List.map_nil]); first | done | rfl | (simp only [List.length_drop, List.length_take]; rfl)) ?_; (with_reducible refine (laws_eqIntS.calls kj43 _ _ t197 _ _ t159 true _ ?side1 ?side2 ?side3 ?side4 A81.out).mono ?_); (case side1 => exact cz_ (Kd.R_reads' HO199.out).2.2); (case side2 => exact (Kd.R_reads' HO199.out).2.1); (case side3 => exact cz_ (Kd.R_reads' HO_8.out).2.2); (case side4 => exact (Kd.R_reads' HO_8.out).2.1); rintro e w' ⟨rfl, ⟨nd, rfl⟩⟩; refine ⟨_, rfl, ?_⟩))
              go_meet
              case rel => exact ⟨_, (true), (by first | rfl | (simp; done) | (simp [*]; done)), H', ⟨by have := HJ12.out; have := HJ43.out; first | omega | exact Nat.le_refl _⟩, ⟨by (try simp only [hl171000_43]); (try simp only [hl171001_43]); (with_reducible repeat (first | apply Kd.R_alloc | apply Kd.R_drewN | apply Kd.R_drew)); exact Kd.R_mono HO_12.out (fun _ hk => trivial)⟩, ⟨by (try simp only [hl171000_43]); (try simp only [hl171001_43]); (with_reducible repeat (first | apply Kd.R_alloc | apply Kd.R_drewN | apply Kd.R_drew)); exact Kd.R_mono HO_171000.out (fun _ hk => trivial)⟩, ⟨by (try simp only [hl171000_43]); (try simp only [hl171001_43]); (with_reducible repeat (first | apply Kd.R_alloc | apply Kd.R_drewN | apply Kd.R_drew)); exact Kd.R_mono HO_171001.out (fun _ hk => trivial)⟩, ⟨by (try simp only [hl171000_43]); (try simp only [hl171001_43]); (with_reducible repeat (first | refine blk_drewN ?_ _ | refine blk_drew ?_ | refine blk_alloc ?_ _)); exact BK151.out⟩, ⟨by (try simp only [hl171000_43]); (try simp only [hl171001_43]); (with_reducible repeat (first | refine blk_drewN ?_ _ | refine blk_drew ?_ | refine blk_alloc ?_ _)); exact BK170.out⟩, ⟨by repeat (first | (with_reducible first | exact HB.out | apply below_alloc | apply pw_below_drewN | apply below_drew1 | refine below_set ?_ GE151.out | refine below_set ?_ GE170.out) | exact HB.out)⟩⟩
             ·rw [if_neg c83] at H
              have c83b0 : (t200 != t162) = false := by simpa using c83
              (try (have c83b1 : decide (t200 = t162) = true := by simpa using c83))
              (try (have c83b2 : (t200 == t162) = true := by simpa using c83))
              clear c83
              (first | rw [c83b0] | (simp only [i64_w, i32_w]; rw [c83b0]) | skip)
              have H' := Aside0.mk H
              clear H
              obtain ⟨Ao86, co86, eo86⟩ := Kd.R_slice HO199.out
              subst eo86
              obtain ⟨Ao87, co87, eo87⟩ := Kd.R_slice HO_8.out
              subst eo87
              go_wp2_with (first | ((with_reducible refine gate_callee (f := 19) rfl ?_); refine goesL_ (some 107) rfl rfl Try.func19 (by kernel_rfl) rfl #[.slice Ao86 t197.length co86, .slice Ao87 t159.length co87] rfl (by (try simp only [List.map_toArray, List.map_cons, List.map_nil]); first | done | rfl | (simp only [List.length_drop, List.length_take]; rfl)) ?_; (with_reducible refine (laws_eqIntS.calls kj43 _ _ t197 _ _ t159 true _ ?side1 ?side2 ?side3 ?side4 A81.out).mono ?_); (case side1 => exact cz_ (Kd.R_reads' HO199.out).2.2); (case side2 => exact (Kd.R_reads' HO199.out).2.1); (case side3 => exact cz_ (Kd.R_reads' HO_8.out).2.2); (case side4 => exact (Kd.R_reads' HO_8.out).2.1); rintro e w' ⟨rfl, ⟨nd, rfl⟩⟩; refine ⟨_, rfl, ?_⟩))
              go_meet
              case rel => exact ⟨_, ((t201 != t163)), (by first | rfl | (simp; done) | (simp [*]; done)), H', ⟨by have := HJ12.out; have := HJ43.out; first | omega | exact Nat.le_refl _⟩, ⟨by (try simp only [hl171000_43]); (try simp only [hl171001_43]); (with_reducible repeat (first | apply Kd.R_alloc | apply Kd.R_drewN | apply Kd.R_drew)); exact Kd.R_mono HO_12.out (fun _ hk => trivial)⟩, ⟨by (try simp only [hl171000_43]); (try simp only [hl171001_43]); (with_reducible repeat (first | apply Kd.R_alloc | apply Kd.R_drewN | apply Kd.R_drew)); exact Kd.R_mono HO_171000.out (fun _ hk => trivial)⟩, ⟨by (try simp only [hl171000_43]); (try simp only [hl171001_43]); (with_reducible repeat (first | apply Kd.R_alloc | apply Kd.R_drewN | apply Kd.R_drew)); exact Kd.R_mono HO_171001.out (fun _ hk => trivial)⟩, ⟨by (try simp only [hl171000_43]); (try simp only [hl171001_43]); (with_reducible repeat (first | refine blk_drewN ?_ _ | refine blk_drew ?_ | refine blk_alloc ?_ _)); exact BK151.out⟩, ⟨by (try simp only [hl171000_43]); (try simp only [hl171001_43]); (with_reducible repeat (first | refine blk_drewN ?_ _ | refine blk_drew ?_ | refine blk_alloc ?_ _)); exact BK170.out⟩, ⟨by repeat (first | (with_reducible first | exact HB.out | apply below_alloc | apply pw_below_drewN | apply below_drew1 | refine below_set ?_ GE151.out | refine below_set ?_ GE170.out) | exact HB.out)⟩⟩
            ·replace c82 := Bool.eq_false_iff.mpr c82
             subst c82
             have H1 : (laws_FnExactShortestChain.j2 kj43 t189 t188 true) = some r := by rw [if_neg (show ¬ (false = true) by decide)] at H; exact H
             clear H
             have H := H1
             clear H1
             have H' := Aside0.mk H
             clear H
             obtain ⟨Ao88, co88, eo88⟩ := Kd.R_slice HO199.out
             subst eo88
             obtain ⟨Ao89, co89, eo89⟩ := Kd.R_slice HO_8.out
             subst eo89
             go_wp2_with (first | ((with_reducible refine gate_callee (f := 19) rfl ?_); refine goesL_ (some 107) rfl rfl Try.func19 (by kernel_rfl) rfl #[.slice Ao88 t197.length co88, .slice Ao89 t159.length co89] rfl (by (try simp only [List.map_toArray, List.map_cons, List.map_nil]); first | done | rfl | (simp only [List.length_drop, List.length_take]; rfl)) ?_; (with_reducible refine (laws_eqIntS.calls kj43 _ _ t197 _ _ t159 false _ ?side1 ?side2 ?side3 ?side4 A81.out).mono ?_); (case side1 => exact cz_ (Kd.R_reads' HO199.out).2.2); (case side2 => exact (Kd.R_reads' HO199.out).2.1); (case side3 => exact cz_ (Kd.R_reads' HO_8.out).2.2); (case side4 => exact (Kd.R_reads' HO_8.out).2.1); rintro e w' ⟨rfl, ⟨nd, rfl⟩⟩; refine ⟨_, rfl, ?_⟩))
             go_meet
             case rel => exact ⟨_, (true), (by first | rfl | (simp; done) | (simp [*]; done)), H', ⟨by have := HJ12.out; have := HJ43.out; first | omega | exact Nat.le_refl _⟩, ⟨by (try simp only [hl171000_43]); (try simp only [hl171001_43]); (with_reducible repeat (first | apply Kd.R_alloc | apply Kd.R_drewN | apply Kd.R_drew)); exact Kd.R_mono HO_12.out (fun _ hk => trivial)⟩, ⟨by (try simp only [hl171000_43]); (try simp only [hl171001_43]); (with_reducible repeat (first | apply Kd.R_alloc | apply Kd.R_drewN | apply Kd.R_drew)); exact Kd.R_mono HO_171000.out (fun _ hk => trivial)⟩, ⟨by (try simp only [hl171000_43]); (try simp only [hl171001_43]); (with_reducible repeat (first | apply Kd.R_alloc | apply Kd.R_drewN | apply Kd.R_drew)); exact Kd.R_mono HO_171001.out (fun _ hk => trivial)⟩, ⟨by (try simp only [hl171000_43]); (try simp only [hl171001_43]); (with_reducible repeat (first | refine blk_drewN ?_ _ | refine blk_drew ?_ | refine blk_alloc ?_ _)); exact BK151.out⟩, ⟨by (try simp only [hl171000_43]); (try simp only [hl171001_43]); (with_reducible repeat (first | refine blk_drewN ?_ _ | refine blk_drew ?_ | refine blk_alloc ?_ _)); exact BK170.out⟩, ⟨by repeat (first | (with_reducible first | exact HB.out | apply below_alloc | apply pw_below_drewN | apply below_drew1 | refine below_set ?_ GE151.out | refine below_set ?_ GE170.out) | exact HB.out)⟩⟩
           case rest =>
            clear HC72
            try clear c1
            try clear c2
            try clear p2
            try clear c3
            try clear c4
            try clear c5
            try clear c5b0
            try clear c6
            try clear c7
            try clear c8
            try clear c15
            try clear c16
            try clear c17
            try clear c18
            try clear c19
            try clear c20
            try clear c21
            try clear c22
            try clear c23
            try clear c26
            try clear c31
            try clear c32
            try clear c32b0
            try clear c32b1
            try clear c32b2
            try clear c39
            try clear c42
            try clear c50
            try clear c53
            try clear c53b0
            try clear c55
            try clear c56
            try clear c56b0
            try clear c56b1
            try clear c56b2
            try clear c63
            try clear c66
            try clear c66b0
            try clear c69
            try clear c69b0
            try clear c69b1
            try clear c75
            try clear c82
            try clear c83
            try clear c83b0
            try clear c83b1
            try clear c83b2
            try clear hcz15_0
            try clear hcz15_1
            try clear hcz17_0
            try clear hcz17_1
            try clear hcz22_0
            try clear hcz22_1
            try clear hcz27_0
            try clear hcz27_1
            try clear hcz51_0
            try clear hcz51_1
            try clear hcz76_0
            try clear hcz76_1
            try clear hcz7_0
            try clear hcz7_1
            try clear hfz15_0
            try clear hfz15_1
            try clear hfz17_0
            try clear hfz17_1
            try clear hfz22_0
            try clear hfz22_1
            try clear hfz27_0
            try clear hfz27_1
            try clear hfz51_0
            try clear hfz51_1
            try clear hfz76_0
            try clear hfz76_1
            try clear hfz7_0
            try clear hfz7_1
            try clear p2
            obtain ⟨kq, x118_71, rfl, HA, HJ71, HO_12, HO_171000, HO_171001, BK151, BK170, HB⟩ := hcut
            have hl12_71 := (Kd.R_reads' HO_12.out).1
            rw [hl12_71] at HO_12
            (try simp only [hl12_71])
            (try simp only [hl12_71] at BK151)
            (try simp only [hl12_71] at BK170)
            (try simp only [hl12_71] at HO_171000)
            (try simp only [hl12_71] at HO_171001)
            cases kq with
            | zero => exact absurd HA.out (by simp [laws_FnExactShortestChain.j2])
            | succ kj71 =>
             have H := HA.out
             clear HA
             simp only [laws_FnExactShortestChain.j2] at H
             by_cases c90 : x118_71 = true
             ·subst c90
              have H1 : (some false) = some r := by rw [if_pos rfl] at H; exact H
              clear H
              have H := H1
              clear H1
              obtain rfl := Option.some.inj H
              go_wp2
              go_ret
              exact ⟨by first | rfl | (simp [errW_none, errW_some] <;> rfl) | (simp [*, errW_none, errW_some] <;> rfl), by repeat (first | (with_reducible first | exact HB.out | apply below_alloc | apply pw_below_drewN | apply below_drew1 | refine below_set ?_ GE151.out | refine below_set ?_ GE170.out) | exact HB.out)⟩
             ·replace c90 := Bool.eq_false_iff.mpr c90
              subst c90
              have H1 : ((laws_heldIntS.f kj71 t189 1).bind fun t203 => (if t203 < 0 then (some false) else (if t203 = t188 then (some true) else (some false)))) = some r := by rw [if_neg (show ¬ (false = true) by decide)] at H; exact H
              clear H
              have H := H1
              clear H1
              replace H := Option.bind_eq_some_iff.mp H
              obtain ⟨t203, A910, H⟩ := H
              replace H : (if t203 < 0 then (some false) else (if t203 = t188 then (some true) else (some false))) = some r := H
              have A91 := Aside0.mk A910
              clear A910
              by_cases c92 : t203 < 0
              ·rw [if_pos c92] at H
               have c92b0 : decide (t203 < 0) = true := decide_eq_true c92
               clear c92
               obtain rfl := Option.some.inj H
               go_wp2_with (first | ((with_reducible refine gate_callee (f := 23) rfl ?_); refine goesL_ (some 121) rfl rfl Try.func23 (by kernel_rfl) rfl #[.slice Ao73 t189.length co73, .int .i64 1] rfl (by (try simp only [List.map_toArray, List.map_cons, List.map_nil]); first | done | rfl | (simp only [List.length_drop, List.length_take]; rfl)) ?_; (with_reducible refine (laws_heldIntS.calls kj71 _ _ t189 1 t203 _ ?side1 ?side2 A91.out).mono ?_); (case side1 => exact cz_ (Kd.R_reads' HO_12.out).2.2); (case side2 => exact (Kd.R_reads' HO_12.out).2.1); rintro e w' ⟨rfl, ⟨nd, rfl⟩⟩; refine ⟨_, rfl, ?_⟩))
               go_ret
               exact ⟨by first | rfl | (simp [errW_none, errW_some] <;> rfl) | (simp [*, errW_none, errW_some] <;> rfl), by repeat (first | (with_reducible first | exact HB.out | apply below_alloc | apply pw_below_drewN | apply below_drew1 | refine below_set ?_ GE151.out | refine below_set ?_ GE170.out) | exact HB.out)⟩
              ·rw [if_neg c92] at H
               have c92b0 : decide (t203 < 0) = false := decide_eq_false c92
               clear c92
               by_cases c93 : t203 = t188
               ·rw [if_pos c93] at H
                have c93b0 : (t203 == t188) = true := beq_iff_eq.mpr c93
                have c93b1 : (t203 != t188) = false := bne_eq_false_iff_eq.mpr c93
                clear c93
                obtain rfl := Option.some.inj H
                go_wp2_with (first | ((with_reducible refine gate_callee (f := 23) rfl ?_); refine goesL_ (some 121) rfl rfl Try.func23 (by kernel_rfl) rfl #[.slice Ao73 t189.length co73, .int .i64 1] rfl (by (try simp only [List.map_toArray, List.map_cons, List.map_nil]); first | done | rfl | (simp only [List.length_drop, List.length_take]; rfl)) ?_; (with_reducible refine (laws_heldIntS.calls kj71 _ _ t189 1 t203 _ ?side1 ?side2 A91.out).mono ?_); (case side1 => exact cz_ (Kd.R_reads' HO_12.out).2.2); (case side2 => exact (Kd.R_reads' HO_12.out).2.1); rintro e w' ⟨rfl, ⟨nd, rfl⟩⟩; refine ⟨_, rfl, ?_⟩))
                go_ret
                exact ⟨by first | rfl | (simp [errW_none, errW_some] <;> rfl) | (simp [*, errW_none, errW_some] <;> rfl), by repeat (first | (with_reducible first | exact HB.out | apply below_alloc | apply pw_below_drewN | apply below_drew1 | refine below_set ?_ GE151.out | refine below_set ?_ GE170.out) | exact HB.out)⟩
               ·rw [if_neg c93] at H
                have c93b0 : (t203 == t188) = false := beq_eq_false_iff_ne.mpr c93
                have c93b1 : (t203 != t188) = true := bne_iff_ne.mpr c93
                obtain rfl := Option.some.inj H
                go_wp2_with (first | ((with_reducible refine gate_callee (f := 23) rfl ?_); refine goesL_ (some 121) rfl rfl Try.func23 (by kernel_rfl) rfl #[.slice Ao73 t189.length co73, .int .i64 1] rfl (by (try simp only [List.map_toArray, List.map_cons, List.map_nil]); first | done | rfl | (simp only [List.length_drop, List.length_take]; rfl)) ?_; (with_reducible refine (laws_heldIntS.calls kj71 _ _ t189 1 t203 _ ?side1 ?side2 A91.out).mono ?_); (case side1 => exact cz_ (Kd.R_reads' HO_12.out).2.2); (case side2 => exact (Kd.R_reads' HO_12.out).2.1); rintro e w' ⟨rfl, ⟨nd, rfl⟩⟩; refine ⟨_, rfl, ?_⟩))
                go_ret
                exact ⟨by first | rfl | (simp [errW_none, errW_some] <;> rfl) | (simp [*, errW_none, errW_some] <;> rfl), by repeat (first | (with_reducible first | exact HB.out | apply below_alloc | apply pw_below_drewN | apply below_drew1 | refine below_set ?_ GE151.out | refine below_set ?_ GE170.out) | exact HB.out)⟩
          ·rw [if_neg c69] at H
           have c69b0 : (t190 == t188) = false := beq_eq_false_iff_ne.mpr c69
           have c69b1 : (t190 != t188) = true := bne_iff_ne.mpr c69
           obtain rfl := Option.some.inj H
           obtain ⟨Ao94, co94, eo94⟩ := Kd.R_slice HO_12.out
           subst eo94
           go_wp2_with (first | ((with_reducible refine gate_callee (f := 22) rfl ?_); refine goesL_ (some 87) rfl rfl Try.func22 (by kernel_rfl) rfl #[.slice Ao94 t171.length co94, .int .i64 1] rfl (by (try simp only [List.map_toArray, List.map_cons, List.map_nil]); first | done | rfl | (simp only [List.length_drop, List.length_take]; rfl)) ?_; (with_reducible refine (laws_markIntS.calls kj43 (fun k_ => some k_ = (.slice Ao94 t171.length co94 : Value).ownBlock) (.slice Ao94 t171.length co94) t171 1 t188 t189 w _ ?side1 ?side2 A64.out).mono ?_); (case side1 => repeat (first | (with_reducible first | exact HB.out | apply below_alloc | apply pw_below_drewN | apply below_drew1 | refine below_set ?_ GE151.out | refine below_set ?_ GE170.out) | exact HB.out)); (case side2 => exact Kd.R_tight rfl HO_12.out); rintro e w95 ⟨rfl, hy0, hb, hkp⟩; refine ⟨_, rfl, ?_⟩; have n0_ := Aside0.mk (Kd.R_mono (ok' := fun k_ => some k_ ≠ (.slice Ao94 t171.length co94 : Value).ownBlock) (Kd.R_keptB (HO_8.out) hkp (fun k_ hk_ hs_ => (hk_) hs_)) (fun k_ hk_ => hk_.1)); have n1_ := Aside0.mk (Kd.R_reok rfl hy0 (fun k_ e_ => HO_12.out.1 k_ e_)); have n2_ := Aside0.mk (Kd.R_mono (ok' := fun k_ => True) (Kd.R_keptB ((Kd.R_apart' HO_171000.out (Kd.R_typed HO_12.out) (by decide))) hkp (fun k_ hk_ hs_ => (hk_.2) hs_)) (fun k_ hk_ => trivial)); have n3_ := Aside0.mk (Kd.R_mono (ok' := fun k_ => True) (Kd.R_keptB ((Kd.R_apart' HO_171001.out (Kd.R_typed HO_12.out) (by decide))) hkp (fun k_ hk_ hs_ => (hk_.2) hs_)) (fun k_ hk_ => trivial)); have n4_ := Aside0.mk (blk_kept (bz_ BK151.out) hkp (fun hs_ => (fun e_ => (Kd.R_ne HO_12.out BK151.out (by decide)) e_) hs_)); have n5_ := Aside0.mk (blk_kept (bz_ BK170.out) hkp (fun hs_ => (fun e_ => (Kd.R_ne HO_12.out BK170.out (by decide)) e_) hs_)); have n6_ := Aside0.mk (hb); clear HO_8; clear HO_12; clear HO_171000; clear HO_171001; clear BK151; clear BK170; clear HB; have HO_8 := n0_; have HO_12 := n1_; have HO_171000 := n2_; have HO_171001 := n3_; have BK151 := n4_; have BK170 := n5_; have HB := n6_; clear n0_ n1_ n2_ n3_ n4_ n5_ n6_; (try clear hb); (try clear hkp); (try clear hy0)) | ((with_reducible refine gate_callee (f := 23) rfl ?_); refine goesL_ (some 90) rfl rfl Try.func23 (by kernel_rfl) rfl #[.slice Ao94 t189.length co94, .int .i64 1] rfl (by (try simp only [List.map_toArray, List.map_cons, List.map_nil]); first | done | (rw [show t189.length = t171.length from (Kd.R_reads' HO_12.out).1.symm] <;> rfl) | rfl | (simp only [List.length_drop, List.length_take]; rfl)) ?_; (with_reducible refine (laws_heldIntS.calls kj43 _ _ t189 1 t190 _ ?side1 ?side2 A65.out).mono ?_); (case side1 => exact cz_ (Kd.R_reads' HO_12.out).2.2); (case side2 => rw [show t189.length = t171.length from (Kd.R_reads' HO_12.out).1.symm]; exact (Kd.R_reads' HO_12.out).2.1); rintro e w' ⟨rfl, ⟨nd, rfl⟩⟩; refine ⟨_, rfl, ?_⟩))
           go_ret
           exact ⟨by first | rfl | (simp [errW_none, errW_some] <;> rfl) | (simp [*, errW_none, errW_some] <;> rfl), by repeat (first | (with_reducible first | exact HB.out | apply below_alloc | apply pw_below_drewN | apply below_drew1 | refine below_set ?_ GE151.out | refine below_set ?_ GE170.out) | exact HB.out)⟩
     ·replace c42 := Bool.eq_false_iff.mpr c42
      subst c42
      have H1 : (some false) = some r := by rw [if_neg (show ¬ (false = true) by decide)] at H; exact H
      clear H
      have H := H1
      clear H1
      obtain rfl := Option.some.inj H
      try go_wp2
      have n0_ := Aside0.mk (Kd.R_drew HO_8.out)
      have n1_ := Aside0.mk (Kd.R_drew HO_12.out)
      have n2_ := Aside0.mk (Kd.R_drew HO_171000.out)
      have n3_ := Aside0.mk (Kd.R_drew HO_171001.out)
      have n4_ := Aside0.mk (blk_drew BK151.out)
      have n5_ := Aside0.mk (blk_drew BK170.out)
      have n6_ := Aside0.mk (below_drew1 HB.out)
      clear HO_8
      clear HO_12
      clear HO_171000
      clear HO_171001
      clear BK151
      clear BK170
      clear HB
      have HO_8 := n0_
      have HO_12 := n1_
      have HO_171000 := n2_
      have HO_171001 := n3_
      have BK151 := n4_
      have BK170 := n5_
      have HB := n6_
      clear n0_ n1_ n2_ n3_ n4_ n5_ n6_
      refine start_ (n := 5) (S := fun w' => w'.cell? ⟨gb170, 0, none⟩ = some (.slice Ao25 t164.length co25) ∧ w'.cell? ⟨gb170, 1, none⟩ = some (.slice Ao28 t167.length co28) ∧ w'.cell? ⟨gb151, 0, none⟩ = some (.slice A0_0 l0_0.length c0_0) ∧ w'.cell? ⟨gb151, 1, none⟩ = some (.slice A0_1 l0_1.length c0_1)) (ds := []) #[false, false, false, false, false] (by kernel_rfl) rfl rfl ⟨(blk_cell BK170.out 0).trans rfl, (blk_cell BK170.out 1).trans rfl, (blk_cell BK151.out 0).trans rfl, (blk_cell BK151.out 1).trans rfl⟩ (fun hHeld => ?_)
      generalize wc.drew = w96 at HO_8 HO_12 HO_171000 HO_171001 BK151 BK170 HB hHeld ⊢
      refine take_ (i := 0) (N := some 59) (v := ?_) (a' := ?_) #[true, false, false, false, false] rfl rfl (by kernel_rfl) (fun _ _ _ h => h) (Or.inl ⟨by rfl, ?_⟩) hHeld ?_ ?_
      rotate_left
      ·rintro w' ⟨s0, s1, s2, s3⟩
       go_simp
       with_reducible rfl
      rotate_left
      ·simp only [Act.put, List.setIfInBounds_toArray, List.set_cons_zero, List.set_cons_succ, i64_w, i32_w]
       rfl
      refine take_ (i := 1) (N := some 60) (v := ?_) (a' := ?_) #[true, true, false, false, false] rfl rfl (by kernel_rfl) (fun _ _ _ h => h) (Or.inl ⟨by rfl, ?_⟩) hHeld ?_ ?_
      rotate_left
      ·rintro w' ⟨s0, s1, s2, s3⟩
       go_simp
       with_reducible rfl
      rotate_left
      ·simp only [Act.put, List.setIfInBounds_toArray, List.set_cons_zero, List.set_cons_succ, i64_w, i32_w]
       rfl
      refine one_ (i := 2) (N := some 61) (bl 3 5) rfl rfl (by kernel_rfl) (by decide) (fun K hK => ?_)
      refine goes_ Try.func17 (by kernel_rfl) rfl #[.agg #[.slice A0_0 l0_0.length c0_0, .slice A0_1 l0_1.length c0_1]] (by rfl) rfl rfl (by (try simp only [List.map_toArray, List.map_cons, List.map_nil]); first | done | rfl | (simp only [List.length_drop, List.length_take]; rfl)) ?_
      with_reducible refine (laws_toRecord.calls kj12 _ _ l0_0 _ _ l0_1 t177 t180 _ ?side1 ?side2 ?side3 ?side4 A40.out).mono ?_
      (case side1 => exact cz_ (Kd.C_below HR0_0.out HB.out))
      (case side2 => exact HC0_0.out)
      (case side3 => exact cz_ (Kd.C_below HR0_1.out HB.out))
      (case side4 => exact HC0_1.out)
      rintro e w97 ⟨v178, v181, rfl, ho0, ho1, hb⟩
      refine ⟨_, rfl, ?_⟩
      have n0_ := Aside0.mk (Kd.R_below (rz_ HO_8.out) hb)
      have n1_ := Aside0.mk (Kd.R_below (rz_ HO_12.out) hb)
      have n2_ := Aside0.mk (Kd.R_elder' (rz_ HO_171000.out) (Kd.R_base ho0) hb)
      have n3_ := Aside0.mk (Kd.R_elder' (rz_ HO_171001.out) (Kd.R_base ho1) hb)
      have n4_ := Aside0.mk (Kd.R_lower (Kd.R_new' ho0 (Kd.R_lt (rz_ HO_171000.out))) (below_size (by repeat (first | (with_reducible first | exact HB.out | apply below_alloc | apply pw_below_drewN | apply below_drew1 | refine below_set ?_ GE151.out | refine below_set ?_ GE170.out) | exact HB.out))))
      have n5_ := Aside0.mk (Kd.R_lower (Kd.R_new' ho1 (Kd.R_lt (rz_ HO_171001.out))) (below_size (by repeat (first | (with_reducible first | exact HB.out | apply below_alloc | apply pw_below_drewN | apply below_drew1 | refine below_set ?_ GE151.out | refine below_set ?_ GE170.out) | exact HB.out))))
      have n6_ := Aside0.mk (blk_below (bz_ BK151.out) hb)
      have n7_ := Aside0.mk (blk_below (bz_ BK170.out) hb)
      have n8_ := Aside0.mk (below_step (by repeat (first | (with_reducible first | exact HB.out | apply below_alloc | apply pw_below_drewN | apply below_drew1 | refine below_set ?_ GE151.out | refine below_set ?_ GE170.out) | exact HB.out)) hb)
      clear HO_8
      clear HO_12
      clear HO_171000
      clear HO_171001
      clear BK151
      clear BK170
      clear HB
      have HO_8 := n0_
      have HO_12 := n1_
      have HO_171000 := n2_
      have HO_171001 := n3_
      have HO179 := n4_
      have HO182 := n5_
      have BK151 := n6_
      have BK170 := n7_
      have HB := n8_
      clear n0_ n1_ n2_ n3_ n4_ n5_ n6_ n7_ n8_
      (try clear hb)
      (try clear hb2)
      (try clear hk)
      (try clear hi)
      (try clear ho0)
      (try clear ho1)
      obtain ⟨Ao98, co98, eo98⟩ := Kd.R_slice HO179.out
      (first | subst eo98 | (injection eo98 with f1_ f2_ f3_; have f4_ := f1_.symm; have f5_ := f3_.symm; clear f1_ f2_ f3_; subst f4_; subst f5_))
      obtain ⟨Ao99, co99, eo99⟩ := Kd.R_slice HO182.out
      (first | subst eo99 | (injection eo99 with f1_ f2_ f3_; have f4_ := f1_.symm; have f5_ := f3_.symm; clear f1_ f2_ f3_; subst f4_; subst f5_))
      refine hK.out _ _ ⟨(blk_cell BK170.out 0).trans rfl, (blk_cell BK170.out 1).trans rfl, (blk_cell BK151.out 0).trans rfl, (blk_cell BK151.out 1).trans rfl⟩ (fun hHeld => ?_)
      clear hK K
      refine norm_ (a' := ?_) ?_ ?_
      rotate_left
      ·show Act.put _ (some 61) _ = _
       simp only [Act.put, List.setIfInBounds_toArray, List.set_cons_zero, List.set_cons_succ, i64_w, i32_w]
       rfl
      refine one_ (i := 3) (N := some 62) (bl 4 5) rfl rfl (by kernel_rfl) (by decide) (fun K hK => ?_)
      refine goes_ Try.func20 (by kernel_rfl) rfl #[.agg #[.slice Ao25 t164.length co25, .slice Ao28 t167.length co28], .agg #[.slice Ao98 t177.length co98, .slice Ao99 t180.length co99]] (by rfl) rfl rfl (by (try simp only [List.map_toArray, List.map_cons, List.map_nil]); first | done | rfl | (simp only [List.length_drop, List.length_take]; rfl)) ?_
      with_reducible refine (laws_eqRecord.calls kj12 _ _ t164 _ _ t167 _ _ t177 _ _ t180 false _ ?side1 ?side2 ?side3 ?side4 ?side5 ?side6 ?side7 ?side8 A41.out).mono ?_
      (case side1 => exact cz_ (Kd.R_reads' HO_171000.out).2.2)
      (case side2 => exact (Kd.R_reads' HO_171000.out).2.1)
      (case side3 => exact cz_ (Kd.R_reads' HO_171001.out).2.2)
      (case side4 => exact (Kd.R_reads' HO_171001.out).2.1)
      (case side5 => exact cz_ (Kd.R_reads' HO179.out).2.2)
      (case side6 => exact (Kd.R_reads' HO179.out).2.1)
      (case side7 => exact cz_ (Kd.R_reads' HO182.out).2.2)
      (case side8 => exact (Kd.R_reads' HO182.out).2.1)
      rintro e w100 ⟨rfl, hb⟩
      refine ⟨_, rfl, ?_⟩
      have n0_ := Aside0.mk (Kd.R_below (rz_ HO_8.out) hb)
      have n1_ := Aside0.mk (Kd.R_below (rz_ HO_12.out) hb)
      have n2_ := Aside0.mk (Kd.R_below (rz_ HO_171000.out) hb)
      have n3_ := Aside0.mk (Kd.R_below (rz_ HO_171001.out) hb)
      have n4_ := Aside0.mk (Kd.R_below (rz_ HO179.out) hb)
      have n5_ := Aside0.mk (Kd.R_below (rz_ HO182.out) hb)
      have n6_ := Aside0.mk (blk_below (bz_ BK151.out) hb)
      have n7_ := Aside0.mk (blk_below (bz_ BK170.out) hb)
      have n8_ := Aside0.mk (below_step (by repeat (first | (with_reducible first | exact HB.out | apply below_alloc | apply pw_below_drewN | apply below_drew1 | refine below_set ?_ GE151.out | refine below_set ?_ GE170.out) | exact HB.out)) hb)
      clear HO_8
      clear HO_12
      clear HO_171000
      clear HO_171001
      clear HO179
      clear HO182
      clear BK151
      clear BK170
      clear HB
      have HO_8 := n0_
      have HO_12 := n1_
      have HO_171000 := n2_
      have HO_171001 := n3_
      have HO179 := n4_
      have HO182 := n5_
      have BK151 := n6_
      have BK170 := n7_
      have HB := n8_
      clear n0_ n1_ n2_ n3_ n4_ n5_ n6_ n7_ n8_
      (try clear hb)
      (try clear hb2)
      (try clear hk)
      (try clear hi)
      refine hK.out _ _ ⟨(blk_cell BK170.out 0).trans rfl, (blk_cell BK170.out 1).trans rfl, (blk_cell BK151.out 0).trans rfl, (blk_cell BK151.out 1).trans rfl⟩ (fun hHeld => ?_)
      clear hK K
      refine norm_ (a' := ?_) ?_ ?_
      rotate_left
      ·show Act.put _ (some 62) _ = _
       simp only [Act.put, List.setIfInBounds_toArray, List.set_cons_zero, List.set_cons_succ, i64_w, i32_w]
       rfl
      refine pure_ (i := 4) (N := some 63) (v := ?_) (a' := ?_) #[true, true, true, true, true] rfl rfl (by kernel_rfl) (fun _ _ _ h => h) (Or.inl ⟨by rfl, ?_⟩) ?_ ?_
      rotate_left
      ·intro w'
       go_simp
       with_reducible rfl
      rotate_left
      ·simp only [Act.put, List.setIfInBounds_toArray, List.set_cons_zero, List.set_cons_succ, i64_w, i32_w]
       rfl
      refine done_ (by kernel_rfl) ?_
      try go_wp2
      go_ret
      exact ⟨by first | rfl | (simp [errW_none, errW_some] <;> rfl) | (simp [*, errW_none, errW_some] <;> rfl), by repeat (first | (with_reducible first | exact HB.out | apply below_alloc | apply pw_below_drewN | apply below_drew1 | refine below_set ?_ GE151.out | refine below_set ?_ GE170.out) | exact HB.out)⟩

end Go.Proofs.Ytdiejmhphhdcfaa.Q

-- Written by a program of this session (wip/xprint.py over the kit's printer).
import Derived.Test.YtenphfagdpkjaaaQ0
import Derived.Test.YtenphfagdpkjaaaQB0
import Derived.Test.YtenphfagdpkjaaaQB1
import Derived.Test.YtenphfagdpkjaaaQF12
import Derived.Test.YtenphfagdpkjaaaQF15
import Derived.Test.YtenphfagdpkjaaaQF18
import Derived.Test.YtenphfagdpkjaaaQF23
import Derived.Test.YtenphfagdpkjaaaQF24
namespace Go.Proofs.Ytenphfagdpkjaaa.Q
open Go.RowKit Go.Proofs.YtenphfagdpkjaaaW.PrintWords Go.Proofs.YtenphfagdpkjaaaW.PrintLast
set_option linter.unusedVariables false
set_option linter.unusedSimpArgs false

/-! ### laws_FnExactFirstUnsound: function 6 -/
def laws_FnExactFirstUnsound.j0 : Nat → List (S61) → List (S64) → Bool → List (S100) → List (S102) → List (S77) → List (S91) → Option (Bool)
 | 0, _, _, _, _, _, _, _ => none
 | k + 1, x1, x11, x65, x152000, x152001, x174000, x174001 => if x65 = true then (some false) else ((laws_toRecord.f k x152000 x152001).bind fun bt181 => ((laws_eqRecord.f k x174000 x174001 bt181.1 bt181.2).bind fun t187 => (if t187 = true then ((laws_toPhaseS.f k x1).bind fun t188 => ((laws_eqPhaseS.f k x11 t188).bind fun t191 => (if t191 = true then (some true) else (some false)))) else (some false))))
def laws_FnExactFirstUnsound.f (k : Nat) (l0_0 : List (S100)) (l0_1 : List (S102)) (l1 : List (S61)) : Option (Bool) := (laws_szRecord.f l0_0 l0_1 1048576).bind fun t152 => (if t152 < 0 then (some true) else ((laws_szPhaseS.f k l1 t152).bind fun t153 => (if t153 < 0 then (some true) else ((laws_toRecord.f k l0_0 l0_1).bind fun bt154 => ((laws_toPhaseS.f k l1).bind fun t160 => ((spec_FirstUnsound.f k bt154.1 bt154.2 t160).bind fun bt163 => ((laws_toRecord.f k l0_0 l0_1).bind fun bt167 => ((laws_toPhaseS.f k l1).bind fun t174 => ((impl_FirstUnsound.f bt167.1 bt167.2 t174).bind fun bt177 => (if bt177.1 = bt163.1 then (if bt177.2.1 = bt163.2.1 then (if (bt177.2.2.1 != bt163.2.2.1) = true then (laws_FnExactFirstUnsound.j0 k l1 t174 true l0_0 l0_1 bt167.1 bt167.2) else (laws_FnExactFirstUnsound.j0 k l1 t174 (bt177.2.2.2 != bt163.2.2.2) l0_0 l0_1 bt167.1 bt167.2)) else (laws_FnExactFirstUnsound.j0 k l1 t174 true l0_0 l0_1 bt167.1 bt167.2)) else (laws_FnExactFirstUnsound.j0 k l1 t174 true l0_0 l0_1 bt167.1 bt167.2)))))))))))
theorem laws_FnExactFirstUnsound.mono_l : ∀ k, (∀ y0 y1 y2 y3 y4 y5 y6, LeO (laws_FnExactFirstUnsound.j0 k y0 y1 y2 y3 y4 y5 y6) (laws_FnExactFirstUnsound.j0 (k + 1) y0 y1 y2 y3 y4 y5 y6))
 | 0 => fun _ _ _ _ _ _ _ r h => by simp [laws_FnExactFirstUnsound.j0] at h
 | k + 1 => by
  have ih0 := laws_FnExactFirstUnsound.mono_l k
  ·intro y0 y1 y2 y3 y4 y5 y6
   unfold laws_FnExactFirstUnsound.j0
   repeat' first
   | (with_reducible exact ih0 _ _ _ _ _ _ _)
   | (with_reducible exact laws_eqPhaseS.mono _ _ _)
   | (with_reducible exact laws_eqRecord.mono _ _ _ _ _)
   | (with_reducible exact laws_szPhaseS.mono _ _ _)
   | (with_reducible exact laws_toPhaseS.mono _ _)
   | (with_reducible exact laws_toRecord.mono _ _ _)
   | (with_reducible exact spec_FirstUnsound.mono _ _ _ _)
   | (with_reducible exact LeO.refl _)
   | (with_reducible exact LeO.none _)
   | (with_reducible refine LeO.ite ?_ ?_)
   | (with_reducible refine LeO.bind ?_ (fun _ => ?_))
   | exact ih0 _ _ _ _ _ _ _
   | exact laws_eqPhaseS.mono _ _ _
   | exact laws_eqRecord.mono _ _ _ _ _
   | exact laws_szPhaseS.mono _ _ _
   | exact laws_toPhaseS.mono _ _
   | exact laws_toRecord.mono _ _ _
   | exact spec_FirstUnsound.mono _ _ _ _
   | exact LeO.none _
   | refine LeO.ite ?_ ?_
   | refine LeO.bind ?_ (fun _ => ?_)
theorem laws_FnExactFirstUnsound.mono : ∀ a0 a1 a2 k, LeO (laws_FnExactFirstUnsound.f k a0 a1 a2) (laws_FnExactFirstUnsound.f (k + 1) a0 a1 a2) := by
 intro a0 a1 a2 k
 have ih0 := laws_FnExactFirstUnsound.mono_l k
 unfold laws_FnExactFirstUnsound.f
 repeat' first
   | (with_reducible exact ih0 _ _ _ _ _ _ _)
   | (with_reducible exact laws_eqPhaseS.mono _ _ _)
   | (with_reducible exact laws_eqRecord.mono _ _ _ _ _)
   | (with_reducible exact laws_szPhaseS.mono _ _ _)
   | (with_reducible exact laws_toPhaseS.mono _ _)
   | (with_reducible exact laws_toRecord.mono _ _ _)
   | (with_reducible exact spec_FirstUnsound.mono _ _ _ _)
   | (with_reducible exact LeO.refl _)
   | (with_reducible exact LeO.none _)
   | (with_reducible refine LeO.ite ?_ ?_)
   | (with_reducible refine LeO.bind ?_ (fun _ => ?_))
   | exact ih0 _ _ _ _ _ _ _
   | exact laws_eqPhaseS.mono _ _ _
   | exact laws_eqRecord.mono _ _ _ _ _
   | exact laws_szPhaseS.mono _ _ _
   | exact laws_toPhaseS.mono _ _
   | exact laws_toRecord.mono _ _ _
   | exact spec_FirstUnsound.mono _ _ _ _
   | exact LeO.none _
   | refine LeO.ite ?_ ?_
   | refine LeO.bind ?_ (fun _ => ?_)
set_option maxHeartbeats 8000000 in
set_option maxRecDepth 100000 in
theorem laws_FnExactFirstUnsound.calls (k : Nat) (A0_0 : Option Addr) (c0_0 : Nat) (l0_0 : List (S100)) (A0_1 : Option Addr) (c0_1 : Nat) (l0_1 : List (S102)) (A1 : Option Addr) (c1 : Nat) (l1 : List (S61)) (r : Bool) (w : World) (hr0_0 : Kd.C k100 w A0_0 l0_0.length l0_0) (hc0_0 : l0_0.length ≤ c0_0) (hr0_1 : Kd.C k102 w A0_1 l0_1.length l0_1) (hc0_1 : l0_1.length ≤ c0_1) (hr1 : Kd.C k61 w A1 l1.length l1) (hc1 : l1.length ≤ c1) (h : laws_FnExactFirstUnsound.f k l0_0 l0_1 l1 = some r) :
  Calls Try.prog 6 #[.agg #[.slice A0_0 l0_0.length c0_0, .slice A0_1 l0_1.length c0_1], .slice A1 l1.length c1] w fun e w' => e = .returned (.bool r) ∧ Below w.heap.size w w' := by
 have hu25 := Try.underlying25
 have hu33 := Try.underlying33
 have HR0_0 := Aside0.mk hr0_0
 have HC0_0 := Aside0.mk hc0_0
 clear hr0_0 hc0_0
 have HR0_1 := Aside0.mk hr0_1
 have HC0_1 := Aside0.mk hc0_1
 clear hr0_1 hc0_1
 have HR1 := Aside0.mk hr1
 have HC1 := Aside0.mk hc1
 clear hr1 hc1
 have HB := Aside0.mk (Below.refl w.heap.size w)
 have H : ((laws_szRecord.f l0_0 l0_1 1048576).bind fun t152 => (if t152 < 0 then (some true) else ((laws_szPhaseS.f k l1 t152).bind fun t153 => (if t153 < 0 then (some true) else ((laws_toRecord.f k l0_0 l0_1).bind fun bt154 => ((laws_toPhaseS.f k l1).bind fun t160 => ((spec_FirstUnsound.f k bt154.1 bt154.2 t160).bind fun bt163 => ((laws_toRecord.f k l0_0 l0_1).bind fun bt167 => ((laws_toPhaseS.f k l1).bind fun t174 => ((impl_FirstUnsound.f bt167.1 bt167.2 t174).bind fun bt177 => (if bt177.1 = bt163.1 then (if bt177.2.1 = bt163.2.1 then (if (bt177.2.2.1 != bt163.2.2.1) = true then (laws_FnExactFirstUnsound.j0 k l1 t174 true l0_0 l0_1 bt167.1 bt167.2) else (laws_FnExactFirstUnsound.j0 k l1 t174 (bt177.2.2.2 != bt163.2.2.2) l0_0 l0_1 bt167.1 bt167.2)) else (laws_FnExactFirstUnsound.j0 k l1 t174 true l0_0 l0_1 bt167.1 bt167.2)) else (laws_FnExactFirstUnsound.j0 k l1 t174 true l0_0 l0_1 bt167.1 bt167.2)))))))))))) = some r := h
 clear h
 replace H := Option.bind_eq_some_iff.mp H
 obtain ⟨t152, A30, H⟩ := H
 replace H : (if t152 < 0 then (some true) else ((laws_szPhaseS.f k l1 t152).bind fun t153 => (if t153 < 0 then (some true) else ((laws_toRecord.f k l0_0 l0_1).bind fun bt154 => ((laws_toPhaseS.f k l1).bind fun t160 => ((spec_FirstUnsound.f k bt154.1 bt154.2 t160).bind fun bt163 => ((laws_toRecord.f k l0_0 l0_1).bind fun bt167 => ((laws_toPhaseS.f k l1).bind fun t174 => ((impl_FirstUnsound.f bt167.1 bt167.2 t174).bind fun bt177 => (if bt177.1 = bt163.1 then (if bt177.2.1 = bt163.2.1 then (if (bt177.2.2.1 != bt163.2.2.1) = true then (laws_FnExactFirstUnsound.j0 k l1 t174 true l0_0 l0_1 bt167.1 bt167.2) else (laws_FnExactFirstUnsound.j0 k l1 t174 (bt177.2.2.2 != bt163.2.2.2) l0_0 l0_1 bt167.1 bt167.2)) else (laws_FnExactFirstUnsound.j0 k l1 t174 true l0_0 l0_1 bt167.1 bt167.2)) else (laws_FnExactFirstUnsound.j0 k l1 t174 true l0_0 l0_1 bt167.1 bt167.2))))))))))) = some r := H
 have A3 := Aside0.mk A30
 clear A30
 by_cases c4 : t152 < 0
 ·rw [if_pos c4] at H
  have c4b0 : decide (t152 < 0) = true := decide_eq_true c4
  clear c4
  obtain rfl := Option.some.inj H
  go_enter Try.func6, Try.ntmps6
  go_wp2_with (first | ((with_reducible refine gate_dst (N := 2) rfl ?_); refine box_event ?hg (N := 2) ?hd (cs := #[.slice A0_0 l0_0.length c0_0, .slice A0_1 l0_1.length c0_1]) (t := 25) ?hr ?_; (case hd => rfl); (case hg => rfl); (case hr => first | (go_simp; done) | (go_simp; rfl)); intro gb151 hg w5 hbox hb; have n0_ := Aside0.mk (below_step (wz_ HB.out) hb); have n1_ := Aside0.mk (hbox); have n2_ := Aside0.mk ((by rw [hg]; exact (below_size (wz_ HB.out)) : w.heap.size ≤ gb151)); have n3_ := Aside0.mk ((by rw [hg]; exact (below_size (wz_ HB.out)) : w.heap.size ≤ gb151)); clear HB; have HB := n0_; have BK151 := n1_; have GW151 := n2_; have GE151 := n3_; clear n0_ n1_ n2_ n3_; clear hb hbox hg; have hcz6_0 : w5.cell? ⟨gb151, 0, none⟩ = some (.slice A0_0 l0_0.length c0_0) := (blk_cell BK151.out 0).trans rfl; have hcz6_1 : w5.cell? ⟨gb151, 1, none⟩ = some (.slice A0_1 l0_1.length c0_1) := (blk_cell BK151.out 1).trans rfl; have hfz6_0 := blk_frozen BK151.out 0; have hfz6_1 := blk_frozen BK151.out 1) | ((with_reducible refine gate_callee (f := 11) rfl ?_); refine goesL_ (some 18) rfl rfl Try.func11 (by kernel_rfl) rfl #[.agg #[.slice A0_0 l0_0.length c0_0, .slice A0_1 l0_1.length c0_1], .int .i64 1048576] rfl (by (try simp only [List.map_toArray, List.map_cons, List.map_nil]); first | done | rfl | (simp only [List.length_drop, List.length_take]; rfl)) ?_; (with_reducible refine (laws_szRecord.calls _ _ l0_0 _ _ l0_1 1048576 t152 _ ?side1 ?side2 ?side3 ?side4 A3.out).mono ?_); (case side1 => exact cz_ (Kd.C_below HR0_0.out HB.out)); (case side2 => exact HC0_0.out); (case side3 => exact cz_ (Kd.C_below HR0_1.out HB.out)); (case side4 => exact HC0_1.out); rintro e w7 ⟨rfl, hb⟩; refine ⟨_, rfl, ?_⟩; have n0_ := Aside0.mk (blk_below (bz_ BK151.out) hb); have n1_ := Aside0.mk (below_step (by repeat (first | (with_reducible first | exact HB.out | apply below_alloc | apply pw_below_drewN | apply below_drew1 | refine below_set ?_ GE151.out) | exact HB.out)) hb); clear BK151; clear HB; have BK151 := n0_; have HB := n1_; clear n0_ n1_; (try clear hb); (try clear hb2); (try clear hk); (try clear hi)))
  go_ret
  exact ⟨by first | rfl | (simp [errW_none, errW_some] <;> rfl) | (simp [*, errW_none, errW_some] <;> rfl), by repeat (first | (with_reducible first | exact HB.out | apply below_alloc | apply pw_below_drewN | apply below_drew1 | refine below_set ?_ GE151.out) | exact HB.out)⟩
 ·rw [if_neg c4] at H
  have c4b0 : decide (t152 < 0) = false := decide_eq_false c4
  clear c4
  replace H := Option.bind_eq_some_iff.mp H
  obtain ⟨t153, A80, H⟩ := H
  replace H : (if t153 < 0 then (some true) else ((laws_toRecord.f k l0_0 l0_1).bind fun bt154 => ((laws_toPhaseS.f k l1).bind fun t160 => ((spec_FirstUnsound.f k bt154.1 bt154.2 t160).bind fun bt163 => ((laws_toRecord.f k l0_0 l0_1).bind fun bt167 => ((laws_toPhaseS.f k l1).bind fun t174 => ((impl_FirstUnsound.f bt167.1 bt167.2 t174).bind fun bt177 => (if bt177.1 = bt163.1 then (if bt177.2.1 = bt163.2.1 then (if (bt177.2.2.1 != bt163.2.2.1) = true then (laws_FnExactFirstUnsound.j0 k l1 t174 true l0_0 l0_1 bt167.1 bt167.2) else (laws_FnExactFirstUnsound.j0 k l1 t174 (bt177.2.2.2 != bt163.2.2.2) l0_0 l0_1 bt167.1 bt167.2)) else (laws_FnExactFirstUnsound.j0 k l1 t174 true l0_0 l0_1 bt167.1 bt167.2)) else (laws_FnExactFirstUnsound.j0 k l1 t174 true l0_0 l0_1 bt167.1 bt167.2))))))))) = some r := H
  have A8 := Aside0.mk A80
  clear A80
  by_cases c9 : t153 < 0
  ·rw [if_pos c9] at H
   have c9b0 : decide (t153 < 0) = true := decide_eq_true c9
   clear c9
   obtain rfl := Option.some.inj H
   go_enter Try.func6, Try.ntmps6
   go_wp2_with (first | ((with_reducible refine gate_dst (N := 2) rfl ?_); refine box_event ?hg (N := 2) ?hd (cs := #[.slice A0_0 l0_0.length c0_0, .slice A0_1 l0_1.length c0_1]) (t := 25) ?hr ?_; (case hd => rfl); (case hg => rfl); (case hr => first | (go_simp; done) | (go_simp; rfl)); intro gb151 hg w10 hbox hb; have n0_ := Aside0.mk (below_step (wz_ HB.out) hb); have n1_ := Aside0.mk (hbox); have n2_ := Aside0.mk ((by rw [hg]; exact (below_size (wz_ HB.out)) : w.heap.size ≤ gb151)); have n3_ := Aside0.mk ((by rw [hg]; exact (below_size (wz_ HB.out)) : w.heap.size ≤ gb151)); clear HB; have HB := n0_; have BK151 := n1_; have GW151 := n2_; have GE151 := n3_; clear n0_ n1_ n2_ n3_; clear hb hbox hg; have hcz11_0 : w10.cell? ⟨gb151, 0, none⟩ = some (.slice A0_0 l0_0.length c0_0) := (blk_cell BK151.out 0).trans rfl; have hcz11_1 : w10.cell? ⟨gb151, 1, none⟩ = some (.slice A0_1 l0_1.length c0_1) := (blk_cell BK151.out 1).trans rfl; have hfz11_0 := blk_frozen BK151.out 0; have hfz11_1 := blk_frozen BK151.out 1) | ((with_reducible refine gate_callee (f := 11) rfl ?_); refine goesL_ (some 18) rfl rfl Try.func11 (by kernel_rfl) rfl #[.agg #[.slice A0_0 l0_0.length c0_0, .slice A0_1 l0_1.length c0_1], .int .i64 1048576] rfl (by (try simp only [List.map_toArray, List.map_cons, List.map_nil]); first | done | rfl | (simp only [List.length_drop, List.length_take]; rfl)) ?_; (with_reducible refine (laws_szRecord.calls _ _ l0_0 _ _ l0_1 1048576 t152 _ ?side1 ?side2 ?side3 ?side4 A3.out).mono ?_); (case side1 => exact cz_ (Kd.C_below HR0_0.out HB.out)); (case side2 => exact HC0_0.out); (case side3 => exact cz_ (Kd.C_below HR0_1.out HB.out)); (case side4 => exact HC0_1.out); rintro e w12 ⟨rfl, hb⟩; refine ⟨_, rfl, ?_⟩; have n0_ := Aside0.mk (blk_below (bz_ BK151.out) hb); have n1_ := Aside0.mk (below_step (by repeat (first | (with_reducible first | exact HB.out | apply below_alloc | apply pw_below_drewN | apply below_drew1 | refine below_set ?_ GE151.out) | exact HB.out)) hb); clear BK151; clear HB; have BK151 := n0_; have HB := n1_; clear n0_ n1_; (try clear hb); (try clear hb2); (try clear hk); (try clear hi)) | ((with_reducible refine gate_callee (f := 12) rfl ?_); refine goesL_ (some 23) rfl rfl Try.func12 (by kernel_rfl) rfl #[.slice A1 l1.length c1, .int .i64 t152] rfl (by (try simp only [List.map_toArray, List.map_cons, List.map_nil]); first | done | rfl | (simp only [List.length_drop, List.length_take]; rfl)) ?_; (with_reducible refine (laws_szPhaseS.calls k _ _ l1 t152 t153 _ ?side1 ?side2 A8.out).mono ?_); (case side1 => exact cz_ (Kd.C_below HR1.out HB.out)); (case side2 => exact HC1.out); rintro e w13 ⟨rfl, hb⟩; refine ⟨_, rfl, ?_⟩; have n0_ := Aside0.mk (blk_below (bz_ BK151.out) hb); have n1_ := Aside0.mk (below_step (by repeat (first | (with_reducible first | exact HB.out | apply below_alloc | apply pw_below_drewN | apply below_drew1 | refine below_set ?_ GE151.out) | exact HB.out)) hb); clear BK151; clear HB; have BK151 := n0_; have HB := n1_; clear n0_ n1_; (try clear hb); (try clear hb2); (try clear hk); (try clear hi)))
   go_ret
   exact ⟨by first | rfl | (simp [errW_none, errW_some] <;> rfl) | (simp [*, errW_none, errW_some] <;> rfl), by repeat (first | (with_reducible first | exact HB.out | apply below_alloc | apply pw_below_drewN | apply below_drew1 | refine below_set ?_ GE151.out) | exact HB.out)⟩
  ·rw [if_neg c9] at H
   have c9b0 : decide (t153 < 0) = false := decide_eq_false c9
   clear c9
   replace H := Option.bind_eq_some_iff.mp H
   obtain ⟨⟨t154, t157⟩, A140, H⟩ := H
   replace H : ((laws_toPhaseS.f k l1).bind fun t160 => ((spec_FirstUnsound.f k t154 t157 t160).bind fun bt163 => ((laws_toRecord.f k l0_0 l0_1).bind fun bt167 => ((laws_toPhaseS.f k l1).bind fun t174 => ((impl_FirstUnsound.f bt167.1 bt167.2 t174).bind fun bt177 => (if bt177.1 = bt163.1 then (if bt177.2.1 = bt163.2.1 then (if (bt177.2.2.1 != bt163.2.2.1) = true then (laws_FnExactFirstUnsound.j0 k l1 t174 true l0_0 l0_1 bt167.1 bt167.2) else (laws_FnExactFirstUnsound.j0 k l1 t174 (bt177.2.2.2 != bt163.2.2.2) l0_0 l0_1 bt167.1 bt167.2)) else (laws_FnExactFirstUnsound.j0 k l1 t174 true l0_0 l0_1 bt167.1 bt167.2)) else (laws_FnExactFirstUnsound.j0 k l1 t174 true l0_0 l0_1 bt167.1 bt167.2))))))) = some r := H
   have A14 := Aside0.mk A140
   clear A140
   replace H := Option.bind_eq_some_iff.mp H
   obtain ⟨t160, A150, H⟩ := H
   replace H : ((spec_FirstUnsound.f k t154 t157 t160).bind fun bt163 => ((laws_toRecord.f k l0_0 l0_1).bind fun bt167 => ((laws_toPhaseS.f k l1).bind fun t174 => ((impl_FirstUnsound.f bt167.1 bt167.2 t174).bind fun bt177 => (if bt177.1 = bt163.1 then (if bt177.2.1 = bt163.2.1 then (if (bt177.2.2.1 != bt163.2.2.1) = true then (laws_FnExactFirstUnsound.j0 k l1 t174 true l0_0 l0_1 bt167.1 bt167.2) else (laws_FnExactFirstUnsound.j0 k l1 t174 (bt177.2.2.2 != bt163.2.2.2) l0_0 l0_1 bt167.1 bt167.2)) else (laws_FnExactFirstUnsound.j0 k l1 t174 true l0_0 l0_1 bt167.1 bt167.2)) else (laws_FnExactFirstUnsound.j0 k l1 t174 true l0_0 l0_1 bt167.1 bt167.2)))))) = some r := H
   have A15 := Aside0.mk A150
   clear A150
   replace H := Option.bind_eq_some_iff.mp H
   obtain ⟨⟨t163, t164, t165, t166⟩, A160, H⟩ := H
   replace H : ((laws_toRecord.f k l0_0 l0_1).bind fun bt167 => ((laws_toPhaseS.f k l1).bind fun t174 => ((impl_FirstUnsound.f bt167.1 bt167.2 t174).bind fun bt177 => (if bt177.1 = t163 then (if bt177.2.1 = t164 then (if (bt177.2.2.1 != t165) = true then (laws_FnExactFirstUnsound.j0 k l1 t174 true l0_0 l0_1 bt167.1 bt167.2) else (laws_FnExactFirstUnsound.j0 k l1 t174 (bt177.2.2.2 != t166) l0_0 l0_1 bt167.1 bt167.2)) else (laws_FnExactFirstUnsound.j0 k l1 t174 true l0_0 l0_1 bt167.1 bt167.2)) else (laws_FnExactFirstUnsound.j0 k l1 t174 true l0_0 l0_1 bt167.1 bt167.2))))) = some r := H
   have A16 := Aside0.mk A160
   clear A160
   replace H := Option.bind_eq_some_iff.mp H
   obtain ⟨⟨t167, t170⟩, A170, H⟩ := H
   replace H : ((laws_toPhaseS.f k l1).bind fun t174 => ((impl_FirstUnsound.f t167 t170 t174).bind fun bt177 => (if bt177.1 = t163 then (if bt177.2.1 = t164 then (if (bt177.2.2.1 != t165) = true then (laws_FnExactFirstUnsound.j0 k l1 t174 true l0_0 l0_1 t167 t170) else (laws_FnExactFirstUnsound.j0 k l1 t174 (bt177.2.2.2 != t166) l0_0 l0_1 t167 t170)) else (laws_FnExactFirstUnsound.j0 k l1 t174 true l0_0 l0_1 t167 t170)) else (laws_FnExactFirstUnsound.j0 k l1 t174 true l0_0 l0_1 t167 t170)))) = some r := H
   have A17 := Aside0.mk A170
   clear A170
   replace H := Option.bind_eq_some_iff.mp H
   obtain ⟨t174, A180, H⟩ := H
   replace H : ((impl_FirstUnsound.f t167 t170 t174).bind fun bt177 => (if bt177.1 = t163 then (if bt177.2.1 = t164 then (if (bt177.2.2.1 != t165) = true then (laws_FnExactFirstUnsound.j0 k l1 t174 true l0_0 l0_1 t167 t170) else (laws_FnExactFirstUnsound.j0 k l1 t174 (bt177.2.2.2 != t166) l0_0 l0_1 t167 t170)) else (laws_FnExactFirstUnsound.j0 k l1 t174 true l0_0 l0_1 t167 t170)) else (laws_FnExactFirstUnsound.j0 k l1 t174 true l0_0 l0_1 t167 t170))) = some r := H
   have A18 := Aside0.mk A180
   clear A180
   replace H := Option.bind_eq_some_iff.mp H
   obtain ⟨⟨t177, t178, t179, t180⟩, A190, H⟩ := H
   replace H : (if t177 = t163 then (if t178 = t164 then (if (t179 != t165) = true then (laws_FnExactFirstUnsound.j0 k l1 t174 true l0_0 l0_1 t167 t170) else (laws_FnExactFirstUnsound.j0 k l1 t174 (t180 != t166) l0_0 l0_1 t167 t170)) else (laws_FnExactFirstUnsound.j0 k l1 t174 true l0_0 l0_1 t167 t170)) else (laws_FnExactFirstUnsound.j0 k l1 t174 true l0_0 l0_1 t167 t170)) = some r := H
   have A19 := Aside0.mk A190
   clear A190
   have HC20 := Aside0.mk H
   clear H
   go_enter Try.func6, Try.ntmps6
   go_upto_region 12 with (first | ((with_reducible refine gate_dst (N := 2) rfl ?_); refine box_event ?hg (N := 2) ?hd (cs := #[.slice A0_0 l0_0.length c0_0, .slice A0_1 l0_1.length c0_1]) (t := 25) ?hr ?_; (case hd => rfl); (case hg => rfl); (case hr => first | (go_simp; done) | (go_simp; rfl)); intro gb151 hg w21 hbox hb; have n0_ := Aside0.mk (below_step (wz_ HB.out) hb); have n1_ := Aside0.mk (hbox); have n2_ := Aside0.mk ((by rw [hg]; exact (below_size (wz_ HB.out)) : w.heap.size ≤ gb151)); have n3_ := Aside0.mk ((by rw [hg]; exact (below_size (wz_ HB.out)) : w.heap.size ≤ gb151)); clear HB; have HB := n0_; have BK151 := n1_; have GW151 := n2_; have GE151 := n3_; clear n0_ n1_ n2_ n3_; clear hb hbox hg; have hcz22_0 : w21.cell? ⟨gb151, 0, none⟩ = some (.slice A0_0 l0_0.length c0_0) := (blk_cell BK151.out 0).trans rfl; have hcz22_1 : w21.cell? ⟨gb151, 1, none⟩ = some (.slice A0_1 l0_1.length c0_1) := (blk_cell BK151.out 1).trans rfl; have hfz22_0 := blk_frozen BK151.out 0; have hfz22_1 := blk_frozen BK151.out 1) | ((with_reducible refine gate_callee (f := 11) rfl ?_); refine goesL_ (some 18) rfl rfl Try.func11 (by kernel_rfl) rfl #[.agg #[.slice A0_0 l0_0.length c0_0, .slice A0_1 l0_1.length c0_1], .int .i64 1048576] rfl (by (try simp only [List.map_toArray, List.map_cons, List.map_nil]); first | done | rfl | (simp only [List.length_drop, List.length_take]; rfl)) ?_; (with_reducible refine (laws_szRecord.calls _ _ l0_0 _ _ l0_1 1048576 t152 _ ?side1 ?side2 ?side3 ?side4 A3.out).mono ?_); (case side1 => exact cz_ (Kd.C_below HR0_0.out HB.out)); (case side2 => exact HC0_0.out); (case side3 => exact cz_ (Kd.C_below HR0_1.out HB.out)); (case side4 => exact HC0_1.out); rintro e w23 ⟨rfl, hb⟩; refine ⟨_, rfl, ?_⟩; have n0_ := Aside0.mk (blk_below (bz_ BK151.out) hb); have n1_ := Aside0.mk (below_step (by repeat (first | (with_reducible first | exact HB.out | apply below_alloc | apply pw_below_drewN | apply below_drew1 | refine below_set ?_ GE151.out) | exact HB.out)) hb); clear BK151; clear HB; have BK151 := n0_; have HB := n1_; clear n0_ n1_; (try clear hb); (try clear hb2); (try clear hk); (try clear hi)) | ((with_reducible refine gate_callee (f := 12) rfl ?_); refine goesL_ (some 23) rfl rfl Try.func12 (by kernel_rfl) rfl #[.slice A1 l1.length c1, .int .i64 t152] rfl (by (try simp only [List.map_toArray, List.map_cons, List.map_nil]); first | done | rfl | (simp only [List.length_drop, List.length_take]; rfl)) ?_; (with_reducible refine (laws_szPhaseS.calls k _ _ l1 t152 t153 _ ?side1 ?side2 A8.out).mono ?_); (case side1 => exact cz_ (Kd.C_below HR1.out HB.out)); (case side2 => exact HC1.out); rintro e w24 ⟨rfl, hb⟩; refine ⟨_, rfl, ?_⟩; have n0_ := Aside0.mk (blk_below (bz_ BK151.out) hb); have n1_ := Aside0.mk (below_step (by repeat (first | (with_reducible first | exact HB.out | apply below_alloc | apply pw_below_drewN | apply below_drew1 | refine below_set ?_ GE151.out) | exact HB.out)) hb); clear BK151; clear HB; have BK151 := n0_; have HB := n1_; clear n0_ n1_; (try clear hb); (try clear hb2); (try clear hk); (try clear hi); have hcz25_0 : w24.cell? ⟨gb151, 0, none⟩ = some (.slice A0_0 l0_0.length c0_0) := (blk_cell BK151.out 0).trans rfl; have hcz25_1 : w24.cell? ⟨gb151, 1, none⟩ = some (.slice A0_1 l0_1.length c0_1) := (blk_cell BK151.out 1).trans rfl; have hfz25_0 := blk_frozen BK151.out 0; have hfz25_1 := blk_frozen BK151.out 1) | ((with_reducible refine gate_callee (f := 14) rfl ?_); refine goesL_ (some 28) rfl rfl Try.func14 (by kernel_rfl) rfl #[.agg #[.slice A0_0 l0_0.length c0_0, .slice A0_1 l0_1.length c0_1]] rfl (by (try simp only [List.map_toArray, List.map_cons, List.map_nil]); first | done | rfl | (simp only [List.length_drop, List.length_take]; rfl)) ?_; (with_reducible refine (laws_toRecord.calls k _ _ l0_0 _ _ l0_1 t154 t157 _ ?side1 ?side2 ?side3 ?side4 A14.out).mono ?_); (case side1 => exact cz_ (Kd.C_below HR0_0.out HB.out)); (case side2 => exact HC0_0.out); (case side3 => exact cz_ (Kd.C_below HR0_1.out HB.out)); (case side4 => exact HC0_1.out); rintro e w26 ⟨v155, v158, rfl, ho0, ho1, hb⟩; refine ⟨_, rfl, ?_⟩; have n0_ := Aside0.mk (Kd.R_lower ho0 (below_size (by repeat (first | (with_reducible first | exact HB.out | apply below_alloc | apply pw_below_drewN | apply below_drew1 | refine below_set ?_ GE151.out) | exact HB.out)))); have n1_ := Aside0.mk (Kd.R_lower ho1 (below_size (by repeat (first | (with_reducible first | exact HB.out | apply below_alloc | apply pw_below_drewN | apply below_drew1 | refine below_set ?_ GE151.out) | exact HB.out)))); have n2_ := Aside0.mk (blk_below (bz_ BK151.out) hb); have n3_ := Aside0.mk (below_step (by repeat (first | (with_reducible first | exact HB.out | apply below_alloc | apply pw_below_drewN | apply below_drew1 | refine below_set ?_ GE151.out) | exact HB.out)) hb); clear BK151; clear HB; have HO156 := n0_; have HO159 := n1_; have BK151 := n2_; have HB := n3_; clear n0_ n1_ n2_ n3_; (try clear hb); (try clear hb2); (try clear hk); (try clear hi); (try clear ho0); (try clear ho1)) | ((with_reducible refine gate_callee (f := 15) rfl ?_); refine goesL_ (some 30) rfl rfl Try.func15 (by kernel_rfl) rfl #[.slice A1 l1.length c1] rfl (by (try simp only [List.map_toArray, List.map_cons, List.map_nil]); first | done | rfl | (simp only [List.length_drop, List.length_take]; rfl)) ?_; (with_reducible refine (laws_toPhaseS.calls k _ _ l1 t160 _ ?side1 ?side2 A15.out).mono ?_); (case side1 => exact cz_ (Kd.C_below HR1.out HB.out)); (case side2 => exact HC1.out); rintro e w27 ⟨v161, rfl, ho0, hb⟩; refine ⟨_, rfl, ?_⟩; have n0_ := Aside0.mk (Kd.R_below (rz_ HO156.out) hb); have n1_ := Aside0.mk (Kd.R_below (rz_ HO159.out) hb); have n2_ := Aside0.mk (Kd.S_lower ho0 (below_size (by repeat (first | (with_reducible first | exact HB.out | apply below_alloc | apply pw_below_drewN | apply below_drew1 | refine below_set ?_ GE151.out) | exact HB.out)))); have n3_ := Aside0.mk (blk_below (bz_ BK151.out) hb); have n4_ := Aside0.mk (below_step (by repeat (first | (with_reducible first | exact HB.out | apply below_alloc | apply pw_below_drewN | apply below_drew1 | refine below_set ?_ GE151.out) | exact HB.out)) hb); clear HO156; clear HO159; clear BK151; clear HB; have HO156 := n0_; have HO159 := n1_; have HO162 := n2_; have BK151 := n3_; have HB := n4_; clear n0_ n1_ n2_ n3_ n4_; (try clear hb); (try clear hb2); (try clear hk); (try clear hi); (try clear ho0); obtain ⟨Ao28, co28, eo28⟩ := Kd.R_slice HO156.out; subst eo28; obtain ⟨Ao29, co29, eo29⟩ := Kd.R_slice HO159.out; subst eo29; obtain ⟨Ao30, co30, eo30⟩ := Kd.S_slice HO162.out; subst eo30) | ((with_reducible refine gate_callee (f := 23) rfl ?_); refine goesL_ (some 31) rfl rfl Try.func23 (by kernel_rfl) rfl #[.agg #[.slice Ao28 t154.length co28, .slice Ao29 t157.length co29], .slice Ao30 t160.length co30] rfl (by (try simp only [List.map_toArray, List.map_cons, List.map_nil]); first | done | rfl | (simp only [List.length_drop, List.length_take]; rfl)) ?_; (with_reducible refine (spec_FirstUnsound.calls k _ _ t154 _ _ t157 _ _ t160 t163 t164 t165 t166 _ ?side1 ?side2 ?side3 ?side4 ?side5 ?side6 A16.out).mono ?_); (case side1 => exact cz_ (Kd.R_reads' HO156.out).2.2); (case side2 => exact (Kd.R_reads' HO156.out).2.1); (case side3 => exact cz_ (Kd.R_reads' HO159.out).2.2); (case side4 => exact (Kd.R_reads' HO159.out).2.1); (case side5 => repeat (first | exact (Kd.S_reads' HO162.out).2.2 | (with_reducible refine Kd.C_alloc ?_ _) | (with_reducible refine Kd.C_drewN ?_ _) | (with_reducible refine Kd.C_drew ?_))); (case side6 => exact (Kd.S_reads' HO162.out).2.1); rintro e w31 ⟨rfl, hb⟩; refine ⟨_, rfl, ?_⟩; have n0_ := Aside0.mk (Kd.R_below (rz_ HO156.out) hb); have n1_ := Aside0.mk (Kd.R_below (rz_ HO159.out) hb); have n2_ := Aside0.mk (Kd.S_below (by (with_reducible repeat (first | apply Kd.S_alloc | apply Kd.S_drewN | apply Kd.S_drew)); exact HO162.out) hb); have n3_ := Aside0.mk (blk_below (bz_ BK151.out) hb); have n4_ := Aside0.mk (below_step (by repeat (first | (with_reducible first | exact HB.out | apply below_alloc | apply pw_below_drewN | apply below_drew1 | refine below_set ?_ GE151.out) | exact HB.out)) hb); clear HO156; clear HO159; clear HO162; clear BK151; clear HB; have HO156 := n0_; have HO159 := n1_; have HO162 := n2_; have BK151 := n3_; have HB := n4_; clear n0_ n1_ n2_ n3_ n4_; (try clear hb); (try clear hb2); (try clear hk); (try clear hi); have hcz32_0 : w31.cell? ⟨gb151, 0, none⟩ = some (.slice A0_0 l0_0.length c0_0) := (blk_cell BK151.out 0).trans rfl; have hcz32_1 : w31.cell? ⟨gb151, 1, none⟩ = some (.slice A0_1 l0_1.length c0_1) := (blk_cell BK151.out 1).trans rfl; have hfz32_0 := blk_frozen BK151.out 0; have hfz32_1 := blk_frozen BK151.out 1) | ((with_reducible refine gate_callee (f := 14) rfl ?_); refine goesL_ (some 37) rfl rfl Try.func14 (by kernel_rfl) rfl #[.agg #[.slice A0_0 l0_0.length c0_0, .slice A0_1 l0_1.length c0_1]] rfl (by (try simp only [List.map_toArray, List.map_cons, List.map_nil]); first | done | rfl | (simp only [List.length_drop, List.length_take]; rfl)) ?_; (with_reducible refine (laws_toRecord.calls k _ _ l0_0 _ _ l0_1 t167 t170 _ ?side1 ?side2 ?side3 ?side4 A17.out).mono ?_); (case side1 => exact cz_ (Kd.C_below HR0_0.out HB.out)); (case side2 => exact HC0_0.out); (case side3 => exact cz_ (Kd.C_below HR0_1.out HB.out)); (case side4 => exact HC0_1.out); rintro e w33 ⟨v168, v171, rfl, ho0, ho1, hb⟩; refine ⟨_, rfl, ?_⟩; have n0_ := Aside0.mk (Kd.R_elder' (rz_ HO156.out) (Kd.R_base ho0) hb); have n1_ := Aside0.mk (Kd.R_elder' (rz_ HO159.out) (Kd.R_base ho1) hb); have n2_ := Aside0.mk (Kd.S_below (by (with_reducible repeat (first | apply Kd.S_alloc | apply Kd.S_drewN | apply Kd.S_drew)); exact HO162.out) hb); have n3_ := Aside0.mk (Kd.R_lower (Kd.R_new' ho0 (Kd.R_lt (rz_ HO156.out))) (below_size (by repeat (first | (with_reducible first | exact HB.out | apply below_alloc | apply pw_below_drewN | apply below_drew1 | refine below_set ?_ GE151.out) | exact HB.out)))); have n4_ := Aside0.mk (Kd.R_lower (Kd.R_new' ho1 (Kd.R_lt (rz_ HO159.out))) (below_size (by repeat (first | (with_reducible first | exact HB.out | apply below_alloc | apply pw_below_drewN | apply below_drew1 | refine below_set ?_ GE151.out) | exact HB.out)))); have n5_ := Aside0.mk (blk_below (bz_ BK151.out) hb); have n6_ := Aside0.mk (below_step (by repeat (first | (with_reducible first | exact HB.out | apply below_alloc | apply pw_below_drewN | apply below_drew1 | refine below_set ?_ GE151.out) | exact HB.out)) hb); clear HO156; clear HO159; clear HO162; clear BK151; clear HB; have HO156 := n0_; have HO159 := n1_; have HO162 := n2_; have HO169 := n3_; have HO172 := n4_; have BK151 := n5_; have HB := n6_; clear n0_ n1_ n2_ n3_ n4_ n5_ n6_; (try clear hb); (try clear hb2); (try clear hk); (try clear hi); (try clear ho0); (try clear ho1)) | ((with_reducible refine gate_dst (N := 10) rfl ?_); refine box_event ?hg (N := 10) ?hd (cs := #[.slice none 0 0, .slice none 0 0]) (t := 33) ?hr ?_; (case hd => rfl); (case hg => rfl); (case hr => first | (go_simp; done) | (go_simp; rfl)); intro gb173 hg w34 hbox hb; have n0_ := Aside0.mk (Kd.R_below (rz_ HO156.out) hb); have n1_ := Aside0.mk (Kd.R_below (rz_ HO159.out) hb); have n2_ := Aside0.mk (Kd.S_below (by (with_reducible repeat (first | apply Kd.S_alloc | apply Kd.S_drewN | apply Kd.S_drew)); exact HO162.out) hb); have n3_ := Aside0.mk (Kd.R_below (rz_ HO169.out) hb); have n4_ := Aside0.mk (Kd.R_below (rz_ HO172.out) hb); have n5_ := Aside0.mk (blk_below (bz_ BK151.out) hb); have n6_ := Aside0.mk (below_step (by repeat (first | (with_reducible first | exact HB.out | apply below_alloc | apply pw_below_drewN | apply below_drew1 | refine below_set ?_ GE151.out) | exact HB.out)) hb); have n7_ := Aside0.mk (hbox); have n8_ := Aside0.mk ((by rw [hg]; exact (below_size (by repeat (first | (with_reducible first | exact HB.out | apply below_alloc | apply pw_below_drewN | apply below_drew1 | refine below_set ?_ GE151.out) | exact HB.out))) : w.heap.size ≤ gb173)); have n9_ := Aside0.mk ((by rw [hg]; exact (below_size (by repeat (first | (with_reducible first | exact HB.out | apply below_alloc | apply pw_below_drewN | apply below_drew1 | refine below_set ?_ GE151.out) | exact HB.out))) : w.heap.size ≤ gb173)); have n10_ := Aside0.mk ((by rw [hg]; exact Nat.ne_of_lt (blk_lt (g := gb151) (o := .cells #[.slice A0_0 l0_0.length c0_0, .slice A0_1 l0_1.length c0_1] 25 (0, 0)) (bz_ BK151.out)) : gb151 ≠ gb173)); have n11_ := Aside0.mk ((by rw [hg]; exact Nat.ne_of_gt (blk_lt (g := gb151) (o := .cells #[.slice A0_0 l0_0.length c0_0, .slice A0_1 l0_1.length c0_1] 25 (0, 0)) (bz_ BK151.out)) : gb173 ≠ gb151)); clear HO156; clear HO159; clear HO162; clear HO169; clear HO172; clear BK151; clear HB; have HO156 := n0_; have HO159 := n1_; have HO162 := n2_; have HO169 := n3_; have HO172 := n4_; have BK151 := n5_; have HB := n6_; have BK173 := n7_; have GW173 := n8_; have GE173 := n9_; have NB151_173 := n10_; have NB173_151 := n11_; clear n0_ n1_ n2_ n3_ n4_ n5_ n6_ n7_ n8_ n9_ n10_ n11_; clear hb hbox hg; obtain ⟨Ao35, co35, eo35⟩ := Kd.R_slice HO169.out; subst eo35; have hnb36 := NB173_151.out; have hnc36 := NB151_173.out; have hcz37_0 : w34.cell? ⟨gb173, 0, none⟩ = some (.slice none 0 0) := (blk_cell BK173.out 0).trans rfl; have hcz37_1 : w34.cell? ⟨gb173, 1, none⟩ = some (.slice none 0 0) := (blk_cell BK173.out 1).trans rfl; have hfz37_0 := blk_frozen BK173.out 0; have hfz37_1 := blk_frozen BK173.out 1; obtain ⟨Ao38, co38, eo38⟩ := Kd.R_slice HO172.out; subst eo38) | ((with_reducible refine gate_callee (f := 15) rfl ?_); refine goesL_ (some 39) rfl rfl Try.func15 (by kernel_rfl) rfl #[.slice A1 l1.length c1] rfl (by (try simp only [List.map_toArray, List.map_cons, List.map_nil]); first | done | rfl | (simp only [List.length_drop, List.length_take]; rfl)) ?_; (with_reducible refine (laws_toPhaseS.calls k _ _ l1 t174 _ ?side1 ?side2 A18.out).mono ?_); (case side1 => exact Kd.C_below HR1.out (by repeat (first | (with_reducible first | exact HB.out | apply below_alloc | apply pw_below_drewN | apply below_drew1 | refine below_set ?_ GE151.out | refine below_set ?_ GE173.out) | exact HB.out))); (case side2 => exact HC1.out); rintro e w39 ⟨v175, rfl, ho0, hb⟩; refine ⟨_, rfl, ?_⟩; have n0_ := Aside0.mk (Kd.R_below (rz_ (Kd.R_mono (Kd.R_far (p := ⟨gb173, 1, none⟩) (Kd.R_far (p := ⟨gb173, 0, none⟩) (Kd.R_types HO156.out BK173.out (by decide)) (fun _ hk => hk.2) (.slice Ao35 t167.length co35)) (fun _ hk => hk.2) (.slice Ao38 t170.length co38)) (fun _ h_ => h_.1))) hb); have n1_ := Aside0.mk (Kd.R_below (rz_ (Kd.R_mono (Kd.R_far (p := ⟨gb173, 1, none⟩) (Kd.R_far (p := ⟨gb173, 0, none⟩) (Kd.R_types HO159.out BK173.out (by decide)) (fun _ hk => hk.2) (.slice Ao35 t167.length co35)) (fun _ hk => hk.2) (.slice Ao38 t170.length co38)) (fun _ h_ => h_.1))) hb); have n2_ := Aside0.mk (Kd.S_elder' (by (with_reducible repeat (first | apply Kd.S_alloc | apply Kd.S_drewN | apply Kd.S_drew)); exact (Kd.S_mono (Kd.S_far (p := ⟨gb173, 1, none⟩) (Kd.S_far (p := ⟨gb173, 0, none⟩) (Kd.S_types HO162.out BK173.out (by decide)) (fun _ hk => hk.2) (.slice Ao35 t167.length co35)) (fun _ hk => hk.2) (.slice Ao38 t170.length co38)) (fun _ h_ => h_.1))) (Kd.S_base ho0) hb); have n3_ := Aside0.mk (Kd.R_below (rz_ (Kd.R_mono (Kd.R_far (p := ⟨gb173, 1, none⟩) (Kd.R_far (p := ⟨gb173, 0, none⟩) (Kd.R_types HO169.out BK173.out (by decide)) (fun _ hk => hk.2) (.slice Ao35 t167.length co35)) (fun _ hk => hk.2) (.slice Ao38 t170.length co38)) (fun _ h_ => h_.1))) hb); have n4_ := Aside0.mk (Kd.R_below (rz_ (Kd.R_mono (Kd.R_far (p := ⟨gb173, 1, none⟩) (Kd.R_far (p := ⟨gb173, 0, none⟩) (Kd.R_types HO172.out BK173.out (by decide)) (fun _ hk => hk.2) (.slice Ao35 t167.length co35)) (fun _ hk => hk.2) (.slice Ao38 t170.length co38)) (fun _ h_ => h_.1))) hb); have n5_ := Aside0.mk (Kd.S_lower (Kd.S_new' ho0 (Kd.S_lt (by (with_reducible repeat (first | apply Kd.S_alloc | apply Kd.S_drewN | apply Kd.S_drew)); exact (Kd.S_mono (Kd.S_far (p := ⟨gb173, 1, none⟩) (Kd.S_far (p := ⟨gb173, 0, none⟩) (Kd.S_types HO162.out BK173.out (by decide)) (fun _ hk => hk.2) (.slice Ao35 t167.length co35)) (fun _ hk => hk.2) (.slice Ao38 t170.length co38)) (fun _ h_ => h_.1))))) (below_size (by repeat (first | (with_reducible first | exact HB.out | apply below_alloc | apply pw_below_drewN | apply below_drew1 | refine below_set ?_ GE151.out | refine below_set ?_ GE173.out) | exact HB.out)))); have n6_ := Aside0.mk (blk_below (g := gb151) (o := .cells #[.slice A0_0 l0_0.length c0_0, .slice A0_1 l0_1.length c0_1] 25 (0, 0)) (by (with_reducible repeat (first | refine blk_drewN ?_ _ | refine blk_drew ?_ | refine blk_alloc ?_ _)); refine blk_far ?_ NB151_173.out _; (with_reducible repeat (first | refine blk_drewN ?_ _ | refine blk_drew ?_ | refine blk_alloc ?_ _)); refine blk_far ?_ NB151_173.out _; (with_reducible repeat (first | refine blk_drewN ?_ _ | refine blk_drew ?_ | refine blk_alloc ?_ _)); exact BK151.out) hb); have n7_ := Aside0.mk (blk_below (g := gb173) (o := .cells #[.slice Ao35 t167.length co35, .slice Ao38 t170.length co38] 33 (0, 0)) (by (with_reducible repeat (first | refine blk_drewN ?_ _ | refine blk_drew ?_ | refine blk_alloc ?_ _)); refine blk_put (cs := #[.slice Ao35 t167.length co35, .slice none 0 0]) ?_ 1 _ rfl; (with_reducible repeat (first | refine blk_drewN ?_ _ | refine blk_drew ?_ | refine blk_alloc ?_ _)); refine blk_put (cs := #[.slice none 0 0, .slice none 0 0]) ?_ 0 _ rfl; (with_reducible repeat (first | refine blk_drewN ?_ _ | refine blk_drew ?_ | refine blk_alloc ?_ _)); exact BK173.out) hb); have n8_ := Aside0.mk (below_step (by repeat (first | (with_reducible first | exact HB.out | apply below_alloc | apply pw_below_drewN | apply below_drew1 | refine below_set ?_ GE151.out | refine below_set ?_ GE173.out) | exact HB.out)) hb); clear HO156; clear HO159; clear HO162; clear HO169; clear HO172; clear BK151; clear BK173; clear HB; have HO156 := n0_; have HO159 := n1_; have HO162 := n2_; have HO169 := n3_; have HO172 := n4_; have HO176 := n5_; have BK151 := n6_; have BK173 := n7_; have HB := n8_; clear n0_ n1_ n2_ n3_ n4_ n5_ n6_ n7_ n8_; (try clear hb); (try clear hb2); (try clear hk); (try clear hi); (try clear ho0); have hcz40_0 : w39.cell? ⟨gb173, 0, none⟩ = some (.slice Ao35 t167.length co35) := (blk_cell BK173.out 0).trans rfl; have hcz40_1 : w39.cell? ⟨gb173, 1, none⟩ = some (.slice Ao38 t170.length co38) := (blk_cell BK173.out 1).trans rfl; have hfz40_0 := blk_frozen BK173.out 0; have hfz40_1 := blk_frozen BK173.out 1; obtain ⟨Ao41, co41, eo41⟩ := Kd.S_slice HO176.out; subst eo41) | ((with_reducible refine gate_callee (f := 24) rfl ?_); refine goesL_ (some 43) rfl rfl Try.func24 (by kernel_rfl) rfl #[.agg #[.slice Ao35 t167.length co35, .slice Ao38 t170.length co38], .slice Ao41 t174.length co41] rfl (by (try simp only [List.map_toArray, List.map_cons, List.map_nil]); first | done | rfl | (simp only [List.length_drop, List.length_take]; rfl)) ?_; (with_reducible refine (impl_FirstUnsound.calls _ _ t167 _ _ t170 _ _ t174 t177 t178 t179 t180 _ ?side1 ?side2 ?side3 ?side4 ?side5 ?side6 A19.out).mono ?_); (case side1 => exact cz_ (Kd.R_reads' HO169.out).2.2); (case side2 => exact (Kd.R_reads' HO169.out).2.1); (case side3 => exact cz_ (Kd.R_reads' HO172.out).2.2); (case side4 => exact (Kd.R_reads' HO172.out).2.1); (case side5 => repeat (first | exact (Kd.S_reads' HO176.out).2.2 | (with_reducible refine Kd.C_alloc ?_ _) | (with_reducible refine Kd.C_drewN ?_ _) | (with_reducible refine Kd.C_drew ?_))); (case side6 => exact (Kd.S_reads' HO176.out).2.1); rintro e w42 ⟨rfl, hb⟩; refine ⟨_, rfl, ?_⟩; have n0_ := Aside0.mk (Kd.R_below (rz_ HO156.out) hb); have n1_ := Aside0.mk (Kd.R_below (rz_ HO159.out) hb); have n2_ := Aside0.mk (Kd.S_below (by (with_reducible repeat (first | apply Kd.S_alloc | apply Kd.S_drewN | apply Kd.S_drew)); exact HO162.out) hb); have n3_ := Aside0.mk (Kd.R_below (rz_ HO169.out) hb); have n4_ := Aside0.mk (Kd.R_below (rz_ HO172.out) hb); have n5_ := Aside0.mk (Kd.S_below (by (with_reducible repeat (first | apply Kd.S_alloc | apply Kd.S_drewN | apply Kd.S_drew)); exact HO176.out) hb); have n6_ := Aside0.mk (blk_below (bz_ BK151.out) hb); have n7_ := Aside0.mk (blk_below (bz_ BK173.out) hb); have n8_ := Aside0.mk (below_step (by repeat (first | (with_reducible first | exact HB.out | apply below_alloc | apply pw_below_drewN | apply below_drew1 | refine below_set ?_ GE151.out | refine below_set ?_ GE173.out) | exact HB.out)) hb); clear HO156; clear HO159; clear HO162; clear HO169; clear HO172; clear HO176; clear BK151; clear BK173; clear HB; have HO156 := n0_; have HO159 := n1_; have HO162 := n2_; have HO169 := n3_; have HO172 := n4_; have HO176 := n5_; have BK151 := n6_; have BK173 := n7_; have HB := n8_; clear n0_ n1_ n2_ n3_ n4_ n5_ n6_ n7_ n8_; (try clear hb); (try clear hb2); (try clear hk); (try clear hi)))
   (try simp only [Act.put, List.setIfInBounds_toArray, List.set_cons_zero, List.set_cons_succ])
   go_cut [65] (fun v65 wc => ∃ (kq : Nat) (x65_19 : Bool), v65 = .bool x65_19 ∧ Aside0 (laws_FnExactFirstUnsound.j0 kq l1 t174 x65_19 l0_0 l0_1 t167 t170 = some r) ∧ Aside0 (kq ≤ k) ∧ Aside0 (Kd.S k64 64 wc w.heap.size (fun _ => True) (.slice Ao41 t174.length co41) t174) ∧ Aside0 (Kd.R k77 77 wc w.heap.size (fun _ => True) (.slice Ao35 t167.length co35) t167) ∧ Aside0 (Kd.R k91 91 wc w.heap.size (fun _ => True) (.slice Ao38 t170.length co38) t170) ∧ Aside0 (wc.heap[gb151]? = some (.cells #[(.slice A0_0 l0_0.length c0_0), (.slice A0_1 l0_1.length c0_1)] 25 (0, 0))) ∧ Aside0 (wc.heap[gb173]? = some (.cells #[(.slice Ao35 t167.length co35), (.slice Ao38 t170.length co38)] 33 (0, 0))) ∧ Aside0 (Below w.heap.size w wc))
   case first =>
    have H := HC20.out
    clear HC20
    by_cases c43 : t177 = t163
    ·rw [if_pos c43] at H
     have c43b0 : (t177 == t163) = true := beq_iff_eq.mpr c43
     have c43b1 : (t177 != t163) = false := bne_eq_false_iff_eq.mpr c43
     clear c43
     (first | rw [c43b0] | (simp only [i64_w, i32_w]; rw [c43b0]) | skip)
     by_cases c44 : t178 = t164
     ·rw [if_pos c44] at H
      have c44b0 : (t178 == t164) = true := beq_iff_eq.mpr c44
      have c44b1 : (t178 != t164) = false := bne_eq_false_iff_eq.mpr c44
      clear c44
      by_cases c45 : (t179 != t165) = true
      ·rw [if_pos c45] at H
       have c45b0 : (t179 != t165) = true := c45
       (try (have c45b1 : decide (t179 = t165) = false := by simpa using c45))
       (try (have c45b2 : (t179 == t165) = false := by simpa using c45))
       (try (have c45b3 : ¬ (t179 = t165) := by simpa using c45))
       clear c45
       have H' := Aside0.mk H
       clear H
       go_wp2
       go_meet
       case rel => exact ⟨_, (true), (by first | rfl | (simp; done) | (simp [*]; done)), H', ⟨by first | omega | exact Nat.le_refl _⟩, ⟨by (with_reducible repeat (first | apply Kd.S_alloc | apply Kd.S_drewN | apply Kd.S_drew)); exact Kd.S_mono HO176.out (fun _ hk => trivial)⟩, ⟨rz_ (Kd.R_mono HO169.out (fun _ hk => trivial))⟩, ⟨rz_ (Kd.R_mono HO172.out (fun _ hk => trivial))⟩, ⟨bz_ BK151.out⟩, ⟨bz_ BK173.out⟩, ⟨by repeat (first | (with_reducible first | exact HB.out | apply below_alloc | apply pw_below_drewN | apply below_drew1 | refine below_set ?_ GE151.out | refine below_set ?_ GE173.out) | exact HB.out)⟩⟩
      ·rw [if_neg c45] at H
       have c45b0 : (t179 != t165) = false := by simpa using c45
       (try (have c45b1 : decide (t179 = t165) = true := by simpa using c45))
       (try (have c45b2 : (t179 == t165) = true := by simpa using c45))
       clear c45
       have H' := Aside0.mk H
       clear H
       go_wp2
       go_meet
       case rel => exact ⟨_, ((t180 != t166)), (by first | rfl | (simp; done) | (simp [*]; done)), H', ⟨by first | omega | exact Nat.le_refl _⟩, ⟨by (with_reducible repeat (first | apply Kd.S_alloc | apply Kd.S_drewN | apply Kd.S_drew)); exact Kd.S_mono HO176.out (fun _ hk => trivial)⟩, ⟨rz_ (Kd.R_mono HO169.out (fun _ hk => trivial))⟩, ⟨rz_ (Kd.R_mono HO172.out (fun _ hk => trivial))⟩, ⟨bz_ BK151.out⟩, ⟨bz_ BK173.out⟩, ⟨by repeat (first | (with_reducible first | exact HB.out | apply below_alloc | apply pw_below_drewN | apply below_drew1 | refine below_set ?_ GE151.out | refine below_set ?_ GE173.out) | exact HB.out)⟩⟩
     ·rw [if_neg c44] at H
      have c44b0 : (t178 == t164) = false := beq_eq_false_iff_ne.mpr c44
      have c44b1 : (t178 != t164) = true := bne_iff_ne.mpr c44
      have H' := Aside0.mk H
      clear H
      go_wp2
      go_meet
      case rel => exact ⟨_, (true), (by first | rfl | (simp; done) | (simp [*]; done)), H', ⟨by first | omega | exact Nat.le_refl _⟩, ⟨by (with_reducible repeat (first | apply Kd.S_alloc | apply Kd.S_drewN | apply Kd.S_drew)); exact Kd.S_mono HO176.out (fun _ hk => trivial)⟩, ⟨rz_ (Kd.R_mono HO169.out (fun _ hk => trivial))⟩, ⟨rz_ (Kd.R_mono HO172.out (fun _ hk => trivial))⟩, ⟨bz_ BK151.out⟩, ⟨bz_ BK173.out⟩, ⟨by repeat (first | (with_reducible first | exact HB.out | apply below_alloc | apply pw_below_drewN | apply below_drew1 | refine below_set ?_ GE151.out | refine below_set ?_ GE173.out) | exact HB.out)⟩⟩
    ·rw [if_neg c43] at H
     have c43b0 : (t177 == t163) = false := beq_eq_false_iff_ne.mpr c43
     have c43b1 : (t177 != t163) = true := bne_iff_ne.mpr c43
     (first | rw [c43b0] | (simp only [i64_w, i32_w]; rw [c43b0]) | skip)
     have H' := Aside0.mk H
     clear H
     go_wp2
     go_meet
     case rel => exact ⟨_, (true), (by first | rfl | (simp; done) | (simp [*]; done)), H', ⟨by first | omega | exact Nat.le_refl _⟩, ⟨by (with_reducible repeat (first | apply Kd.S_alloc | apply Kd.S_drewN | apply Kd.S_drew)); exact Kd.S_mono HO176.out (fun _ hk => trivial)⟩, ⟨rz_ (Kd.R_mono HO169.out (fun _ hk => trivial))⟩, ⟨rz_ (Kd.R_mono HO172.out (fun _ hk => trivial))⟩, ⟨bz_ BK151.out⟩, ⟨bz_ BK173.out⟩, ⟨by repeat (first | (with_reducible first | exact HB.out | apply below_alloc | apply pw_below_drewN | apply below_drew1 | refine below_set ?_ GE151.out | refine below_set ?_ GE173.out) | exact HB.out)⟩⟩
   case rest =>
    clear HC20
    try clear c1
    try clear c2
    try clear p2
    try clear c3
    try clear c4
    try clear c4b0
    try clear c6
    try clear c9
    try clear c9b0
    try clear c11
    try clear c12
    try clear c14
    try clear c15
    try clear c23
    try clear c24
    try clear c36
    try clear c43
    try clear c43b0
    try clear c43b1
    try clear c44
    try clear c44b0
    try clear c44b1
    try clear c45
    try clear c45b0
    try clear c45b1
    try clear c45b2
    try clear hcz11_0
    try clear hcz11_1
    try clear hcz22_0
    try clear hcz22_1
    try clear hcz25_0
    try clear hcz25_1
    try clear hcz32_0
    try clear hcz32_1
    try clear hcz37_0
    try clear hcz37_1
    try clear hcz40_0
    try clear hcz40_1
    try clear hcz6_0
    try clear hcz6_1
    try clear hfz11_0
    try clear hfz11_1
    try clear hfz22_0
    try clear hfz22_1
    try clear hfz25_0
    try clear hfz25_1
    try clear hfz32_0
    try clear hfz32_1
    try clear hfz37_0
    try clear hfz37_1
    try clear hfz40_0
    try clear hfz40_1
    try clear hfz6_0
    try clear hfz6_1
    obtain ⟨kq, x65_19, rfl, HA, HJ19, HO_11, HO_174000, HO_174001, BK151, BK173, HB⟩ := hcut
    cases kq with
    | zero => exact absurd HA.out (by simp [laws_FnExactFirstUnsound.j0])
    | succ kj19 =>
     have H := HA.out
     clear HA
     simp only [laws_FnExactFirstUnsound.j0] at H
     by_cases c46 : x65_19 = true
     ·subst c46
      have H1 : (some false) = some r := by rw [if_pos rfl] at H; exact H
      clear H
      have H := H1
      clear H1
      obtain rfl := Option.some.inj H
      go_wp2
      go_ret
      exact ⟨by first | rfl | (simp [errW_none, errW_some] <;> rfl) | (simp [*, errW_none, errW_some] <;> rfl), by repeat (first | (with_reducible first | exact HB.out | apply below_alloc | apply pw_below_drewN | apply below_drew1 | refine below_set ?_ GE151.out | refine below_set ?_ GE173.out) | exact HB.out)⟩
     ·replace c46 := Bool.eq_false_iff.mpr c46
      subst c46
      have H1 : ((laws_toRecord.f kj19 l0_0 l0_1).bind fun bt181 => ((laws_eqRecord.f kj19 t167 t170 bt181.1 bt181.2).bind fun t187 => (if t187 = true then ((laws_toPhaseS.f kj19 l1).bind fun t188 => ((laws_eqPhaseS.f kj19 t174 t188).bind fun t191 => (if t191 = true then (some true) else (some false)))) else (some false)))) = some r := by rw [if_neg (show ¬ (false = true) by decide)] at H; exact H
      clear H
      have H := H1
      clear H1
      replace H := Option.bind_eq_some_iff.mp H
      obtain ⟨⟨t181, t184⟩, A470, H⟩ := H
      replace H : ((laws_eqRecord.f kj19 t167 t170 t181 t184).bind fun t187 => (if t187 = true then ((laws_toPhaseS.f kj19 l1).bind fun t188 => ((laws_eqPhaseS.f kj19 t174 t188).bind fun t191 => (if t191 = true then (some true) else (some false)))) else (some false))) = some r := H
      have A47 := Aside0.mk A470
      clear A470
      replace H := Option.bind_eq_some_iff.mp H
      obtain ⟨t187, A480, H⟩ := H
      replace H : (if t187 = true then ((laws_toPhaseS.f kj19 l1).bind fun t188 => ((laws_eqPhaseS.f kj19 t174 t188).bind fun t191 => (if t191 = true then (some true) else (some false)))) else (some false)) = some r := H
      have A48 := Aside0.mk A480
      clear A480
      by_cases c49 : t187 = true
      ·subst c49
       have H1 : ((laws_toPhaseS.f kj19 l1).bind fun t188 => ((laws_eqPhaseS.f kj19 t174 t188).bind fun t191 => (if t191 = true then (some true) else (some false)))) = some r := by rw [if_pos rfl] at H; exact H
       clear H
       have H := H1
       clear H1
       replace H := Option.bind_eq_some_iff.mp H
       obtain ⟨t188, A500, H⟩ := H
       replace H : ((laws_eqPhaseS.f kj19 t174 t188).bind fun t191 => (if t191 = true then (some true) else (some false))) = some r := H
       have A50 := Aside0.mk A500
       clear A500
       replace H := Option.bind_eq_some_iff.mp H
       obtain ⟨t191, A510, H⟩ := H
       replace H : (if t191 = true then (some true) else (some false)) = some r := H
       have A51 := Aside0.mk A510
       clear A510
       by_cases c52 : t191 = true
       ·subst c52
        have H1 : (some true) = some r := by rw [if_pos rfl] at H; exact H
        clear H
        have H := H1
        clear H1
        obtain rfl := Option.some.inj H
        try go_wp2
        have n0_ := Aside0.mk (Kd.S_drew HO_11.out)
        have n1_ := Aside0.mk (Kd.R_drew HO_174000.out)
        have n2_ := Aside0.mk (Kd.R_drew HO_174001.out)
        have n3_ := Aside0.mk (blk_drew BK151.out)
        have n4_ := Aside0.mk (blk_drew BK173.out)
        have n5_ := Aside0.mk (below_drew1 HB.out)
        clear HO_11
        clear HO_174000
        clear HO_174001
        clear BK151
        clear BK173
        clear HB
        have HO_11 := n0_
        have HO_174000 := n1_
        have HO_174001 := n2_
        have BK151 := n3_
        have BK173 := n4_
        have HB := n5_
        clear n0_ n1_ n2_ n3_ n4_ n5_
        refine start_ (n := 5) (S := fun w' => w'.cell? ⟨gb173, 0, none⟩ = some (.slice Ao35 t167.length co35) ∧ w'.cell? ⟨gb173, 1, none⟩ = some (.slice Ao38 t170.length co38) ∧ w'.cell? ⟨gb151, 0, none⟩ = some (.slice A0_0 l0_0.length c0_0) ∧ w'.cell? ⟨gb151, 1, none⟩ = some (.slice A0_1 l0_1.length c0_1)) (ds := []) #[false, false, false, false, false] (by kernel_rfl) rfl rfl ⟨(blk_cell BK173.out 0).trans rfl, (blk_cell BK173.out 1).trans rfl, (blk_cell BK151.out 0).trans rfl, (blk_cell BK151.out 1).trans rfl⟩ (fun hHeld => ?_)
        generalize wc.drew = w53 at HO_11 HO_174000 HO_174001 BK151 BK173 HB hHeld ⊢
        refine take_ (i := 0) (N := some 66) (v := ?_) (a' := ?_) #[true, false, false, false, false] rfl rfl (by kernel_rfl) (fun _ _ _ h => h) (Or.inl ⟨by rfl, ?_⟩) hHeld ?_ ?_
        rotate_left
        ·rintro w' ⟨s0, s1, s2, s3⟩
         go_simp
         with_reducible rfl
        rotate_left
        ·simp only [Act.put, List.setIfInBounds_toArray, List.set_cons_zero, List.set_cons_succ, i64_w, i32_w]
         rfl
        refine take_ (i := 1) (N := some 67) (v := ?_) (a' := ?_) #[true, true, false, false, false] rfl rfl (by kernel_rfl) (fun _ _ _ h => h) (Or.inl ⟨by rfl, ?_⟩) hHeld ?_ ?_
        rotate_left
        ·rintro w' ⟨s0, s1, s2, s3⟩
         go_simp
         with_reducible rfl
        rotate_left
        ·simp only [Act.put, List.setIfInBounds_toArray, List.set_cons_zero, List.set_cons_succ, i64_w, i32_w]
         rfl
        refine one_ (i := 2) (N := some 68) (bl 3 5) rfl rfl (by kernel_rfl) (by decide) (fun K hK => ?_)
        refine goes_ Try.func14 (by kernel_rfl) rfl #[.agg #[.slice A0_0 l0_0.length c0_0, .slice A0_1 l0_1.length c0_1]] (by rfl) rfl rfl (by (try simp only [List.map_toArray, List.map_cons, List.map_nil]); first | done | rfl | (simp only [List.length_drop, List.length_take]; rfl)) ?_
        with_reducible refine (laws_toRecord.calls kj19 _ _ l0_0 _ _ l0_1 t181 t184 _ ?side1 ?side2 ?side3 ?side4 A47.out).mono ?_
        (case side1 => exact cz_ (Kd.C_below HR0_0.out HB.out))
        (case side2 => exact HC0_0.out)
        (case side3 => exact cz_ (Kd.C_below HR0_1.out HB.out))
        (case side4 => exact HC0_1.out)
        rintro e w54 ⟨v182, v185, rfl, ho0, ho1, hb⟩
        refine ⟨_, rfl, ?_⟩
        have n0_ := Aside0.mk (Kd.S_below (by (with_reducible repeat (first | apply Kd.S_alloc | apply Kd.S_drewN | apply Kd.S_drew)); exact HO_11.out) hb)
        have n1_ := Aside0.mk (Kd.R_elder' (rz_ HO_174000.out) (Kd.R_base ho0) hb)
        have n2_ := Aside0.mk (Kd.R_elder' (rz_ HO_174001.out) (Kd.R_base ho1) hb)
        have n3_ := Aside0.mk (Kd.R_lower (Kd.R_new' ho0 (Kd.R_lt (rz_ HO_174000.out))) (below_size (by repeat (first | (with_reducible first | exact HB.out | apply below_alloc | apply pw_below_drewN | apply below_drew1 | refine below_set ?_ GE151.out | refine below_set ?_ GE173.out) | exact HB.out))))
        have n4_ := Aside0.mk (Kd.R_lower (Kd.R_new' ho1 (Kd.R_lt (rz_ HO_174001.out))) (below_size (by repeat (first | (with_reducible first | exact HB.out | apply below_alloc | apply pw_below_drewN | apply below_drew1 | refine below_set ?_ GE151.out | refine below_set ?_ GE173.out) | exact HB.out))))
        have n5_ := Aside0.mk (blk_below (bz_ BK151.out) hb)
        have n6_ := Aside0.mk (blk_below (bz_ BK173.out) hb)
        have n7_ := Aside0.mk (below_step (by repeat (first | (with_reducible first | exact HB.out | apply below_alloc | apply pw_below_drewN | apply below_drew1 | refine below_set ?_ GE151.out | refine below_set ?_ GE173.out) | exact HB.out)) hb)
        clear HO_11
        clear HO_174000
        clear HO_174001
        clear BK151
        clear BK173
        clear HB
        have HO_11 := n0_
        have HO_174000 := n1_
        have HO_174001 := n2_
        have HO183 := n3_
        have HO186 := n4_
        have BK151 := n5_
        have BK173 := n6_
        have HB := n7_
        clear n0_ n1_ n2_ n3_ n4_ n5_ n6_ n7_
        (try clear hb)
        (try clear hb2)
        (try clear hk)
        (try clear hi)
        (try clear ho0)
        (try clear ho1)
        obtain ⟨Ao55, co55, eo55⟩ := Kd.R_slice HO183.out
        (first | subst eo55 | (injection eo55 with f1_ f2_ f3_; have f4_ := f1_.symm; have f5_ := f3_.symm; clear f1_ f2_ f3_; subst f4_; subst f5_))
        obtain ⟨Ao56, co56, eo56⟩ := Kd.R_slice HO186.out
        (first | subst eo56 | (injection eo56 with f1_ f2_ f3_; have f4_ := f1_.symm; have f5_ := f3_.symm; clear f1_ f2_ f3_; subst f4_; subst f5_))
        refine hK.out _ _ ⟨(blk_cell BK173.out 0).trans rfl, (blk_cell BK173.out 1).trans rfl, (blk_cell BK151.out 0).trans rfl, (blk_cell BK151.out 1).trans rfl⟩ (fun hHeld => ?_)
        clear hK K
        refine norm_ (a' := ?_) ?_ ?_
        rotate_left
        ·show Act.put _ (some 68) _ = _
         simp only [Act.put, List.setIfInBounds_toArray, List.set_cons_zero, List.set_cons_succ, i64_w, i32_w]
         rfl
        refine one_ (i := 3) (N := some 69) (bl 4 5) rfl rfl (by kernel_rfl) (by decide) (fun K hK => ?_)
        refine goes_ Try.func17 (by kernel_rfl) rfl #[.agg #[.slice Ao35 t167.length co35, .slice Ao38 t170.length co38], .agg #[.slice Ao55 t181.length co55, .slice Ao56 t184.length co56]] (by rfl) rfl rfl (by (try simp only [List.map_toArray, List.map_cons, List.map_nil]); first | done | rfl | (simp only [List.length_drop, List.length_take]; rfl)) ?_
        with_reducible refine (laws_eqRecord.calls kj19 _ _ t167 _ _ t170 _ _ t181 _ _ t184 true _ ?side1 ?side2 ?side3 ?side4 ?side5 ?side6 ?side7 ?side8 A48.out).mono ?_
        (case side1 => exact cz_ (Kd.R_reads' HO_174000.out).2.2)
        (case side2 => exact (Kd.R_reads' HO_174000.out).2.1)
        (case side3 => exact cz_ (Kd.R_reads' HO_174001.out).2.2)
        (case side4 => exact (Kd.R_reads' HO_174001.out).2.1)
        (case side5 => exact cz_ (Kd.R_reads' HO183.out).2.2)
        (case side6 => exact (Kd.R_reads' HO183.out).2.1)
        (case side7 => exact cz_ (Kd.R_reads' HO186.out).2.2)
        (case side8 => exact (Kd.R_reads' HO186.out).2.1)
        rintro e w57 ⟨rfl, hb⟩
        refine ⟨_, rfl, ?_⟩
        have n0_ := Aside0.mk (Kd.S_below (by (with_reducible repeat (first | apply Kd.S_alloc | apply Kd.S_drewN | apply Kd.S_drew)); exact HO_11.out) hb)
        have n1_ := Aside0.mk (Kd.R_below (rz_ HO_174000.out) hb)
        have n2_ := Aside0.mk (Kd.R_below (rz_ HO_174001.out) hb)
        have n3_ := Aside0.mk (Kd.R_below (rz_ HO183.out) hb)
        have n4_ := Aside0.mk (Kd.R_below (rz_ HO186.out) hb)
        have n5_ := Aside0.mk (blk_below (bz_ BK151.out) hb)
        have n6_ := Aside0.mk (blk_below (bz_ BK173.out) hb)
        have n7_ := Aside0.mk (below_step (by repeat (first | (with_reducible first | exact HB.out | apply below_alloc | apply pw_below_drewN | apply below_drew1 | refine below_set ?_ GE151.out | refine below_set ?_ GE173.out) | exact HB.out)) hb)
        clear HO_11
        clear HO_174000
        clear HO_174001
        clear HO183
        clear HO186
        clear BK151
        clear BK173
        clear HB
        have HO_11 := n0_
        have HO_174000 := n1_
        have HO_174001 := n2_
        have HO183 := n3_
        have HO186 := n4_
        have BK151 := n5_
        have BK173 := n6_
        have HB := n7_
        clear n0_ n1_ n2_ n3_ n4_ n5_ n6_ n7_
        (try clear hb)
        (try clear hb2)
        (try clear hk)
        (try clear hi)
        refine hK.out _ _ ⟨(blk_cell BK173.out 0).trans rfl, (blk_cell BK173.out 1).trans rfl, (blk_cell BK151.out 0).trans rfl, (blk_cell BK151.out 1).trans rfl⟩ (fun hHeld => ?_)
        clear hK K
        refine norm_ (a' := ?_) ?_ ?_
        rotate_left
        ·show Act.put _ (some 69) _ = _
         simp only [Act.put, List.setIfInBounds_toArray, List.set_cons_zero, List.set_cons_succ, i64_w, i32_w]
         rfl
        refine pure_ (i := 4) (N := some 70) (v := ?_) (a' := ?_) #[true, true, true, true, true] rfl rfl (by kernel_rfl) (fun _ _ _ h => h) (Or.inl ⟨by rfl, ?_⟩) ?_ ?_
        rotate_left
        ·intro w'
         go_simp
         with_reducible rfl
        rotate_left
        ·simp only [Act.put, List.setIfInBounds_toArray, List.set_cons_zero, List.set_cons_succ, i64_w, i32_w]
         rfl
        refine done_ (by kernel_rfl) ?_
        try go_wp2_with (first | ((with_reducible refine gate_callee (f := 15) rfl ?_); refine goesL_ (some 73) rfl rfl Try.func15 (by kernel_rfl) rfl #[.slice A1 l1.length c1] rfl (by (try simp only [List.map_toArray, List.map_cons, List.map_nil]); first | done | rfl | (simp only [List.length_drop, List.length_take]; rfl)) ?_; (with_reducible refine (laws_toPhaseS.calls kj19 _ _ l1 t188 _ ?side1 ?side2 A50.out).mono ?_); (case side1 => exact cz_ (Kd.C_below HR1.out HB.out)); (case side2 => exact HC1.out); rintro e w58 ⟨v189, rfl, ho0, hb⟩; refine ⟨_, rfl, ?_⟩; have n0_ := Aside0.mk (Kd.S_elder' (by (with_reducible repeat (first | apply Kd.S_alloc | apply Kd.S_drewN | apply Kd.S_drew)); exact HO_11.out) (Kd.S_base ho0) hb); have n1_ := Aside0.mk (Kd.R_below (rz_ HO_174000.out) hb); have n2_ := Aside0.mk (Kd.R_below (rz_ HO_174001.out) hb); have n3_ := Aside0.mk (Kd.R_below (rz_ HO183.out) hb); have n4_ := Aside0.mk (Kd.R_below (rz_ HO186.out) hb); have n5_ := Aside0.mk (Kd.S_lower (Kd.S_new' ho0 (Kd.S_lt (by (with_reducible repeat (first | apply Kd.S_alloc | apply Kd.S_drewN | apply Kd.S_drew)); exact HO_11.out))) (below_size (by repeat (first | (with_reducible first | exact HB.out | apply below_alloc | apply pw_below_drewN | apply below_drew1 | refine below_set ?_ GE151.out | refine below_set ?_ GE173.out) | exact HB.out)))); have n6_ := Aside0.mk (blk_below (bz_ BK151.out) hb); have n7_ := Aside0.mk (blk_below (bz_ BK173.out) hb); have n8_ := Aside0.mk (below_step (by repeat (first | (with_reducible first | exact HB.out | apply below_alloc | apply pw_below_drewN | apply below_drew1 | refine below_set ?_ GE151.out | refine below_set ?_ GE173.out) | exact HB.out)) hb); clear HO_11; clear HO_174000; clear HO_174001; clear HO183; clear HO186; clear BK151; clear BK173; clear HB; have HO_11 := n0_; have HO_174000 := n1_; have HO_174001 := n2_; have HO183 := n3_; have HO186 := n4_; have HO190 := n5_; have BK151 := n6_; have BK173 := n7_; have HB := n8_; clear n0_ n1_ n2_ n3_ n4_ n5_ n6_ n7_ n8_; (try clear hb); (try clear hb2); (try clear hk); (try clear hi); (try clear ho0); obtain ⟨Ao59, co59, eo59⟩ := Kd.S_slice HO190.out; subst eo59) | ((with_reducible refine gate_callee (f := 18) rfl ?_); refine goesL_ (some 74) rfl rfl Try.func18 (by kernel_rfl) rfl #[.slice Ao41 t174.length co41, .slice Ao59 t188.length co59] rfl (by (try simp only [List.map_toArray, List.map_cons, List.map_nil]); first | done | rfl | (simp only [List.length_drop, List.length_take]; rfl)) ?_; (with_reducible refine (laws_eqPhaseS.calls kj19 _ _ t174 _ _ t188 true _ ?side1 ?side2 ?side3 ?side4 A51.out).mono ?_); (case side1 => repeat (first | exact (Kd.S_reads' HO_11.out).2.2 | (with_reducible refine Kd.C_alloc ?_ _) | (with_reducible refine Kd.C_drewN ?_ _) | (with_reducible refine Kd.C_drew ?_))); (case side2 => exact (Kd.S_reads' HO_11.out).2.1); (case side3 => repeat (first | exact (Kd.S_reads' HO190.out).2.2 | (with_reducible refine Kd.C_alloc ?_ _) | (with_reducible refine Kd.C_drewN ?_ _) | (with_reducible refine Kd.C_drew ?_))); (case side4 => exact (Kd.S_reads' HO190.out).2.1); rintro e w60 ⟨rfl, hb⟩; refine ⟨_, rfl, ?_⟩; have n0_ := Aside0.mk (Kd.S_below (by (with_reducible repeat (first | apply Kd.S_alloc | apply Kd.S_drewN | apply Kd.S_drew)); exact HO_11.out) hb); have n1_ := Aside0.mk (Kd.R_below (rz_ HO_174000.out) hb); have n2_ := Aside0.mk (Kd.R_below (rz_ HO_174001.out) hb); have n3_ := Aside0.mk (Kd.R_below (rz_ HO183.out) hb); have n4_ := Aside0.mk (Kd.R_below (rz_ HO186.out) hb); have n5_ := Aside0.mk (Kd.S_below (by (with_reducible repeat (first | apply Kd.S_alloc | apply Kd.S_drewN | apply Kd.S_drew)); exact HO190.out) hb); have n6_ := Aside0.mk (blk_below (bz_ BK151.out) hb); have n7_ := Aside0.mk (blk_below (bz_ BK173.out) hb); have n8_ := Aside0.mk (below_step (by repeat (first | (with_reducible first | exact HB.out | apply below_alloc | apply pw_below_drewN | apply below_drew1 | refine below_set ?_ GE151.out | refine below_set ?_ GE173.out) | exact HB.out)) hb); clear HO_11; clear HO_174000; clear HO_174001; clear HO183; clear HO186; clear HO190; clear BK151; clear BK173; clear HB; have HO_11 := n0_; have HO_174000 := n1_; have HO_174001 := n2_; have HO183 := n3_; have HO186 := n4_; have HO190 := n5_; have BK151 := n6_; have BK173 := n7_; have HB := n8_; clear n0_ n1_ n2_ n3_ n4_ n5_ n6_ n7_ n8_; (try clear hb); (try clear hb2); (try clear hk); (try clear hi)))
        go_ret
        exact ⟨by first | rfl | (simp [errW_none, errW_some] <;> rfl) | (simp [*, errW_none, errW_some] <;> rfl), by repeat (first | (with_reducible first | exact HB.out | apply below_alloc | apply pw_below_drewN | apply below_drew1 | refine below_set ?_ GE151.out | refine below_set ?_ GE173.out) | exact HB.out)⟩
       ·replace c52 := Bool.eq_false_iff.mpr c52
        subst c52
        have H1 : (some false) = some r := by rw [if_neg (show ¬ (false = true) by decide)] at H; exact H
        clear H
        have H := H1
        clear H1
        obtain rfl := Option.some.inj H
        try go_wp2
        have n0_ := Aside0.mk (Kd.S_drew HO_11.out)
        have n1_ := Aside0.mk (Kd.R_drew HO_174000.out)
        have n2_ := Aside0.mk (Kd.R_drew HO_174001.out)
        have n3_ := Aside0.mk (blk_drew BK151.out)
        have n4_ := Aside0.mk (blk_drew BK173.out)
        have n5_ := Aside0.mk (below_drew1 HB.out)
        clear HO_11
        clear HO_174000
        clear HO_174001
        clear BK151
        clear BK173
        clear HB
        have HO_11 := n0_
        have HO_174000 := n1_
        have HO_174001 := n2_
        have BK151 := n3_
        have BK173 := n4_
        have HB := n5_
        clear n0_ n1_ n2_ n3_ n4_ n5_
        refine start_ (n := 5) (S := fun w' => w'.cell? ⟨gb173, 0, none⟩ = some (.slice Ao35 t167.length co35) ∧ w'.cell? ⟨gb173, 1, none⟩ = some (.slice Ao38 t170.length co38) ∧ w'.cell? ⟨gb151, 0, none⟩ = some (.slice A0_0 l0_0.length c0_0) ∧ w'.cell? ⟨gb151, 1, none⟩ = some (.slice A0_1 l0_1.length c0_1)) (ds := []) #[false, false, false, false, false] (by kernel_rfl) rfl rfl ⟨(blk_cell BK173.out 0).trans rfl, (blk_cell BK173.out 1).trans rfl, (blk_cell BK151.out 0).trans rfl, (blk_cell BK151.out 1).trans rfl⟩ (fun hHeld => ?_)
        generalize wc.drew = w61 at HO_11 HO_174000 HO_174001 BK151 BK173 HB hHeld ⊢
        refine take_ (i := 0) (N := some 66) (v := ?_) (a' := ?_) #[true, false, false, false, false] rfl rfl (by kernel_rfl) (fun _ _ _ h => h) (Or.inl ⟨by rfl, ?_⟩) hHeld ?_ ?_
        rotate_left
        ·rintro w' ⟨s0, s1, s2, s3⟩
         go_simp
         with_reducible rfl
        rotate_left
        ·simp only [Act.put, List.setIfInBounds_toArray, List.set_cons_zero, List.set_cons_succ, i64_w, i32_w]
         rfl
        refine take_ (i := 1) (N := some 67) (v := ?_) (a' := ?_) #[true, true, false, false, false] rfl rfl (by kernel_rfl) (fun _ _ _ h => h) (Or.inl ⟨by rfl, ?_⟩) hHeld ?_ ?_
        rotate_left
        ·rintro w' ⟨s0, s1, s2, s3⟩
         go_simp
         with_reducible rfl
        rotate_left
        ·simp only [Act.put, List.setIfInBounds_toArray, List.set_cons_zero, List.set_cons_succ, i64_w, i32_w]
         rfl
        refine one_ (i := 2) (N := some 68) (bl 3 5) rfl rfl (by kernel_rfl) (by decide) (fun K hK => ?_)
        refine goes_ Try.func14 (by kernel_rfl) rfl #[.agg #[.slice A0_0 l0_0.length c0_0, .slice A0_1 l0_1.length c0_1]] (by rfl) rfl rfl (by (try simp only [List.map_toArray, List.map_cons, List.map_nil]); first | done | rfl | (simp only [List.length_drop, List.length_take]; rfl)) ?_
        with_reducible refine (laws_toRecord.calls kj19 _ _ l0_0 _ _ l0_1 t181 t184 _ ?side1 ?side2 ?side3 ?side4 A47.out).mono ?_
        (case side1 => exact cz_ (Kd.C_below HR0_0.out HB.out))
        (case side2 => exact HC0_0.out)
        (case side3 => exact cz_ (Kd.C_below HR0_1.out HB.out))
        (case side4 => exact HC0_1.out)
        rintro e w62 ⟨v182, v185, rfl, ho0, ho1, hb⟩
        refine ⟨_, rfl, ?_⟩
        have n0_ := Aside0.mk (Kd.S_below (by (with_reducible repeat (first | apply Kd.S_alloc | apply Kd.S_drewN | apply Kd.S_drew)); exact HO_11.out) hb)
        have n1_ := Aside0.mk (Kd.R_elder' (rz_ HO_174000.out) (Kd.R_base ho0) hb)
        have n2_ := Aside0.mk (Kd.R_elder' (rz_ HO_174001.out) (Kd.R_base ho1) hb)
        have n3_ := Aside0.mk (Kd.R_lower (Kd.R_new' ho0 (Kd.R_lt (rz_ HO_174000.out))) (below_size (by repeat (first | (with_reducible first | exact HB.out | apply below_alloc | apply pw_below_drewN | apply below_drew1 | refine below_set ?_ GE151.out | refine below_set ?_ GE173.out) | exact HB.out))))
        have n4_ := Aside0.mk (Kd.R_lower (Kd.R_new' ho1 (Kd.R_lt (rz_ HO_174001.out))) (below_size (by repeat (first | (with_reducible first | exact HB.out | apply below_alloc | apply pw_below_drewN | apply below_drew1 | refine below_set ?_ GE151.out | refine below_set ?_ GE173.out) | exact HB.out))))
        have n5_ := Aside0.mk (blk_below (bz_ BK151.out) hb)
        have n6_ := Aside0.mk (blk_below (bz_ BK173.out) hb)
        have n7_ := Aside0.mk (below_step (by repeat (first | (with_reducible first | exact HB.out | apply below_alloc | apply pw_below_drewN | apply below_drew1 | refine below_set ?_ GE151.out | refine below_set ?_ GE173.out) | exact HB.out)) hb)
        clear HO_11
        clear HO_174000
        clear HO_174001
        clear BK151
        clear BK173
        clear HB
        have HO_11 := n0_
        have HO_174000 := n1_
        have HO_174001 := n2_
        have HO183 := n3_
        have HO186 := n4_
        have BK151 := n5_
        have BK173 := n6_
        have HB := n7_
        clear n0_ n1_ n2_ n3_ n4_ n5_ n6_ n7_
        (try clear hb)
        (try clear hb2)
        (try clear hk)
        (try clear hi)
        (try clear ho0)
        (try clear ho1)
        obtain ⟨Ao63, co63, eo63⟩ := Kd.R_slice HO183.out
        (first | subst eo63 | (injection eo63 with f1_ f2_ f3_; have f4_ := f1_.symm; have f5_ := f3_.symm; clear f1_ f2_ f3_; subst f4_; subst f5_))
        obtain ⟨Ao64, co64, eo64⟩ := Kd.R_slice HO186.out
        (first | subst eo64 | (injection eo64 with f1_ f2_ f3_; have f4_ := f1_.symm; have f5_ := f3_.symm; clear f1_ f2_ f3_; subst f4_; subst f5_))
        refine hK.out _ _ ⟨(blk_cell BK173.out 0).trans rfl, (blk_cell BK173.out 1).trans rfl, (blk_cell BK151.out 0).trans rfl, (blk_cell BK151.out 1).trans rfl⟩ (fun hHeld => ?_)
        clear hK K
        refine norm_ (a' := ?_) ?_ ?_
        rotate_left
        ·show Act.put _ (some 68) _ = _
         simp only [Act.put, List.setIfInBounds_toArray, List.set_cons_zero, List.set_cons_succ, i64_w, i32_w]
         rfl
        refine one_ (i := 3) (N := some 69) (bl 4 5) rfl rfl (by kernel_rfl) (by decide) (fun K hK => ?_)
        refine goes_ Try.func17 (by kernel_rfl) rfl #[.agg #[.slice Ao35 t167.length co35, .slice Ao38 t170.length co38], .agg #[.slice Ao63 t181.length co63, .slice Ao64 t184.length co64]] (by rfl) rfl rfl (by (try simp only [List.map_toArray, List.map_cons, List.map_nil]); first | done | rfl | (simp only [List.length_drop, List.length_take]; rfl)) ?_
        with_reducible refine (laws_eqRecord.calls kj19 _ _ t167 _ _ t170 _ _ t181 _ _ t184 true _ ?side1 ?side2 ?side3 ?side4 ?side5 ?side6 ?side7 ?side8 A48.out).mono ?_
        (case side1 => exact cz_ (Kd.R_reads' HO_174000.out).2.2)
        (case side2 => exact (Kd.R_reads' HO_174000.out).2.1)
        (case side3 => exact cz_ (Kd.R_reads' HO_174001.out).2.2)
        (case side4 => exact (Kd.R_reads' HO_174001.out).2.1)
        (case side5 => exact cz_ (Kd.R_reads' HO183.out).2.2)
        (case side6 => exact (Kd.R_reads' HO183.out).2.1)
        (case side7 => exact cz_ (Kd.R_reads' HO186.out).2.2)
        (case side8 => exact (Kd.R_reads' HO186.out).2.1)
        rintro e w65 ⟨rfl, hb⟩
        refine ⟨_, rfl, ?_⟩
        have n0_ := Aside0.mk (Kd.S_below (by (with_reducible repeat (first | apply Kd.S_alloc | apply Kd.S_drewN | apply Kd.S_drew)); exact HO_11.out) hb)
        have n1_ := Aside0.mk (Kd.R_below (rz_ HO_174000.out) hb)
        have n2_ := Aside0.mk (Kd.R_below (rz_ HO_174001.out) hb)
        have n3_ := Aside0.mk (Kd.R_below (rz_ HO183.out) hb)
        have n4_ := Aside0.mk (Kd.R_below (rz_ HO186.out) hb)
        have n5_ := Aside0.mk (blk_below (bz_ BK151.out) hb)
        have n6_ := Aside0.mk (blk_below (bz_ BK173.out) hb)
        have n7_ := Aside0.mk (below_step (by repeat (first | (with_reducible first | exact HB.out | apply below_alloc | apply pw_below_drewN | apply below_drew1 | refine below_set ?_ GE151.out | refine below_set ?_ GE173.out) | exact HB.out)) hb)
        clear HO_11
        clear HO_174000
        clear HO_174001
        clear HO183
        clear HO186
        clear BK151
        clear BK173
        clear HB
        have HO_11 := n0_
        have HO_174000 := n1_
        have HO_174001 := n2_
        have HO183 := n3_
        have HO186 := n4_
        have BK151 := n5_
        have BK173 := n6_
        have HB := n7_
        clear n0_ n1_ n2_ n3_ n4_ n5_ n6_ n7_
        (try clear hb)
        (try clear hb2)
        (try clear hk)
        (try clear hi)
        refine hK.out _ _ ⟨(blk_cell BK173.out 0).trans rfl, (blk_cell BK173.out 1).trans rfl, (blk_cell BK151.out 0).trans rfl, (blk_cell BK151.out 1).trans rfl⟩ (fun hHeld => ?_)
        clear hK K
        refine norm_ (a' := ?_) ?_ ?_
        rotate_left
        ·show Act.put _ (some 69) _ = _
         simp only [Act.put, List.setIfInBounds_toArray, List.set_cons_zero, List.set_cons_succ, i64_w, i32_w]
         rfl
        refine pure_ (i := 4) (N := some 70) (v := ?_) (a' := ?_) #[true, true, true, true, true] rfl rfl (by kernel_rfl) (fun _ _ _ h => h) (Or.inl ⟨by rfl, ?_⟩) ?_ ?_
        rotate_left
        ·intro w'
         go_simp
         with_reducible rfl
        rotate_left
        ·simp only [Act.put, List.setIfInBounds_toArray, List.set_cons_zero, List.set_cons_succ, i64_w, i32_w]
         rfl
        refine done_ (by kernel_rfl) ?_
        try go_wp2_with (first | ((with_reducible refine gate_callee (f := 15) rfl ?_); refine goesL_ (some 73) rfl rfl Try.func15 (by kernel_rfl) rfl #[.slice A1 l1.length c1] rfl (by (try simp only [List.map_toArray, List.map_cons, List.map_nil]); first | done | rfl | (simp only [List.length_drop, List.length_take]; rfl)) ?_; (with_reducible refine (laws_toPhaseS.calls kj19 _ _ l1 t188 _ ?side1 ?side2 A50.out).mono ?_); (case side1 => exact cz_ (Kd.C_below HR1.out HB.out)); (case side2 => exact HC1.out); rintro e w66 ⟨v189, rfl, ho0, hb⟩; refine ⟨_, rfl, ?_⟩; have n0_ := Aside0.mk (Kd.S_elder' (by (with_reducible repeat (first | apply Kd.S_alloc | apply Kd.S_drewN | apply Kd.S_drew)); exact HO_11.out) (Kd.S_base ho0) hb); have n1_ := Aside0.mk (Kd.R_below (rz_ HO_174000.out) hb); have n2_ := Aside0.mk (Kd.R_below (rz_ HO_174001.out) hb); have n3_ := Aside0.mk (Kd.R_below (rz_ HO183.out) hb); have n4_ := Aside0.mk (Kd.R_below (rz_ HO186.out) hb); have n5_ := Aside0.mk (Kd.S_lower (Kd.S_new' ho0 (Kd.S_lt (by (with_reducible repeat (first | apply Kd.S_alloc | apply Kd.S_drewN | apply Kd.S_drew)); exact HO_11.out))) (below_size (by repeat (first | (with_reducible first | exact HB.out | apply below_alloc | apply pw_below_drewN | apply below_drew1 | refine below_set ?_ GE151.out | refine below_set ?_ GE173.out) | exact HB.out)))); have n6_ := Aside0.mk (blk_below (bz_ BK151.out) hb); have n7_ := Aside0.mk (blk_below (bz_ BK173.out) hb); have n8_ := Aside0.mk (below_step (by repeat (first | (with_reducible first | exact HB.out | apply below_alloc | apply pw_below_drewN | apply below_drew1 | refine below_set ?_ GE151.out | refine below_set ?_ GE173.out) | exact HB.out)) hb); clear HO_11; clear HO_174000; clear HO_174001; clear HO183; clear HO186; clear BK151; clear BK173; clear HB; have HO_11 := n0_; have HO_174000 := n1_; have HO_174001 := n2_; have HO183 := n3_; have HO186 := n4_; have HO190 := n5_; have BK151 := n6_; have BK173 := n7_; have HB := n8_; clear n0_ n1_ n2_ n3_ n4_ n5_ n6_ n7_ n8_; (try clear hb); (try clear hb2); (try clear hk); (try clear hi); (try clear ho0); obtain ⟨Ao67, co67, eo67⟩ := Kd.S_slice HO190.out; subst eo67) | ((with_reducible refine gate_callee (f := 18) rfl ?_); refine goesL_ (some 74) rfl rfl Try.func18 (by kernel_rfl) rfl #[.slice Ao41 t174.length co41, .slice Ao67 t188.length co67] rfl (by (try simp only [List.map_toArray, List.map_cons, List.map_nil]); first | done | rfl | (simp only [List.length_drop, List.length_take]; rfl)) ?_; (with_reducible refine (laws_eqPhaseS.calls kj19 _ _ t174 _ _ t188 false _ ?side1 ?side2 ?side3 ?side4 A51.out).mono ?_); (case side1 => repeat (first | exact (Kd.S_reads' HO_11.out).2.2 | (with_reducible refine Kd.C_alloc ?_ _) | (with_reducible refine Kd.C_drewN ?_ _) | (with_reducible refine Kd.C_drew ?_))); (case side2 => exact (Kd.S_reads' HO_11.out).2.1); (case side3 => repeat (first | exact (Kd.S_reads' HO190.out).2.2 | (with_reducible refine Kd.C_alloc ?_ _) | (with_reducible refine Kd.C_drewN ?_ _) | (with_reducible refine Kd.C_drew ?_))); (case side4 => exact (Kd.S_reads' HO190.out).2.1); rintro e w68 ⟨rfl, hb⟩; refine ⟨_, rfl, ?_⟩; have n0_ := Aside0.mk (Kd.S_below (by (with_reducible repeat (first | apply Kd.S_alloc | apply Kd.S_drewN | apply Kd.S_drew)); exact HO_11.out) hb); have n1_ := Aside0.mk (Kd.R_below (rz_ HO_174000.out) hb); have n2_ := Aside0.mk (Kd.R_below (rz_ HO_174001.out) hb); have n3_ := Aside0.mk (Kd.R_below (rz_ HO183.out) hb); have n4_ := Aside0.mk (Kd.R_below (rz_ HO186.out) hb); have n5_ := Aside0.mk (Kd.S_below (by (with_reducible repeat (first | apply Kd.S_alloc | apply Kd.S_drewN | apply Kd.S_drew)); exact HO190.out) hb); have n6_ := Aside0.mk (blk_below (bz_ BK151.out) hb); have n7_ := Aside0.mk (blk_below (bz_ BK173.out) hb); have n8_ := Aside0.mk (below_step (by repeat (first | (with_reducible first | exact HB.out | apply below_alloc | apply pw_below_drewN | apply below_drew1 | refine below_set ?_ GE151.out | refine below_set ?_ GE173.out) | exact HB.out)) hb); clear HO_11; clear HO_174000; clear HO_174001; clear HO183; clear HO186; clear HO190; clear BK151; clear BK173; clear HB; have HO_11 := n0_; have HO_174000 := n1_; have HO_174001 := n2_; have HO183 := n3_; have HO186 := n4_; have HO190 := n5_; have BK151 := n6_; have BK173 := n7_; have HB := n8_; clear n0_ n1_ n2_ n3_ n4_ n5_ n6_ n7_ n8_; (try clear hb); (try clear hb2); (try clear hk); (try clear hi)))
        go_ret
        exact ⟨by first | rfl | (simp [errW_none, errW_some] <;> rfl) | (simp [*, errW_none, errW_some] <;> rfl), by repeat (first | (with_reducible first | exact HB.out | apply below_alloc | apply pw_below_drewN | apply below_drew1 | refine below_set ?_ GE151.out | refine below_set ?_ GE173.out) | exact HB.out)⟩
      ·replace c49 := Bool.eq_false_iff.mpr c49
       subst c49
       have H1 : (some false) = some r := by rw [if_neg (show ¬ (false = true) by decide)] at H; exact H
       clear H
       have H := H1
       clear H1
       obtain rfl := Option.some.inj H
       try go_wp2
       have n0_ := Aside0.mk (Kd.S_drew HO_11.out)
       have n1_ := Aside0.mk (Kd.R_drew HO_174000.out)
       have n2_ := Aside0.mk (Kd.R_drew HO_174001.out)
       have n3_ := Aside0.mk (blk_drew BK151.out)
       have n4_ := Aside0.mk (blk_drew BK173.out)
       have n5_ := Aside0.mk (below_drew1 HB.out)
       clear HO_11
       clear HO_174000
       clear HO_174001
       clear BK151
       clear BK173
       clear HB
       have HO_11 := n0_
       have HO_174000 := n1_
       have HO_174001 := n2_
       have BK151 := n3_
       have BK173 := n4_
       have HB := n5_
       clear n0_ n1_ n2_ n3_ n4_ n5_
       refine start_ (n := 5) (S := fun w' => w'.cell? ⟨gb173, 0, none⟩ = some (.slice Ao35 t167.length co35) ∧ w'.cell? ⟨gb173, 1, none⟩ = some (.slice Ao38 t170.length co38) ∧ w'.cell? ⟨gb151, 0, none⟩ = some (.slice A0_0 l0_0.length c0_0) ∧ w'.cell? ⟨gb151, 1, none⟩ = some (.slice A0_1 l0_1.length c0_1)) (ds := []) #[false, false, false, false, false] (by kernel_rfl) rfl rfl ⟨(blk_cell BK173.out 0).trans rfl, (blk_cell BK173.out 1).trans rfl, (blk_cell BK151.out 0).trans rfl, (blk_cell BK151.out 1).trans rfl⟩ (fun hHeld => ?_)
       generalize wc.drew = w69 at HO_11 HO_174000 HO_174001 BK151 BK173 HB hHeld ⊢
       refine take_ (i := 0) (N := some 66) (v := ?_) (a' := ?_) #[true, false, false, false, false] rfl rfl (by kernel_rfl) (fun _ _ _ h => h) (Or.inl ⟨by rfl, ?_⟩) hHeld ?_ ?_
       rotate_left
       ·rintro w' ⟨s0, s1, s2, s3⟩
        go_simp
        with_reducible rfl
       rotate_left
       ·simp only [Act.put, List.setIfInBounds_toArray, List.set_cons_zero, List.set_cons_succ, i64_w, i32_w]
        rfl
       refine take_ (i := 1) (N := some 67) (v := ?_) (a' := ?_) #[true, true, false, false, false] rfl rfl (by kernel_rfl) (fun _ _ _ h => h) (Or.inl ⟨by rfl, ?_⟩) hHeld ?_ ?_
       rotate_left
       ·rintro w' ⟨s0, s1, s2, s3⟩
        go_simp
        with_reducible rfl
       rotate_left
       ·simp only [Act.put, List.setIfInBounds_toArray, List.set_cons_zero, List.set_cons_succ, i64_w, i32_w]
        rfl
       refine one_ (i := 2) (N := some 68) (bl 3 5) rfl rfl (by kernel_rfl) (by decide) (fun K hK => ?_)
       refine goes_ Try.func14 (by kernel_rfl) rfl #[.agg #[.slice A0_0 l0_0.length c0_0, .slice A0_1 l0_1.length c0_1]] (by rfl) rfl rfl (by (try simp only [List.map_toArray, List.map_cons, List.map_nil]); first | done | rfl | (simp only [List.length_drop, List.length_take]; rfl)) ?_
       with_reducible refine (laws_toRecord.calls kj19 _ _ l0_0 _ _ l0_1 t181 t184 _ ?side1 ?side2 ?side3 ?side4 A47.out).mono ?_
       (case side1 => exact cz_ (Kd.C_below HR0_0.out HB.out))
       (case side2 => exact HC0_0.out)
       (case side3 => exact cz_ (Kd.C_below HR0_1.out HB.out))
       (case side4 => exact HC0_1.out)
       rintro e w70 ⟨v182, v185, rfl, ho0, ho1, hb⟩
       refine ⟨_, rfl, ?_⟩
       have n0_ := Aside0.mk (Kd.S_below (by (with_reducible repeat (first | apply Kd.S_alloc | apply Kd.S_drewN | apply Kd.S_drew)); exact HO_11.out) hb)
       have n1_ := Aside0.mk (Kd.R_elder' (rz_ HO_174000.out) (Kd.R_base ho0) hb)
       have n2_ := Aside0.mk (Kd.R_elder' (rz_ HO_174001.out) (Kd.R_base ho1) hb)
       have n3_ := Aside0.mk (Kd.R_lower (Kd.R_new' ho0 (Kd.R_lt (rz_ HO_174000.out))) (below_size (by repeat (first | (with_reducible first | exact HB.out | apply below_alloc | apply pw_below_drewN | apply below_drew1 | refine below_set ?_ GE151.out | refine below_set ?_ GE173.out) | exact HB.out))))
       have n4_ := Aside0.mk (Kd.R_lower (Kd.R_new' ho1 (Kd.R_lt (rz_ HO_174001.out))) (below_size (by repeat (first | (with_reducible first | exact HB.out | apply below_alloc | apply pw_below_drewN | apply below_drew1 | refine below_set ?_ GE151.out | refine below_set ?_ GE173.out) | exact HB.out))))
       have n5_ := Aside0.mk (blk_below (bz_ BK151.out) hb)
       have n6_ := Aside0.mk (blk_below (bz_ BK173.out) hb)
       have n7_ := Aside0.mk (below_step (by repeat (first | (with_reducible first | exact HB.out | apply below_alloc | apply pw_below_drewN | apply below_drew1 | refine below_set ?_ GE151.out | refine below_set ?_ GE173.out) | exact HB.out)) hb)
       clear HO_11
       clear HO_174000
       clear HO_174001
       clear BK151
       clear BK173
       clear HB
       have HO_11 := n0_
       have HO_174000 := n1_
       have HO_174001 := n2_
       have HO183 := n3_
       have HO186 := n4_
       have BK151 := n5_
       have BK173 := n6_
       have HB := n7_
       clear n0_ n1_ n2_ n3_ n4_ n5_ n6_ n7_
       (try clear hb)
       (try clear hb2)
       (try clear hk)
       (try clear hi)
       (try clear ho0)
       (try clear ho1)
       obtain ⟨Ao71, co71, eo71⟩ := Kd.R_slice HO183.out
       (first | subst eo71 | (injection eo71 with f1_ f2_ f3_; have f4_ := f1_.symm; have f5_ := f3_.symm; clear f1_ f2_ f3_; subst f4_; subst f5_))
       obtain ⟨Ao72, co72, eo72⟩ := Kd.R_slice HO186.out
       (first | subst eo72 | (injection eo72 with f1_ f2_ f3_; have f4_ := f1_.symm; have f5_ := f3_.symm; clear f1_ f2_ f3_; subst f4_; subst f5_))
       refine hK.out _ _ ⟨(blk_cell BK173.out 0).trans rfl, (blk_cell BK173.out 1).trans rfl, (blk_cell BK151.out 0).trans rfl, (blk_cell BK151.out 1).trans rfl⟩ (fun hHeld => ?_)
       clear hK K
       refine norm_ (a' := ?_) ?_ ?_
       rotate_left
       ·show Act.put _ (some 68) _ = _
        simp only [Act.put, List.setIfInBounds_toArray, List.set_cons_zero, List.set_cons_succ, i64_w, i32_w]
        rfl
       refine one_ (i := 3) (N := some 69) (bl 4 5) rfl rfl (by kernel_rfl) (by decide) (fun K hK => ?_)
       refine goes_ Try.func17 (by kernel_rfl) rfl #[.agg #[.slice Ao35 t167.length co35, .slice Ao38 t170.length co38], .agg #[.slice Ao71 t181.length co71, .slice Ao72 t184.length co72]] (by rfl) rfl rfl (by (try simp only [List.map_toArray, List.map_cons, List.map_nil]); first | done | rfl | (simp only [List.length_drop, List.length_take]; rfl)) ?_
       with_reducible refine (laws_eqRecord.calls kj19 _ _ t167 _ _ t170 _ _ t181 _ _ t184 false _ ?side1 ?side2 ?side3 ?side4 ?side5 ?side6 ?side7 ?side8 A48.out).mono ?_
       (case side1 => exact cz_ (Kd.R_reads' HO_174000.out).2.2)
       (case side2 => exact (Kd.R_reads' HO_174000.out).2.1)
       (case side3 => exact cz_ (Kd.R_reads' HO_174001.out).2.2)
       (case side4 => exact (Kd.R_reads' HO_174001.out).2.1)
       (case side5 => exact cz_ (Kd.R_reads' HO183.out).2.2)
       (case side6 => exact (Kd.R_reads' HO183.out).2.1)
       (case side7 => exact cz_ (Kd.R_reads' HO186.out).2.2)
       (case side8 => exact (Kd.R_reads' HO186.out).2.1)
       rintro e w73 ⟨rfl, hb⟩
       refine ⟨_, rfl, ?_⟩
       have n0_ := Aside0.mk (Kd.S_below (by (with_reducible repeat (first | apply Kd.S_alloc | apply Kd.S_drewN | apply Kd.S_drew)); exact HO_11.out) hb)
       have n1_ := Aside0.mk (Kd.R_below (rz_ HO_174000.out) hb)
       have n2_ := Aside0.mk (Kd.R_below (rz_ HO_174001.out) hb)
       have n3_ := Aside0.mk (Kd.R_below (rz_ HO183.out) hb)
       have n4_ := Aside0.mk (Kd.R_below (rz_ HO186.out) hb)
       have n5_ := Aside0.mk (blk_below (bz_ BK151.out) hb)
       have n6_ := Aside0.mk (blk_below (bz_ BK173.out) hb)
       have n7_ := Aside0.mk (below_step (by repeat (first | (with_reducible first | exact HB.out | apply below_alloc | apply pw_below_drewN | apply below_drew1 | refine below_set ?_ GE151.out | refine below_set ?_ GE173.out) | exact HB.out)) hb)
       clear HO_11
       clear HO_174000
       clear HO_174001
       clear HO183
       clear HO186
       clear BK151
       clear BK173
       clear HB
       have HO_11 := n0_
       have HO_174000 := n1_
       have HO_174001 := n2_
       have HO183 := n3_
       have HO186 := n4_
       have BK151 := n5_
       have BK173 := n6_
       have HB := n7_
       clear n0_ n1_ n2_ n3_ n4_ n5_ n6_ n7_
       (try clear hb)
       (try clear hb2)
       (try clear hk)
       (try clear hi)
       refine hK.out _ _ ⟨(blk_cell BK173.out 0).trans rfl, (blk_cell BK173.out 1).trans rfl, (blk_cell BK151.out 0).trans rfl, (blk_cell BK151.out 1).trans rfl⟩ (fun hHeld => ?_)
       clear hK K
       refine norm_ (a' := ?_) ?_ ?_
       rotate_left
       ·show Act.put _ (some 69) _ = _
        simp only [Act.put, List.setIfInBounds_toArray, List.set_cons_zero, List.set_cons_succ, i64_w, i32_w]
        rfl
       refine pure_ (i := 4) (N := some 70) (v := ?_) (a' := ?_) #[true, true, true, true, true] rfl rfl (by kernel_rfl) (fun _ _ _ h => h) (Or.inl ⟨by rfl, ?_⟩) ?_ ?_
       rotate_left
       ·intro w'
        go_simp
        with_reducible rfl
       rotate_left
       ·simp only [Act.put, List.setIfInBounds_toArray, List.set_cons_zero, List.set_cons_succ, i64_w, i32_w]
        rfl
       refine done_ (by kernel_rfl) ?_
       try go_wp2
       go_ret
       exact ⟨by first | rfl | (simp [errW_none, errW_some] <;> rfl) | (simp [*, errW_none, errW_some] <;> rfl), by repeat (first | (with_reducible first | exact HB.out | apply below_alloc | apply pw_below_drewN | apply below_drew1 | refine below_set ?_ GE151.out | refine below_set ?_ GE173.out) | exact HB.out)⟩

end Go.Proofs.Ytenphfagdpkjaaa.Q

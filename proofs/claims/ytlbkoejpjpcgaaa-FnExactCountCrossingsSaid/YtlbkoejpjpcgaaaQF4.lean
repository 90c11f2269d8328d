-- Written by a program of this session (wip/xprint.py over the kit's printer).
import Derived.Test.YtlbkoejpjpcgaaaQ0
import Derived.Test.YtlbkoejpjpcgaaaQB0
import Derived.Test.YtlbkoejpjpcgaaaQB1
import Derived.Test.YtlbkoejpjpcgaaaQF13
import Derived.Test.YtlbkoejpjpcgaaaQF18
import Derived.Test.YtlbkoejpjpcgaaaQF19
import Derived.Test.YtlbkoejpjpcgaaaQF20
import Derived.Test.YtlbkoejpjpcgaaaQF21
namespace Go.Proofs.Ytlbkoejpjpcgaaa.Q
open Go.RowKit Go.Proofs.YtlbkoejpjpcgaaaW.PrintWords Go.Proofs.YtlbkoejpjpcgaaaW.PrintLast
set_option linter.unusedVariables false
set_option linter.unusedSimpArgs false

/-! ### laws_FnExactCountCrossings: function 4 -/
def laws_FnExactCountCrossings.j0 : Nat → List (List Int) → List (List Int) → Bool → List (S118) → List (S120) → List (S108) → List (S100) → Option (Bool)
 | 0, _, _, _, _, _, _, _ => none
 | k + 1, x1, x9, x47, x152000, x152001, x172000, x172001 => if x47 = true then (some false) else ((laws_toRecord.f k x152000 x152001).bind fun bt177 => ((laws_eqRecord.f k x172000 x172001 bt177.1 bt177.2).bind fun t183 => (if t183 = true then ((laws_toIntSS.f k x1).bind fun t184 => ((laws_eqIntSS.f k x9 t184).bind fun t187 => (if t187 = true then (some true) else (some false)))) else (some false))))
def laws_FnExactCountCrossings.f (k : Nat) (l0_0 : List (S118)) (l0_1 : List (S120)) (l1 : List (List Int)) : Option (Bool) := (laws_szRecord.f l0_0 l0_1 1048576).bind fun t152 => (if t152 < 0 then (some true) else ((laws_szIntSS.f k l1 t152).bind fun t153 => (if t153 < 0 then (some true) else ((laws_toRecord.f k l0_0 l0_1).bind fun bt154 => ((laws_toIntSS.f k l1).bind fun t160 => ((spec_CountCrossings.f k bt154.1 bt154.2 t160).bind fun bt163 => ((laws_toRecord.f k l0_0 l0_1).bind fun bt165 => ((laws_toIntSS.f k l1).bind fun t172 => ((impl_CountCrossings.f bt165.1 bt165.2 t172).bind fun bt175 => (if bt175.1 = bt163.1 then (laws_FnExactCountCrossings.j0 k l1 t172 (bt175.2 != bt163.2) l0_0 l0_1 bt165.1 bt165.2) else (laws_FnExactCountCrossings.j0 k l1 t172 true l0_0 l0_1 bt165.1 bt165.2)))))))))))
theorem laws_FnExactCountCrossings.mono_l : ∀ k, (∀ y0 y1 y2 y3 y4 y5 y6, LeO (laws_FnExactCountCrossings.j0 k y0 y1 y2 y3 y4 y5 y6) (laws_FnExactCountCrossings.j0 (k + 1) y0 y1 y2 y3 y4 y5 y6))
 | 0 => fun _ _ _ _ _ _ _ r h => by simp [laws_FnExactCountCrossings.j0] at h
 | k + 1 => by
  have ih0 := laws_FnExactCountCrossings.mono_l k
  ·intro y0 y1 y2 y3 y4 y5 y6
   unfold laws_FnExactCountCrossings.j0
   repeat' first
   | (with_reducible exact ih0 _ _ _ _ _ _ _)
   | (with_reducible exact laws_eqIntSS.mono _ _ _)
   | (with_reducible exact laws_eqRecord.mono _ _ _ _ _)
   | (with_reducible exact laws_szIntSS.mono _ _ _)
   | (with_reducible exact laws_toIntSS.mono _ _)
   | (with_reducible exact laws_toRecord.mono _ _ _)
   | (with_reducible exact spec_CountCrossings.mono _ _ _ _)
   | (with_reducible exact LeO.refl _)
   | (with_reducible exact LeO.none _)
   | (with_reducible refine LeO.ite ?_ ?_)
   | (with_reducible refine LeO.bind ?_ (fun _ => ?_))
   | exact ih0 _ _ _ _ _ _ _
   | exact laws_eqIntSS.mono _ _ _
   | exact laws_eqRecord.mono _ _ _ _ _
   | exact laws_szIntSS.mono _ _ _
   | exact laws_toIntSS.mono _ _
   | exact laws_toRecord.mono _ _ _
   | exact spec_CountCrossings.mono _ _ _ _
   | exact LeO.none _
   | refine LeO.ite ?_ ?_
   | refine LeO.bind ?_ (fun _ => ?_)
theorem laws_FnExactCountCrossings.mono : ∀ a0 a1 a2 k, LeO (laws_FnExactCountCrossings.f k a0 a1 a2) (laws_FnExactCountCrossings.f (k + 1) a0 a1 a2) := by
 intro a0 a1 a2 k
 have ih0 := laws_FnExactCountCrossings.mono_l k
 unfold laws_FnExactCountCrossings.f
 repeat' first
   | (with_reducible exact ih0 _ _ _ _ _ _ _)
   | (with_reducible exact laws_eqIntSS.mono _ _ _)
   | (with_reducible exact laws_eqRecord.mono _ _ _ _ _)
   | (with_reducible exact laws_szIntSS.mono _ _ _)
   | (with_reducible exact laws_toIntSS.mono _ _)
   | (with_reducible exact laws_toRecord.mono _ _ _)
   | (with_reducible exact spec_CountCrossings.mono _ _ _ _)
   | (with_reducible exact LeO.refl _)
   | (with_reducible exact LeO.none _)
   | (with_reducible refine LeO.ite ?_ ?_)
   | (with_reducible refine LeO.bind ?_ (fun _ => ?_))
   | exact ih0 _ _ _ _ _ _ _
   | exact laws_eqIntSS.mono _ _ _
   | exact laws_eqRecord.mono _ _ _ _ _
   | exact laws_szIntSS.mono _ _ _
   | exact laws_toIntSS.mono _ _
   | exact laws_toRecord.mono _ _ _
   | exact spec_CountCrossings.mono _ _ _ _
   | exact LeO.none _
   | refine LeO.ite ?_ ?_
   | refine LeO.bind ?_ (fun _ => ?_)
set_option maxHeartbeats 8000000 in
set_option maxRecDepth 100000 in
theorem laws_FnExactCountCrossings.calls (k : Nat) (A0_0 : Option Addr) (c0_0 : Nat) (l0_0 : List (S118)) (A0_1 : Option Addr) (c0_1 : Nat) (l0_1 : List (S120)) (A1 : Option Addr) (c1 : Nat) (l1 : List (List Int)) (r : Bool) (w : World) (hr0_0 : Kd.C k118 w A0_0 l0_0.length l0_0) (hc0_0 : l0_0.length ≤ c0_0) (hr0_1 : Kd.C k120 w A0_1 l0_1.length l0_1) (hc0_1 : l0_1.length ≤ c0_1) (hr1 : Kd.C (Kd.slice 3 (Kd.int .i64)) w A1 l1.length l1) (hc1 : l1.length ≤ c1) (h : laws_FnExactCountCrossings.f k l0_0 l0_1 l1 = some r) :
  Calls Try.prog 4 #[.agg #[.slice A0_0 l0_0.length c0_0, .slice A0_1 l0_1.length c0_1], .slice A1 l1.length c1] w fun e w' => e = .returned (.bool r) ∧ Below w.heap.size w w' := by
 have hu25 := Try.underlying25
 have hu33 := Try.underlying33
 have HR0_0 := Aside0.mk hr0_0
 have HC0_0 := Aside0.mk hc0_0
 clear hr0_0 hc0_0
 have HR0_1 := Aside0.mk hr0_1
 have HC0_1 := Aside0.mk hc0_1
 clear hr0_1 hc0_1
 have HR1 := Aside0.mk hr1
 have HC1 := Aside0.mk hc1
 clear hr1 hc1
 have HB := Aside0.mk (Below.refl w.heap.size w)
 have H : ((laws_szRecord.f l0_0 l0_1 1048576).bind fun t152 => (if t152 < 0 then (some true) else ((laws_szIntSS.f k l1 t152).bind fun t153 => (if t153 < 0 then (some true) else ((laws_toRecord.f k l0_0 l0_1).bind fun bt154 => ((laws_toIntSS.f k l1).bind fun t160 => ((spec_CountCrossings.f k bt154.1 bt154.2 t160).bind fun bt163 => ((laws_toRecord.f k l0_0 l0_1).bind fun bt165 => ((laws_toIntSS.f k l1).bind fun t172 => ((impl_CountCrossings.f bt165.1 bt165.2 t172).bind fun bt175 => (if bt175.1 = bt163.1 then (laws_FnExactCountCrossings.j0 k l1 t172 (bt175.2 != bt163.2) l0_0 l0_1 bt165.1 bt165.2) else (laws_FnExactCountCrossings.j0 k l1 t172 true l0_0 l0_1 bt165.1 bt165.2)))))))))))) = some r := h
 clear h
 replace H := Option.bind_eq_some_iff.mp H
 obtain ⟨t152, A30, H⟩ := H
 replace H : (if t152 < 0 then (some true) else ((laws_szIntSS.f k l1 t152).bind fun t153 => (if t153 < 0 then (some true) else ((laws_toRecord.f k l0_0 l0_1).bind fun bt154 => ((laws_toIntSS.f k l1).bind fun t160 => ((spec_CountCrossings.f k bt154.1 bt154.2 t160).bind fun bt163 => ((laws_toRecord.f k l0_0 l0_1).bind fun bt165 => ((laws_toIntSS.f k l1).bind fun t172 => ((impl_CountCrossings.f bt165.1 bt165.2 t172).bind fun bt175 => (if bt175.1 = bt163.1 then (laws_FnExactCountCrossings.j0 k l1 t172 (bt175.2 != bt163.2) l0_0 l0_1 bt165.1 bt165.2) else (laws_FnExactCountCrossings.j0 k l1 t172 true l0_0 l0_1 bt165.1 bt165.2))))))))))) = some r := H
 have A3 := Aside0.mk A30
 clear A30
 by_cases c4 : t152 < 0
 ·rw [if_pos c4] at H
  have c4b0 : decide (t152 < 0) = true := decide_eq_true c4
  clear c4
  obtain rfl := Option.some.inj H
  go_enter Try.func4, Try.ntmps4
  go_wp2_with (first | ((with_reducible refine gate_dst (N := 2) rfl ?_); refine box_event ?hg (N := 2) ?hd (cs := #[.slice A0_0 l0_0.length c0_0, .slice A0_1 l0_1.length c0_1]) (t := 25) ?hr ?_; (case hd => rfl); (case hg => rfl); (case hr => first | (go_simp; done) | (go_simp; rfl)); intro gb151 hg w5 hbox hb; have n0_ := Aside0.mk (below_step (wz_ HB.out) hb); have n1_ := Aside0.mk (hbox); have n2_ := Aside0.mk ((by rw [hg]; exact (below_size (wz_ HB.out)) : w.heap.size ≤ gb151)); have n3_ := Aside0.mk ((by rw [hg]; exact (below_size (wz_ HB.out)) : w.heap.size ≤ gb151)); clear HB; have HB := n0_; have BK151 := n1_; have GW151 := n2_; have GE151 := n3_; clear n0_ n1_ n2_ n3_; clear hb hbox hg; have hcz6_0 : w5.cell? ⟨gb151, 0, none⟩ = some (.slice A0_0 l0_0.length c0_0) := (blk_cell BK151.out 0).trans rfl; have hcz6_1 : w5.cell? ⟨gb151, 1, none⟩ = some (.slice A0_1 l0_1.length c0_1) := (blk_cell BK151.out 1).trans rfl; have hfz6_0 := blk_frozen BK151.out 0; have hfz6_1 := blk_frozen BK151.out 1) | ((with_reducible refine gate_callee (f := 9) rfl ?_); refine goesL_ (some 14) rfl rfl Try.func9 (by kernel_rfl) rfl #[.agg #[.slice A0_0 l0_0.length c0_0, .slice A0_1 l0_1.length c0_1], .int .i64 1048576] rfl (by (try simp only [List.map_toArray, List.map_cons, List.map_nil]); first | done | rfl | (simp only [List.length_drop, List.length_take]; rfl)) ?_; (with_reducible refine (laws_szRecord.calls _ _ l0_0 _ _ l0_1 1048576 t152 _ ?side1 ?side2 ?side3 ?side4 A3.out).mono ?_); (case side1 => exact cz_ (Kd.C_below HR0_0.out HB.out)); (case side2 => exact HC0_0.out); (case side3 => exact cz_ (Kd.C_below HR0_1.out HB.out)); (case side4 => exact HC0_1.out); rintro e w7 ⟨rfl, hb⟩; refine ⟨_, rfl, ?_⟩; have n0_ := Aside0.mk (blk_below (bz_ BK151.out) hb); have n1_ := Aside0.mk (below_step (by repeat (first | (with_reducible first | exact HB.out | apply below_alloc | apply pw_below_drewN | apply below_drew1 | refine below_set ?_ GE151.out) | exact HB.out)) hb); clear BK151; clear HB; have BK151 := n0_; have HB := n1_; clear n0_ n1_; (try clear hb); (try clear hb2); (try clear hk); (try clear hi)))
  go_ret
  exact ⟨by first | rfl | (simp [errW_none, errW_some] <;> rfl) | (simp [*, errW_none, errW_some] <;> rfl), by repeat (first | (with_reducible first | exact HB.out | apply below_alloc | apply pw_below_drewN | apply below_drew1 | refine below_set ?_ GE151.out) | exact HB.out)⟩
 ·rw [if_neg c4] at H
  have c4b0 : decide (t152 < 0) = false := decide_eq_false c4
  clear c4
  replace H := Option.bind_eq_some_iff.mp H
  obtain ⟨t153, A80, H⟩ := H
  replace H : (if t153 < 0 then (some true) else ((laws_toRecord.f k l0_0 l0_1).bind fun bt154 => ((laws_toIntSS.f k l1).bind fun t160 => ((spec_CountCrossings.f k bt154.1 bt154.2 t160).bind fun bt163 => ((laws_toRecord.f k l0_0 l0_1).bind fun bt165 => ((laws_toIntSS.f k l1).bind fun t172 => ((impl_CountCrossings.f bt165.1 bt165.2 t172).bind fun bt175 => (if bt175.1 = bt163.1 then (laws_FnExactCountCrossings.j0 k l1 t172 (bt175.2 != bt163.2) l0_0 l0_1 bt165.1 bt165.2) else (laws_FnExactCountCrossings.j0 k l1 t172 true l0_0 l0_1 bt165.1 bt165.2))))))))) = some r := H
  have A8 := Aside0.mk A80
  clear A80
  by_cases c9 : t153 < 0
  ·rw [if_pos c9] at H
   have c9b0 : decide (t153 < 0) = true := decide_eq_true c9
   clear c9
   obtain rfl := Option.some.inj H
   go_enter Try.func4, Try.ntmps4
   go_wp2_with (first | ((with_reducible refine gate_dst (N := 2) rfl ?_); refine box_event ?hg (N := 2) ?hd (cs := #[.slice A0_0 l0_0.length c0_0, .slice A0_1 l0_1.length c0_1]) (t := 25) ?hr ?_; (case hd => rfl); (case hg => rfl); (case hr => first | (go_simp; done) | (go_simp; rfl)); intro gb151 hg w10 hbox hb; have n0_ := Aside0.mk (below_step (wz_ HB.out) hb); have n1_ := Aside0.mk (hbox); have n2_ := Aside0.mk ((by rw [hg]; exact (below_size (wz_ HB.out)) : w.heap.size ≤ gb151)); have n3_ := Aside0.mk ((by rw [hg]; exact (below_size (wz_ HB.out)) : w.heap.size ≤ gb151)); clear HB; have HB := n0_; have BK151 := n1_; have GW151 := n2_; have GE151 := n3_; clear n0_ n1_ n2_ n3_; clear hb hbox hg; have hcz11_0 : w10.cell? ⟨gb151, 0, none⟩ = some (.slice A0_0 l0_0.length c0_0) := (blk_cell BK151.out 0).trans rfl; have hcz11_1 : w10.cell? ⟨gb151, 1, none⟩ = some (.slice A0_1 l0_1.length c0_1) := (blk_cell BK151.out 1).trans rfl; have hfz11_0 := blk_frozen BK151.out 0; have hfz11_1 := blk_frozen BK151.out 1) | ((with_reducible refine gate_callee (f := 9) rfl ?_); refine goesL_ (some 14) rfl rfl Try.func9 (by kernel_rfl) rfl #[.agg #[.slice A0_0 l0_0.length c0_0, .slice A0_1 l0_1.length c0_1], .int .i64 1048576] rfl (by (try simp only [List.map_toArray, List.map_cons, List.map_nil]); first | done | rfl | (simp only [List.length_drop, List.length_take]; rfl)) ?_; (with_reducible refine (laws_szRecord.calls _ _ l0_0 _ _ l0_1 1048576 t152 _ ?side1 ?side2 ?side3 ?side4 A3.out).mono ?_); (case side1 => exact cz_ (Kd.C_below HR0_0.out HB.out)); (case side2 => exact HC0_0.out); (case side3 => exact cz_ (Kd.C_below HR0_1.out HB.out)); (case side4 => exact HC0_1.out); rintro e w12 ⟨rfl, hb⟩; refine ⟨_, rfl, ?_⟩; have n0_ := Aside0.mk (blk_below (bz_ BK151.out) hb); have n1_ := Aside0.mk (below_step (by repeat (first | (with_reducible first | exact HB.out | apply below_alloc | apply pw_below_drewN | apply below_drew1 | refine below_set ?_ GE151.out) | exact HB.out)) hb); clear BK151; clear HB; have BK151 := n0_; have HB := n1_; clear n0_ n1_; (try clear hb); (try clear hb2); (try clear hk); (try clear hi)) | ((with_reducible refine gate_callee (f := 18) rfl ?_); refine goesL_ (some 19) rfl rfl Try.func18 (by kernel_rfl) rfl #[.slice A1 l1.length c1, .int .i64 t152] rfl (by (try simp only [List.map_toArray, List.map_cons, List.map_nil]); first | done | rfl | (simp only [List.length_drop, List.length_take]; rfl)) ?_; (with_reducible refine (laws_szIntSS.calls k _ _ l1 t152 t153 _ ?side1 ?side2 A8.out).mono ?_); (case side1 => exact cz_ (Kd.C_below HR1.out HB.out)); (case side2 => exact HC1.out); rintro e w' ⟨rfl, ⟨nd, rfl⟩⟩; refine ⟨_, rfl, ?_⟩))
   go_ret
   exact ⟨by first | rfl | (simp [errW_none, errW_some] <;> rfl) | (simp [*, errW_none, errW_some] <;> rfl), by repeat (first | (with_reducible first | exact HB.out | apply below_alloc | apply pw_below_drewN | apply below_drew1 | refine below_set ?_ GE151.out) | exact HB.out)⟩
  ·rw [if_neg c9] at H
   have c9b0 : decide (t153 < 0) = false := decide_eq_false c9
   clear c9
   replace H := Option.bind_eq_some_iff.mp H
   obtain ⟨⟨t154, t157⟩, A130, H⟩ := H
   replace H : ((laws_toIntSS.f k l1).bind fun t160 => ((spec_CountCrossings.f k t154 t157 t160).bind fun bt163 => ((laws_toRecord.f k l0_0 l0_1).bind fun bt165 => ((laws_toIntSS.f k l1).bind fun t172 => ((impl_CountCrossings.f bt165.1 bt165.2 t172).bind fun bt175 => (if bt175.1 = bt163.1 then (laws_FnExactCountCrossings.j0 k l1 t172 (bt175.2 != bt163.2) l0_0 l0_1 bt165.1 bt165.2) else (laws_FnExactCountCrossings.j0 k l1 t172 true l0_0 l0_1 bt165.1 bt165.2))))))) = some r := H
   have A13 := Aside0.mk A130
   clear A130
   replace H := Option.bind_eq_some_iff.mp H
   obtain ⟨t160, A140, H⟩ := H
   replace H : ((spec_CountCrossings.f k t154 t157 t160).bind fun bt163 => ((laws_toRecord.f k l0_0 l0_1).bind fun bt165 => ((laws_toIntSS.f k l1).bind fun t172 => ((impl_CountCrossings.f bt165.1 bt165.2 t172).bind fun bt175 => (if bt175.1 = bt163.1 then (laws_FnExactCountCrossings.j0 k l1 t172 (bt175.2 != bt163.2) l0_0 l0_1 bt165.1 bt165.2) else (laws_FnExactCountCrossings.j0 k l1 t172 true l0_0 l0_1 bt165.1 bt165.2)))))) = some r := H
   have A14 := Aside0.mk A140
   clear A140
   replace H := Option.bind_eq_some_iff.mp H
   obtain ⟨⟨t163, t164⟩, A150, H⟩ := H
   replace H : ((laws_toRecord.f k l0_0 l0_1).bind fun bt165 => ((laws_toIntSS.f k l1).bind fun t172 => ((impl_CountCrossings.f bt165.1 bt165.2 t172).bind fun bt175 => (if bt175.1 = t163 then (laws_FnExactCountCrossings.j0 k l1 t172 (bt175.2 != t164) l0_0 l0_1 bt165.1 bt165.2) else (laws_FnExactCountCrossings.j0 k l1 t172 true l0_0 l0_1 bt165.1 bt165.2))))) = some r := H
   have A15 := Aside0.mk A150
   clear A150
   replace H := Option.bind_eq_some_iff.mp H
   obtain ⟨⟨t165, t168⟩, A160, H⟩ := H
   replace H : ((laws_toIntSS.f k l1).bind fun t172 => ((impl_CountCrossings.f t165 t168 t172).bind fun bt175 => (if bt175.1 = t163 then (laws_FnExactCountCrossings.j0 k l1 t172 (bt175.2 != t164) l0_0 l0_1 t165 t168) else (laws_FnExactCountCrossings.j0 k l1 t172 true l0_0 l0_1 t165 t168)))) = some r := H
   have A16 := Aside0.mk A160
   clear A160
   replace H := Option.bind_eq_some_iff.mp H
   obtain ⟨t172, A170, H⟩ := H
   replace H : ((impl_CountCrossings.f t165 t168 t172).bind fun bt175 => (if bt175.1 = t163 then (laws_FnExactCountCrossings.j0 k l1 t172 (bt175.2 != t164) l0_0 l0_1 t165 t168) else (laws_FnExactCountCrossings.j0 k l1 t172 true l0_0 l0_1 t165 t168))) = some r := H
   have A17 := Aside0.mk A170
   clear A170
   replace H := Option.bind_eq_some_iff.mp H
   obtain ⟨⟨t175, t176⟩, A180, H⟩ := H
   replace H : (if t175 = t163 then (laws_FnExactCountCrossings.j0 k l1 t172 (t176 != t164) l0_0 l0_1 t165 t168) else (laws_FnExactCountCrossings.j0 k l1 t172 true l0_0 l0_1 t165 t168)) = some r := H
   have A18 := Aside0.mk A180
   clear A180
   have HC19 := Aside0.mk H
   clear H
   go_enter Try.func4, Try.ntmps4
   go_upto_region 12 with (first | ((with_reducible refine gate_dst (N := 2) rfl ?_); refine box_event ?hg (N := 2) ?hd (cs := #[.slice A0_0 l0_0.length c0_0, .slice A0_1 l0_1.length c0_1]) (t := 25) ?hr ?_; (case hd => rfl); (case hg => rfl); (case hr => first | (go_simp; done) | (go_simp; rfl)); intro gb151 hg w20 hbox hb; have n0_ := Aside0.mk (below_step (wz_ HB.out) hb); have n1_ := Aside0.mk (hbox); have n2_ := Aside0.mk ((by rw [hg]; exact (below_size (wz_ HB.out)) : w.heap.size ≤ gb151)); have n3_ := Aside0.mk ((by rw [hg]; exact (below_size (wz_ HB.out)) : w.heap.size ≤ gb151)); clear HB; have HB := n0_; have BK151 := n1_; have GW151 := n2_; have GE151 := n3_; clear n0_ n1_ n2_ n3_; clear hb hbox hg; have hcz21_0 : w20.cell? ⟨gb151, 0, none⟩ = some (.slice A0_0 l0_0.length c0_0) := (blk_cell BK151.out 0).trans rfl; have hcz21_1 : w20.cell? ⟨gb151, 1, none⟩ = some (.slice A0_1 l0_1.length c0_1) := (blk_cell BK151.out 1).trans rfl; have hfz21_0 := blk_frozen BK151.out 0; have hfz21_1 := blk_frozen BK151.out 1) | ((with_reducible refine gate_callee (f := 9) rfl ?_); refine goesL_ (some 14) rfl rfl Try.func9 (by kernel_rfl) rfl #[.agg #[.slice A0_0 l0_0.length c0_0, .slice A0_1 l0_1.length c0_1], .int .i64 1048576] rfl (by (try simp only [List.map_toArray, List.map_cons, List.map_nil]); first | done | rfl | (simp only [List.length_drop, List.length_take]; rfl)) ?_; (with_reducible refine (laws_szRecord.calls _ _ l0_0 _ _ l0_1 1048576 t152 _ ?side1 ?side2 ?side3 ?side4 A3.out).mono ?_); (case side1 => exact cz_ (Kd.C_below HR0_0.out HB.out)); (case side2 => exact HC0_0.out); (case side3 => exact cz_ (Kd.C_below HR0_1.out HB.out)); (case side4 => exact HC0_1.out); rintro e w22 ⟨rfl, hb⟩; refine ⟨_, rfl, ?_⟩; have n0_ := Aside0.mk (blk_below (bz_ BK151.out) hb); have n1_ := Aside0.mk (below_step (by repeat (first | (with_reducible first | exact HB.out | apply below_alloc | apply pw_below_drewN | apply below_drew1 | refine below_set ?_ GE151.out) | exact HB.out)) hb); clear BK151; clear HB; have BK151 := n0_; have HB := n1_; clear n0_ n1_; (try clear hb); (try clear hb2); (try clear hk); (try clear hi)) | ((with_reducible refine gate_callee (f := 18) rfl ?_); refine goesL_ (some 19) rfl rfl Try.func18 (by kernel_rfl) rfl #[.slice A1 l1.length c1, .int .i64 t152] rfl (by (try simp only [List.map_toArray, List.map_cons, List.map_nil]); first | done | rfl | (simp only [List.length_drop, List.length_take]; rfl)) ?_; (with_reducible refine (laws_szIntSS.calls k _ _ l1 t152 t153 _ ?side1 ?side2 A8.out).mono ?_); (case side1 => exact cz_ (Kd.C_below HR1.out HB.out)); (case side2 => exact HC1.out); rintro e w' ⟨rfl, ⟨nd, rfl⟩⟩; refine ⟨_, rfl, ?_⟩; (try (rw [drewN_self w22]; generalize hq_ : World.drewN w22 _ = w22; have n0_ : Aside0 (w22.heap[gb151]? = some (.cells #[.slice A0_0 l0_0.length c0_0, .slice A0_1 l0_1.length c0_1] 25 (0, 0))) := ⟨by rw [← hq_]; exact (bz_ BK151.out)⟩; have n1_ : Aside0 (Below w.heap.size w w22) := ⟨by rw [← hq_]; exact (by repeat (first | (with_reducible first | exact HB.out | apply below_alloc | apply pw_below_drewN | apply below_drew1 | refine below_set ?_ GE151.out) | exact HB.out))⟩; clear BK151 HB hq_; have BK151 := n0_; have HB := n1_; clear n0_ n1_)); have hcz23_0 : w22.cell? ⟨gb151, 0, none⟩ = some (.slice A0_0 l0_0.length c0_0) := (blk_cell BK151.out 0).trans rfl; have hcz23_1 : w22.cell? ⟨gb151, 1, none⟩ = some (.slice A0_1 l0_1.length c0_1) := (blk_cell BK151.out 1).trans rfl; have hfz23_0 := blk_frozen BK151.out 0; have hfz23_1 := blk_frozen BK151.out 1) | ((with_reducible refine gate_callee (f := 11) rfl ?_); refine goesL_ (some 24) rfl rfl Try.func11 (by kernel_rfl) rfl #[.agg #[.slice A0_0 l0_0.length c0_0, .slice A0_1 l0_1.length c0_1]] rfl (by (try simp only [List.map_toArray, List.map_cons, List.map_nil]); first | done | rfl | (simp only [List.length_drop, List.length_take]; rfl)) ?_; (with_reducible refine (laws_toRecord.calls k _ _ l0_0 _ _ l0_1 t154 t157 _ ?side1 ?side2 ?side3 ?side4 A13.out).mono ?_); (case side1 => exact cz_ (Kd.C_below HR0_0.out HB.out)); (case side2 => exact HC0_0.out); (case side3 => exact cz_ (Kd.C_below HR0_1.out HB.out)); (case side4 => exact HC0_1.out); rintro e w24 ⟨v155, v158, rfl, ho0, ho1, hb⟩; refine ⟨_, rfl, ?_⟩; have n0_ := Aside0.mk (Kd.R_lower ho0 (below_size (by repeat (first | (with_reducible first | exact HB.out | apply below_alloc | apply pw_below_drewN | apply below_drew1 | refine below_set ?_ GE151.out) | exact HB.out)))); have n1_ := Aside0.mk (Kd.R_lower ho1 (below_size (by repeat (first | (with_reducible first | exact HB.out | apply below_alloc | apply pw_below_drewN | apply below_drew1 | refine below_set ?_ GE151.out) | exact HB.out)))); have n2_ := Aside0.mk (blk_below (bz_ BK151.out) hb); have n3_ := Aside0.mk (below_step (by repeat (first | (with_reducible first | exact HB.out | apply below_alloc | apply pw_below_drewN | apply below_drew1 | refine below_set ?_ GE151.out) | exact HB.out)) hb); clear BK151; clear HB; have HO156 := n0_; have HO159 := n1_; have BK151 := n2_; have HB := n3_; clear n0_ n1_ n2_ n3_; (try clear hb); (try clear hb2); (try clear hk); (try clear hi); (try clear ho0); (try clear ho1)) | ((with_reducible refine gate_callee (f := 20) rfl ?_); refine goesL_ (some 26) rfl rfl Try.func20 (by kernel_rfl) rfl #[.slice A1 l1.length c1] rfl (by (try simp only [List.map_toArray, List.map_cons, List.map_nil]); first | done | rfl | (simp only [List.length_drop, List.length_take]; rfl)) ?_; (with_reducible refine (laws_toIntSS.calls k _ _ l1 t160 _ ?side1 ?side2 A14.out).mono ?_); (case side1 => exact cz_ (Kd.C_below HR1.out HB.out)); (case side2 => exact HC1.out); rintro e w25 ⟨v161, rfl, ho0, hb⟩; refine ⟨_, rfl, ?_⟩; have n0_ := Aside0.mk (Kd.R_below (rz_ HO156.out) hb); have n1_ := Aside0.mk (Kd.R_below (rz_ HO159.out) hb); have n2_ := Aside0.mk (Kd.S_lower ho0 (below_size (by repeat (first | (with_reducible first | exact HB.out | apply below_alloc | apply pw_below_drewN | apply below_drew1 | refine below_set ?_ GE151.out) | exact HB.out)))); have n3_ := Aside0.mk (blk_below (bz_ BK151.out) hb); have n4_ := Aside0.mk (below_step (by repeat (first | (with_reducible first | exact HB.out | apply below_alloc | apply pw_below_drewN | apply below_drew1 | refine below_set ?_ GE151.out) | exact HB.out)) hb); clear HO156; clear HO159; clear BK151; clear HB; have HO156 := n0_; have HO159 := n1_; have HO162 := n2_; have BK151 := n3_; have HB := n4_; clear n0_ n1_ n2_ n3_ n4_; (try clear hb); (try clear hb2); (try clear hk); (try clear hi); (try clear ho0); obtain ⟨Ao26, co26, eo26⟩ := Kd.R_slice HO156.out; subst eo26; obtain ⟨Ao27, co27, eo27⟩ := Kd.R_slice HO159.out; subst eo27; obtain ⟨Ao28, co28, eo28⟩ := Kd.S_slice HO162.out; subst eo28) | ((with_reducible refine gate_callee (f := 19) rfl ?_); refine goesL_ (some 27) rfl rfl Try.func19 (by kernel_rfl) rfl #[.agg #[.slice Ao26 t154.length co26, .slice Ao27 t157.length co27], .slice Ao28 t160.length co28] rfl (by (try simp only [List.map_toArray, List.map_cons, List.map_nil]); first | done | rfl | (simp only [List.length_drop, List.length_take]; rfl)) ?_; (with_reducible refine (spec_CountCrossings.calls k _ _ t154 _ _ t157 _ _ t160 t163 t164 _ ?side1 ?side2 ?side3 ?side4 ?side5 ?side6 A15.out).mono ?_); (case side1 => exact cz_ (Kd.R_reads' HO156.out).2.2); (case side2 => exact (Kd.R_reads' HO156.out).2.1); (case side3 => exact cz_ (Kd.R_reads' HO159.out).2.2); (case side4 => exact (Kd.R_reads' HO159.out).2.1); (case side5 => repeat (first | exact (Kd.S_reads' HO162.out).2.2 | (with_reducible refine Kd.C_alloc ?_ _) | (with_reducible refine Kd.C_drewN ?_ _) | (with_reducible refine Kd.C_drew ?_))); (case side6 => exact (Kd.S_reads' HO162.out).2.1); rintro e w29 ⟨rfl, hb⟩; refine ⟨_, rfl, ?_⟩; have n0_ := Aside0.mk (Kd.R_below (rz_ HO156.out) hb); have n1_ := Aside0.mk (Kd.R_below (rz_ HO159.out) hb); have n2_ := Aside0.mk (Kd.S_below (by (with_reducible repeat (first | apply Kd.S_alloc | apply Kd.S_drewN | apply Kd.S_drew)); exact HO162.out) hb); have n3_ := Aside0.mk (blk_below (bz_ BK151.out) hb); have n4_ := Aside0.mk (below_step (by repeat (first | (with_reducible first | exact HB.out | apply below_alloc | apply pw_below_drewN | apply below_drew1 | refine below_set ?_ GE151.out) | exact HB.out)) hb); clear HO156; clear HO159; clear HO162; clear BK151; clear HB; have HO156 := n0_; have HO159 := n1_; have HO162 := n2_; have BK151 := n3_; have HB := n4_; clear n0_ n1_ n2_ n3_ n4_; (try clear hb); (try clear hb2); (try clear hk); (try clear hi); have hcz30_0 : w29.cell? ⟨gb151, 0, none⟩ = some (.slice A0_0 l0_0.length c0_0) := (blk_cell BK151.out 0).trans rfl; have hcz30_1 : w29.cell? ⟨gb151, 1, none⟩ = some (.slice A0_1 l0_1.length c0_1) := (blk_cell BK151.out 1).trans rfl; have hfz30_0 := blk_frozen BK151.out 0; have hfz30_1 := blk_frozen BK151.out 1) | ((with_reducible refine gate_callee (f := 11) rfl ?_); refine goesL_ (some 31) rfl rfl Try.func11 (by kernel_rfl) rfl #[.agg #[.slice A0_0 l0_0.length c0_0, .slice A0_1 l0_1.length c0_1]] rfl (by (try simp only [List.map_toArray, List.map_cons, List.map_nil]); first | done | rfl | (simp only [List.length_drop, List.length_take]; rfl)) ?_; (with_reducible refine (laws_toRecord.calls k _ _ l0_0 _ _ l0_1 t165 t168 _ ?side1 ?side2 ?side3 ?side4 A16.out).mono ?_); (case side1 => exact cz_ (Kd.C_below HR0_0.out HB.out)); (case side2 => exact HC0_0.out); (case side3 => exact cz_ (Kd.C_below HR0_1.out HB.out)); (case side4 => exact HC0_1.out); rintro e w31 ⟨v166, v169, rfl, ho0, ho1, hb⟩; refine ⟨_, rfl, ?_⟩; have n0_ := Aside0.mk (Kd.R_elder' (rz_ HO156.out) (Kd.R_base ho0) hb); have n1_ := Aside0.mk (Kd.R_elder' (rz_ HO159.out) (Kd.R_base ho1) hb); have n2_ := Aside0.mk (Kd.S_below (by (with_reducible repeat (first | apply Kd.S_alloc | apply Kd.S_drewN | apply Kd.S_drew)); exact HO162.out) hb); have n3_ := Aside0.mk (Kd.R_lower (Kd.R_new' ho0 (Kd.R_lt (rz_ HO156.out))) (below_size (by repeat (first | (with_reducible first | exact HB.out | apply below_alloc | apply pw_below_drewN | apply below_drew1 | refine below_set ?_ GE151.out) | exact HB.out)))); have n4_ := Aside0.mk (Kd.R_lower (Kd.R_new' ho1 (Kd.R_lt (rz_ HO159.out))) (below_size (by repeat (first | (with_reducible first | exact HB.out | apply below_alloc | apply pw_below_drewN | apply below_drew1 | refine below_set ?_ GE151.out) | exact HB.out)))); have n5_ := Aside0.mk (blk_below (bz_ BK151.out) hb); have n6_ := Aside0.mk (below_step (by repeat (first | (with_reducible first | exact HB.out | apply below_alloc | apply pw_below_drewN | apply below_drew1 | refine below_set ?_ GE151.out) | exact HB.out)) hb); clear HO156; clear HO159; clear HO162; clear BK151; clear HB; have HO156 := n0_; have HO159 := n1_; have HO162 := n2_; have HO167 := n3_; have HO170 := n4_; have BK151 := n5_; have HB := n6_; clear n0_ n1_ n2_ n3_ n4_ n5_ n6_; (try clear hb); (try clear hb2); (try clear hk); (try clear hi); (try clear ho0); (try clear ho1)) | ((with_reducible refine gate_dst (N := 8) rfl ?_); refine box_event ?hg (N := 8) ?hd (cs := #[.slice none 0 0, .slice none 0 0]) (t := 33) ?hr ?_; (case hd => rfl); (case hg => rfl); (case hr => first | (go_simp; done) | (go_simp; rfl)); intro gb171 hg w32 hbox hb; have n0_ := Aside0.mk (Kd.R_below (rz_ HO156.out) hb); have n1_ := Aside0.mk (Kd.R_below (rz_ HO159.out) hb); have n2_ := Aside0.mk (Kd.S_below (by (with_reducible repeat (first | apply Kd.S_alloc | apply Kd.S_drewN | apply Kd.S_drew)); exact HO162.out) hb); have n3_ := Aside0.mk (Kd.R_below (rz_ HO167.out) hb); have n4_ := Aside0.mk (Kd.R_below (rz_ HO170.out) hb); have n5_ := Aside0.mk (blk_below (bz_ BK151.out) hb); have n6_ := Aside0.mk (below_step (by repeat (first | (with_reducible first | exact HB.out | apply below_alloc | apply pw_below_drewN | apply below_drew1 | refine below_set ?_ GE151.out) | exact HB.out)) hb); have n7_ := Aside0.mk (hbox); have n8_ := Aside0.mk ((by rw [hg]; exact (below_size (by repeat (first | (with_reducible first | exact HB.out | apply below_alloc | apply pw_below_drewN | apply below_drew1 | refine below_set ?_ GE151.out) | exact HB.out))) : w.heap.size ≤ gb171)); have n9_ := Aside0.mk ((by rw [hg]; exact (below_size (by repeat (first | (with_reducible first | exact HB.out | apply below_alloc | apply pw_below_drewN | apply below_drew1 | refine below_set ?_ GE151.out) | exact HB.out))) : w.heap.size ≤ gb171)); have n10_ := Aside0.mk ((by rw [hg]; exact Nat.ne_of_lt (blk_lt (g := gb151) (o := .cells #[.slice A0_0 l0_0.length c0_0, .slice A0_1 l0_1.length c0_1] 25 (0, 0)) (bz_ BK151.out)) : gb151 ≠ gb171)); have n11_ := Aside0.mk ((by rw [hg]; exact Nat.ne_of_gt (blk_lt (g := gb151) (o := .cells #[.slice A0_0 l0_0.length c0_0, .slice A0_1 l0_1.length c0_1] 25 (0, 0)) (bz_ BK151.out)) : gb171 ≠ gb151)); clear HO156; clear HO159; clear HO162; clear HO167; clear HO170; clear BK151; clear HB; have HO156 := n0_; have HO159 := n1_; have HO162 := n2_; have HO167 := n3_; have HO170 := n4_; have BK151 := n5_; have HB := n6_; have BK171 := n7_; have GW171 := n8_; have GE171 := n9_; have NB151_171 := n10_; have NB171_151 := n11_; clear n0_ n1_ n2_ n3_ n4_ n5_ n6_ n7_ n8_ n9_ n10_ n11_; clear hb hbox hg; obtain ⟨Ao33, co33, eo33⟩ := Kd.R_slice HO167.out; subst eo33; have hnb34 := NB171_151.out; have hnc34 := NB151_171.out; have hcz35_0 : w32.cell? ⟨gb171, 0, none⟩ = some (.slice none 0 0) := (blk_cell BK171.out 0).trans rfl; have hcz35_1 : w32.cell? ⟨gb171, 1, none⟩ = some (.slice none 0 0) := (blk_cell BK171.out 1).trans rfl; have hfz35_0 := blk_frozen BK171.out 0; have hfz35_1 := blk_frozen BK171.out 1; obtain ⟨Ao36, co36, eo36⟩ := Kd.R_slice HO170.out; subst eo36) | ((with_reducible refine gate_callee (f := 20) rfl ?_); refine goesL_ (some 33) rfl rfl Try.func20 (by kernel_rfl) rfl #[.slice A1 l1.length c1] rfl (by (try simp only [List.map_toArray, List.map_cons, List.map_nil]); first | done | rfl | (simp only [List.length_drop, List.length_take]; rfl)) ?_; (with_reducible refine (laws_toIntSS.calls k _ _ l1 t172 _ ?side1 ?side2 A17.out).mono ?_); (case side1 => exact Kd.C_below HR1.out (by repeat (first | (with_reducible first | exact HB.out | apply below_alloc | apply pw_below_drewN | apply below_drew1 | refine below_set ?_ GE151.out | refine below_set ?_ GE171.out) | exact HB.out))); (case side2 => exact HC1.out); rintro e w37 ⟨v173, rfl, ho0, hb⟩; refine ⟨_, rfl, ?_⟩; have n0_ := Aside0.mk (Kd.R_below (rz_ (Kd.R_mono (Kd.R_far (p := ⟨gb171, 1, none⟩) (Kd.R_far (p := ⟨gb171, 0, none⟩) (Kd.R_types HO156.out BK171.out (by decide)) (fun _ hk => hk.2) (.slice Ao33 t165.length co33)) (fun _ hk => hk.2) (.slice Ao36 t168.length co36)) (fun _ h_ => h_.1))) hb); have n1_ := Aside0.mk (Kd.R_below (rz_ (Kd.R_mono (Kd.R_far (p := ⟨gb171, 1, none⟩) (Kd.R_far (p := ⟨gb171, 0, none⟩) (Kd.R_types HO159.out BK171.out (by decide)) (fun _ hk => hk.2) (.slice Ao33 t165.length co33)) (fun _ hk => hk.2) (.slice Ao36 t168.length co36)) (fun _ h_ => h_.1))) hb); have n2_ := Aside0.mk (Kd.S_elder' (by (with_reducible repeat (first | apply Kd.S_alloc | apply Kd.S_drewN | apply Kd.S_drew)); exact (Kd.S_mono (Kd.S_far (p := ⟨gb171, 1, none⟩) (Kd.S_far (p := ⟨gb171, 0, none⟩) (Kd.S_types HO162.out BK171.out (by decide)) (fun _ hk => hk.2) (.slice Ao33 t165.length co33)) (fun _ hk => hk.2) (.slice Ao36 t168.length co36)) (fun _ h_ => h_.1))) (Kd.S_base ho0) hb); have n3_ := Aside0.mk (Kd.R_below (rz_ (Kd.R_mono (Kd.R_far (p := ⟨gb171, 1, none⟩) (Kd.R_far (p := ⟨gb171, 0, none⟩) (Kd.R_types HO167.out BK171.out (by decide)) (fun _ hk => hk.2) (.slice Ao33 t165.length co33)) (fun _ hk => hk.2) (.slice Ao36 t168.length co36)) (fun _ h_ => h_.1))) hb); have n4_ := Aside0.mk (Kd.R_below (rz_ (Kd.R_mono (Kd.R_far (p := ⟨gb171, 1, none⟩) (Kd.R_far (p := ⟨gb171, 0, none⟩) (Kd.R_types HO170.out BK171.out (by decide)) (fun _ hk => hk.2) (.slice Ao33 t165.length co33)) (fun _ hk => hk.2) (.slice Ao36 t168.length co36)) (fun _ h_ => h_.1))) hb); have n5_ := Aside0.mk (Kd.S_lower (Kd.S_new' ho0 (Kd.S_lt (by (with_reducible repeat (first | apply Kd.S_alloc | apply Kd.S_drewN | apply Kd.S_drew)); exact (Kd.S_mono (Kd.S_far (p := ⟨gb171, 1, none⟩) (Kd.S_far (p := ⟨gb171, 0, none⟩) (Kd.S_types HO162.out BK171.out (by decide)) (fun _ hk => hk.2) (.slice Ao33 t165.length co33)) (fun _ hk => hk.2) (.slice Ao36 t168.length co36)) (fun _ h_ => h_.1))))) (below_size (by repeat (first | (with_reducible first | exact HB.out | apply below_alloc | apply pw_below_drewN | apply below_drew1 | refine below_set ?_ GE151.out | refine below_set ?_ GE171.out) | exact HB.out)))); have n6_ := Aside0.mk (blk_below (g := gb151) (o := .cells #[.slice A0_0 l0_0.length c0_0, .slice A0_1 l0_1.length c0_1] 25 (0, 0)) (by (with_reducible repeat (first | refine blk_drewN ?_ _ | refine blk_drew ?_ | refine blk_alloc ?_ _)); refine blk_far ?_ NB151_171.out _; (with_reducible repeat (first | refine blk_drewN ?_ _ | refine blk_drew ?_ | refine blk_alloc ?_ _)); refine blk_far ?_ NB151_171.out _; (with_reducible repeat (first | refine blk_drewN ?_ _ | refine blk_drew ?_ | refine blk_alloc ?_ _)); exact BK151.out) hb); have n7_ := Aside0.mk (blk_below (g := gb171) (o := .cells #[.slice Ao33 t165.length co33, .slice Ao36 t168.length co36] 33 (0, 0)) (by (with_reducible repeat (first | refine blk_drewN ?_ _ | refine blk_drew ?_ | refine blk_alloc ?_ _)); refine blk_put (cs := #[.slice Ao33 t165.length co33, .slice none 0 0]) ?_ 1 _ rfl; (with_reducible repeat (first | refine blk_drewN ?_ _ | refine blk_drew ?_ | refine blk_alloc ?_ _)); refine blk_put (cs := #[.slice none 0 0, .slice none 0 0]) ?_ 0 _ rfl; (with_reducible repeat (first | refine blk_drewN ?_ _ | refine blk_drew ?_ | refine blk_alloc ?_ _)); exact BK171.out) hb); have n8_ := Aside0.mk (below_step (by repeat (first | (with_reducible first | exact HB.out | apply below_alloc | apply pw_below_drewN | apply below_drew1 | refine below_set ?_ GE151.out | refine below_set ?_ GE171.out) | exact HB.out)) hb); clear HO156; clear HO159; clear HO162; clear HO167; clear HO170; clear BK151; clear BK171; clear HB; have HO156 := n0_; have HO159 := n1_; have HO162 := n2_; have HO167 := n3_; have HO170 := n4_; have HO174 := n5_; have BK151 := n6_; have BK171 := n7_; have HB := n8_; clear n0_ n1_ n2_ n3_ n4_ n5_ n6_ n7_ n8_; (try clear hb); (try clear hb2); (try clear hk); (try clear hi); (try clear ho0); have hcz38_0 : w37.cell? ⟨gb171, 0, none⟩ = some (.slice Ao33 t165.length co33) := (blk_cell BK171.out 0).trans rfl; have hcz38_1 : w37.cell? ⟨gb171, 1, none⟩ = some (.slice Ao36 t168.length co36) := (blk_cell BK171.out 1).trans rfl; have hfz38_0 := blk_frozen BK171.out 0; have hfz38_1 := blk_frozen BK171.out 1; obtain ⟨Ao39, co39, eo39⟩ := Kd.S_slice HO174.out; subst eo39) | ((with_reducible refine gate_callee (f := 21) rfl ?_); refine goesL_ (some 37) rfl rfl Try.func21 (by kernel_rfl) rfl #[.agg #[.slice Ao33 t165.length co33, .slice Ao36 t168.length co36], .slice Ao39 t172.length co39] rfl (by (try simp only [List.map_toArray, List.map_cons, List.map_nil]); first | done | rfl | (simp only [List.length_drop, List.length_take]; rfl)) ?_; (with_reducible refine (impl_CountCrossings.calls _ _ t165 _ _ t168 _ _ t172 t175 t176 _ ?side1 ?side2 ?side3 ?side4 ?side5 ?side6 A18.out).mono ?_); (case side1 => exact cz_ (Kd.R_reads' HO167.out).2.2); (case side2 => exact (Kd.R_reads' HO167.out).2.1); (case side3 => exact cz_ (Kd.R_reads' HO170.out).2.2); (case side4 => exact (Kd.R_reads' HO170.out).2.1); (case side5 => repeat (first | exact (Kd.S_reads' HO174.out).2.2 | (with_reducible refine Kd.C_alloc ?_ _) | (with_reducible refine Kd.C_drewN ?_ _) | (with_reducible refine Kd.C_drew ?_))); (case side6 => exact (Kd.S_reads' HO174.out).2.1); rintro e w40 ⟨rfl, hb⟩; refine ⟨_, rfl, ?_⟩; have n0_ := Aside0.mk (Kd.R_below (rz_ HO156.out) hb); have n1_ := Aside0.mk (Kd.R_below (rz_ HO159.out) hb); have n2_ := Aside0.mk (Kd.S_below (by (with_reducible repeat (first | apply Kd.S_alloc | apply Kd.S_drewN | apply Kd.S_drew)); exact HO162.out) hb); have n3_ := Aside0.mk (Kd.R_below (rz_ HO167.out) hb); have n4_ := Aside0.mk (Kd.R_below (rz_ HO170.out) hb); have n5_ := Aside0.mk (Kd.S_below (by (with_reducible repeat (first | apply Kd.S_alloc | apply Kd.S_drewN | apply Kd.S_drew)); exact HO174.out) hb); have n6_ := Aside0.mk (blk_below (bz_ BK151.out) hb); have n7_ := Aside0.mk (blk_below (bz_ BK171.out) hb); have n8_ := Aside0.mk (below_step (by repeat (first | (with_reducible first | exact HB.out | apply below_alloc | apply pw_below_drewN | apply below_drew1 | refine below_set ?_ GE151.out | refine below_set ?_ GE171.out) | exact HB.out)) hb); clear HO156; clear HO159; clear HO162; clear HO167; clear HO170; clear HO174; clear BK151; clear BK171; clear HB; have HO156 := n0_; have HO159 := n1_; have HO162 := n2_; have HO167 := n3_; have HO170 := n4_; have HO174 := n5_; have BK151 := n6_; have BK171 := n7_; have HB := n8_; clear n0_ n1_ n2_ n3_ n4_ n5_ n6_ n7_ n8_; (try clear hb); (try clear hb2); (try clear hk); (try clear hi)))
   (try simp only [Act.put, List.setIfInBounds_toArray, List.set_cons_zero, List.set_cons_succ])
   go_cut [47] (fun v47 wc => ∃ (kq : Nat) (x47_18 : Bool), v47 = .bool x47_18 ∧ Aside0 (laws_FnExactCountCrossings.j0 kq l1 t172 x47_18 l0_0 l0_1 t165 t168 = some r) ∧ Aside0 (kq ≤ k) ∧ Aside0 (Kd.S (Kd.slice 3 (Kd.int .i64)) 54 wc w.heap.size (fun _ => True) (.slice Ao39 t172.length co39) t172) ∧ Aside0 (Kd.R k108 108 wc w.heap.size (fun _ => True) (.slice Ao33 t165.length co33) t165) ∧ Aside0 (Kd.R k100 100 wc w.heap.size (fun _ => True) (.slice Ao36 t168.length co36) t168) ∧ Aside0 (wc.heap[gb151]? = some (.cells #[(.slice A0_0 l0_0.length c0_0), (.slice A0_1 l0_1.length c0_1)] 25 (0, 0))) ∧ Aside0 (wc.heap[gb171]? = some (.cells #[(.slice Ao33 t165.length co33), (.slice Ao36 t168.length co36)] 33 (0, 0))) ∧ Aside0 (Below w.heap.size w wc))
   case first =>
    have H := HC19.out
    clear HC19
    by_cases c41 : t175 = t163
    ·rw [if_pos c41] at H
     have c41b0 : (t175 == t163) = true := beq_iff_eq.mpr c41
     have c41b1 : (t175 != t163) = false := bne_eq_false_iff_eq.mpr c41
     clear c41
     (first | rw [c41b0] | (simp only [i64_w, i32_w]; rw [c41b0]) | skip)
     have H' := Aside0.mk H
     clear H
     go_wp2
     go_meet
     case rel => exact ⟨_, ((t176 != t164)), (by first | rfl | (simp; done) | (simp [*]; done)), H', ⟨by first | omega | exact Nat.le_refl _⟩, ⟨by (with_reducible repeat (first | apply Kd.S_alloc | apply Kd.S_drewN | apply Kd.S_drew)); exact Kd.S_mono HO174.out (fun _ hk => trivial)⟩, ⟨rz_ (Kd.R_mono HO167.out (fun _ hk => trivial))⟩, ⟨rz_ (Kd.R_mono HO170.out (fun _ hk => trivial))⟩, ⟨bz_ BK151.out⟩, ⟨bz_ BK171.out⟩, ⟨by repeat (first | (with_reducible first | exact HB.out | apply below_alloc | apply pw_below_drewN | apply below_drew1 | refine below_set ?_ GE151.out | refine below_set ?_ GE171.out) | exact HB.out)⟩⟩
    ·rw [if_neg c41] at H
     have c41b0 : (t175 == t163) = false := beq_eq_false_iff_ne.mpr c41
     have c41b1 : (t175 != t163) = true := bne_iff_ne.mpr c41
     (first | rw [c41b0] | (simp only [i64_w, i32_w]; rw [c41b0]) | skip)
     have H' := Aside0.mk H
     clear H
     go_wp2
     go_meet
     case rel => exact ⟨_, (true), (by first | rfl | (simp; done) | (simp [*]; done)), H', ⟨by first | omega | exact Nat.le_refl _⟩, ⟨by (with_reducible repeat (first | apply Kd.S_alloc | apply Kd.S_drewN | apply Kd.S_drew)); exact Kd.S_mono HO174.out (fun _ hk => trivial)⟩, ⟨rz_ (Kd.R_mono HO167.out (fun _ hk => trivial))⟩, ⟨rz_ (Kd.R_mono HO170.out (fun _ hk => trivial))⟩, ⟨bz_ BK151.out⟩, ⟨bz_ BK171.out⟩, ⟨by repeat (first | (with_reducible first | exact HB.out | apply below_alloc | apply pw_below_drewN | apply below_drew1 | refine below_set ?_ GE151.out | refine below_set ?_ GE171.out) | exact HB.out)⟩⟩
   case rest =>
    clear HC19
    try clear c1
    try clear c2
    try clear p2
    try clear c3
    try clear c4
    try clear c4b0
    try clear c9
    try clear c9b0
    try clear c11
    try clear c18
    try clear c19
    try clear c20
    try clear c21
    try clear c34
    try clear c41
    try clear c41b0
    try clear c41b1
    try clear hcz11_0
    try clear hcz11_1
    try clear hcz21_0
    try clear hcz21_1
    try clear hcz23_0
    try clear hcz23_1
    try clear hcz30_0
    try clear hcz30_1
    try clear hcz35_0
    try clear hcz35_1
    try clear hcz38_0
    try clear hcz38_1
    try clear hcz6_0
    try clear hcz6_1
    try clear hfz11_0
    try clear hfz11_1
    try clear hfz21_0
    try clear hfz21_1
    try clear hfz23_0
    try clear hfz23_1
    try clear hfz30_0
    try clear hfz30_1
    try clear hfz35_0
    try clear hfz35_1
    try clear hfz38_0
    try clear hfz38_1
    try clear hfz6_0
    try clear hfz6_1
    obtain ⟨kq, x47_18, rfl, HA, HJ18, HO_9, HO_172000, HO_172001, BK151, BK171, HB⟩ := hcut
    cases kq with
    | zero => exact absurd HA.out (by simp [laws_FnExactCountCrossings.j0])
    | succ kj18 =>
     have H := HA.out
     clear HA
     simp only [laws_FnExactCountCrossings.j0] at H
     by_cases c42 : x47_18 = true
     ·subst c42
      have H1 : (some false) = some r := by rw [if_pos rfl] at H; exact H
      clear H
      have H := H1
      clear H1
      obtain rfl := Option.some.inj H
      go_wp2
      go_ret
      exact ⟨by first | rfl | (simp [errW_none, errW_some] <;> rfl) | (simp [*, errW_none, errW_some] <;> rfl), by repeat (first | (with_reducible first | exact HB.out | apply below_alloc | apply pw_below_drewN | apply below_drew1 | refine below_set ?_ GE151.out | refine below_set ?_ GE171.out) | exact HB.out)⟩
     ·replace c42 := Bool.eq_false_iff.mpr c42
      subst c42
      have H1 : ((laws_toRecord.f kj18 l0_0 l0_1).bind fun bt177 => ((laws_eqRecord.f kj18 t165 t168 bt177.1 bt177.2).bind fun t183 => (if t183 = true then ((laws_toIntSS.f kj18 l1).bind fun t184 => ((laws_eqIntSS.f kj18 t172 t184).bind fun t187 => (if t187 = true then (some true) else (some false)))) else (some false)))) = some r := by rw [if_neg (show ¬ (false = true) by decide)] at H; exact H
      clear H
      have H := H1
      clear H1
      replace H := Option.bind_eq_some_iff.mp H
      obtain ⟨⟨t177, t180⟩, A430, H⟩ := H
      replace H : ((laws_eqRecord.f kj18 t165 t168 t177 t180).bind fun t183 => (if t183 = true then ((laws_toIntSS.f kj18 l1).bind fun t184 => ((laws_eqIntSS.f kj18 t172 t184).bind fun t187 => (if t187 = true then (some true) else (some false)))) else (some false))) = some r := H
      have A43 := Aside0.mk A430
      clear A430
      replace H := Option.bind_eq_some_iff.mp H
      obtain ⟨t183, A440, H⟩ := H
      replace H : (if t183 = true then ((laws_toIntSS.f kj18 l1).bind fun t184 => ((laws_eqIntSS.f kj18 t172 t184).bind fun t187 => (if t187 = true then (some true) else (some false)))) else (some false)) = some r := H
      have A44 := Aside0.mk A440
      clear A440
      by_cases c45 : t183 = true
      ·subst c45
       have H1 : ((laws_toIntSS.f kj18 l1).bind fun t184 => ((laws_eqIntSS.f kj18 t172 t184).bind fun t187 => (if t187 = true then (some true) else (some false)))) = some r := by rw [if_pos rfl] at H; exact H
       clear H
       have H := H1
       clear H1
       replace H := Option.bind_eq_some_iff.mp H
       obtain ⟨t184, A460, H⟩ := H
       replace H : ((laws_eqIntSS.f kj18 t172 t184).bind fun t187 => (if t187 = true then (some true) else (some false))) = some r := H
       have A46 := Aside0.mk A460
       clear A460
       replace H := Option.bind_eq_some_iff.mp H
       obtain ⟨t187, A470, H⟩ := H
       replace H : (if t187 = true then (some true) else (some false)) = some r := H
       have A47 := Aside0.mk A470
       clear A470
       by_cases c48 : t187 = true
       ·subst c48
        have H1 : (some true) = some r := by rw [if_pos rfl] at H; exact H
        clear H
        have H := H1
        clear H1
        obtain rfl := Option.some.inj H
        try go_wp2
        have n0_ := Aside0.mk (Kd.S_drew HO_9.out)
        have n1_ := Aside0.mk (Kd.R_drew HO_172000.out)
        have n2_ := Aside0.mk (Kd.R_drew HO_172001.out)
        have n3_ := Aside0.mk (blk_drew BK151.out)
        have n4_ := Aside0.mk (blk_drew BK171.out)
        have n5_ := Aside0.mk (below_drew1 HB.out)
        clear HO_9
        clear HO_172000
        clear HO_172001
        clear BK151
        clear BK171
        clear HB
        have HO_9 := n0_
        have HO_172000 := n1_
        have HO_172001 := n2_
        have BK151 := n3_
        have BK171 := n4_
        have HB := n5_
        clear n0_ n1_ n2_ n3_ n4_ n5_
        refine start_ (n := 5) (S := fun w' => w'.cell? ⟨gb171, 0, none⟩ = some (.slice Ao33 t165.length co33) ∧ w'.cell? ⟨gb171, 1, none⟩ = some (.slice Ao36 t168.length co36) ∧ w'.cell? ⟨gb151, 0, none⟩ = some (.slice A0_0 l0_0.length c0_0) ∧ w'.cell? ⟨gb151, 1, none⟩ = some (.slice A0_1 l0_1.length c0_1)) (ds := []) #[false, false, false, false, false] (by kernel_rfl) rfl rfl ⟨(blk_cell BK171.out 0).trans rfl, (blk_cell BK171.out 1).trans rfl, (blk_cell BK151.out 0).trans rfl, (blk_cell BK151.out 1).trans rfl⟩ (fun hHeld => ?_)
        generalize wc.drew = w49 at HO_9 HO_172000 HO_172001 BK151 BK171 HB hHeld ⊢
        refine take_ (i := 0) (N := some 48) (v := ?_) (a' := ?_) #[true, false, false, false, false] rfl rfl (by kernel_rfl) (fun _ _ _ h => h) (Or.inl ⟨by rfl, ?_⟩) hHeld ?_ ?_
        rotate_left
        ·rintro w' ⟨s0, s1, s2, s3⟩
         go_simp
         with_reducible rfl
        rotate_left
        ·simp only [Act.put, List.setIfInBounds_toArray, List.set_cons_zero, List.set_cons_succ, i64_w, i32_w]
         rfl
        refine take_ (i := 1) (N := some 49) (v := ?_) (a' := ?_) #[true, true, false, false, false] rfl rfl (by kernel_rfl) (fun _ _ _ h => h) (Or.inl ⟨by rfl, ?_⟩) hHeld ?_ ?_
        rotate_left
        ·rintro w' ⟨s0, s1, s2, s3⟩
         go_simp
         with_reducible rfl
        rotate_left
        ·simp only [Act.put, List.setIfInBounds_toArray, List.set_cons_zero, List.set_cons_succ, i64_w, i32_w]
         rfl
        refine one_ (i := 2) (N := some 50) (bl 3 5) rfl rfl (by kernel_rfl) (by decide) (fun K hK => ?_)
        refine goes_ Try.func11 (by kernel_rfl) rfl #[.agg #[.slice A0_0 l0_0.length c0_0, .slice A0_1 l0_1.length c0_1]] (by rfl) rfl rfl (by (try simp only [List.map_toArray, List.map_cons, List.map_nil]); first | done | rfl | (simp only [List.length_drop, List.length_take]; rfl)) ?_
        with_reducible refine (laws_toRecord.calls kj18 _ _ l0_0 _ _ l0_1 t177 t180 _ ?side1 ?side2 ?side3 ?side4 A43.out).mono ?_
        (case side1 => exact cz_ (Kd.C_below HR0_0.out HB.out))
        (case side2 => exact HC0_0.out)
        (case side3 => exact cz_ (Kd.C_below HR0_1.out HB.out))
        (case side4 => exact HC0_1.out)
        rintro e w50 ⟨v178, v181, rfl, ho0, ho1, hb⟩
        refine ⟨_, rfl, ?_⟩
        have n0_ := Aside0.mk (Kd.S_below (by (with_reducible repeat (first | apply Kd.S_alloc | apply Kd.S_drewN | apply Kd.S_drew)); exact HO_9.out) hb)
        have n1_ := Aside0.mk (Kd.R_elder' (rz_ HO_172000.out) (Kd.R_base ho0) hb)
        have n2_ := Aside0.mk (Kd.R_elder' (rz_ HO_172001.out) (Kd.R_base ho1) hb)
        have n3_ := Aside0.mk (Kd.R_lower (Kd.R_new' ho0 (Kd.R_lt (rz_ HO_172000.out))) (below_size (by repeat (first | (with_reducible first | exact HB.out | apply below_alloc | apply pw_below_drewN | apply below_drew1 | refine below_set ?_ GE151.out | refine below_set ?_ GE171.out) | exact HB.out))))
        have n4_ := Aside0.mk (Kd.R_lower (Kd.R_new' ho1 (Kd.R_lt (rz_ HO_172001.out))) (below_size (by repeat (first | (with_reducible first | exact HB.out | apply below_alloc | apply pw_below_drewN | apply below_drew1 | refine below_set ?_ GE151.out | refine below_set ?_ GE171.out) | exact HB.out))))
        have n5_ := Aside0.mk (blk_below (bz_ BK151.out) hb)
        have n6_ := Aside0.mk (blk_below (bz_ BK171.out) hb)
        have n7_ := Aside0.mk (below_step (by repeat (first | (with_reducible first | exact HB.out | apply below_alloc | apply pw_below_drewN | apply below_drew1 | refine below_set ?_ GE151.out | refine below_set ?_ GE171.out) | exact HB.out)) hb)
        clear HO_9
        clear HO_172000
        clear HO_172001
        clear BK151
        clear BK171
        clear HB
        have HO_9 := n0_
        have HO_172000 := n1_
        have HO_172001 := n2_
        have HO179 := n3_
        have HO182 := n4_
        have BK151 := n5_
        have BK171 := n6_
        have HB := n7_
        clear n0_ n1_ n2_ n3_ n4_ n5_ n6_ n7_
        (try clear hb)
        (try clear hb2)
        (try clear hk)
        (try clear hi)
        (try clear ho0)
        (try clear ho1)
        obtain ⟨Ao51, co51, eo51⟩ := Kd.R_slice HO179.out
        (first | subst eo51 | (injection eo51 with f1_ f2_ f3_; have f4_ := f1_.symm; have f5_ := f3_.symm; clear f1_ f2_ f3_; subst f4_; subst f5_))
        obtain ⟨Ao52, co52, eo52⟩ := Kd.R_slice HO182.out
        (first | subst eo52 | (injection eo52 with f1_ f2_ f3_; have f4_ := f1_.symm; have f5_ := f3_.symm; clear f1_ f2_ f3_; subst f4_; subst f5_))
        refine hK.out _ _ ⟨(blk_cell BK171.out 0).trans rfl, (blk_cell BK171.out 1).trans rfl, (blk_cell BK151.out 0).trans rfl, (blk_cell BK151.out 1).trans rfl⟩ (fun hHeld => ?_)
        clear hK K
        refine norm_ (a' := ?_) ?_ ?_
        rotate_left
        ·show Act.put _ (some 50) _ = _
         simp only [Act.put, List.setIfInBounds_toArray, List.set_cons_zero, List.set_cons_succ, i64_w, i32_w]
         rfl
        refine one_ (i := 3) (N := some 51) (bl 4 5) rfl rfl (by kernel_rfl) (by decide) (fun K hK => ?_)
        refine goes_ Try.func14 (by kernel_rfl) rfl #[.agg #[.slice Ao33 t165.length co33, .slice Ao36 t168.length co36], .agg #[.slice Ao51 t177.length co51, .slice Ao52 t180.length co52]] (by rfl) rfl rfl (by (try simp only [List.map_toArray, List.map_cons, List.map_nil]); first | done | rfl | (simp only [List.length_drop, List.length_take]; rfl)) ?_
        with_reducible refine (laws_eqRecord.calls kj18 _ _ t165 _ _ t168 _ _ t177 _ _ t180 true _ ?side1 ?side2 ?side3 ?side4 ?side5 ?side6 ?side7 ?side8 A44.out).mono ?_
        (case side1 => exact cz_ (Kd.R_reads' HO_172000.out).2.2)
        (case side2 => exact (Kd.R_reads' HO_172000.out).2.1)
        (case side3 => exact cz_ (Kd.R_reads' HO_172001.out).2.2)
        (case side4 => exact (Kd.R_reads' HO_172001.out).2.1)
        (case side5 => exact cz_ (Kd.R_reads' HO179.out).2.2)
        (case side6 => exact (Kd.R_reads' HO179.out).2.1)
        (case side7 => exact cz_ (Kd.R_reads' HO182.out).2.2)
        (case side8 => exact (Kd.R_reads' HO182.out).2.1)
        rintro e w53 ⟨rfl, hb⟩
        refine ⟨_, rfl, ?_⟩
        have n0_ := Aside0.mk (Kd.S_below (by (with_reducible repeat (first | apply Kd.S_alloc | apply Kd.S_drewN | apply Kd.S_drew)); exact HO_9.out) hb)
        have n1_ := Aside0.mk (Kd.R_below (rz_ HO_172000.out) hb)
        have n2_ := Aside0.mk (Kd.R_below (rz_ HO_172001.out) hb)
        have n3_ := Aside0.mk (Kd.R_below (rz_ HO179.out) hb)
        have n4_ := Aside0.mk (Kd.R_below (rz_ HO182.out) hb)
        have n5_ := Aside0.mk (blk_below (bz_ BK151.out) hb)
        have n6_ := Aside0.mk (blk_below (bz_ BK171.out) hb)
        have n7_ := Aside0.mk (below_step (by repeat (first | (with_reducible first | exact HB.out | apply below_alloc | apply pw_below_drewN | apply below_drew1 | refine below_set ?_ GE151.out | refine below_set ?_ GE171.out) | exact HB.out)) hb)
        clear HO_9
        clear HO_172000
        clear HO_172001
        clear HO179
        clear HO182
        clear BK151
        clear BK171
        clear HB
        have HO_9 := n0_
        have HO_172000 := n1_
        have HO_172001 := n2_
        have HO179 := n3_
        have HO182 := n4_
        have BK151 := n5_
        have BK171 := n6_
        have HB := n7_
        clear n0_ n1_ n2_ n3_ n4_ n5_ n6_ n7_
        (try clear hb)
        (try clear hb2)
        (try clear hk)
        (try clear hi)
        refine hK.out _ _ ⟨(blk_cell BK171.out 0).trans rfl, (blk_cell BK171.out 1).trans rfl, (blk_cell BK151.out 0).trans rfl, (blk_cell BK151.out 1).trans rfl⟩ (fun hHeld => ?_)
        clear hK K
        refine norm_ (a' := ?_) ?_ ?_
        rotate_left
        ·show Act.put _ (some 51) _ = _
         simp only [Act.put, List.setIfInBounds_toArray, List.set_cons_zero, List.set_cons_succ, i64_w, i32_w]
         rfl
        refine pure_ (i := 4) (N := some 52) (v := ?_) (a' := ?_) #[true, true, true, true, true] rfl rfl (by kernel_rfl) (fun _ _ _ h => h) (Or.inl ⟨by rfl, ?_⟩) ?_ ?_
        rotate_left
        ·intro w'
         go_simp
         with_reducible rfl
        rotate_left
        ·simp only [Act.put, List.setIfInBounds_toArray, List.set_cons_zero, List.set_cons_succ, i64_w, i32_w]
         rfl
        refine done_ (by kernel_rfl) ?_
        try go_wp2_with (first | ((with_reducible refine gate_callee (f := 20) rfl ?_); refine goesL_ (some 55) rfl rfl Try.func20 (by kernel_rfl) rfl #[.slice A1 l1.length c1] rfl (by (try simp only [List.map_toArray, List.map_cons, List.map_nil]); first | done | rfl | (simp only [List.length_drop, List.length_take]; rfl)) ?_; (with_reducible refine (laws_toIntSS.calls kj18 _ _ l1 t184 _ ?side1 ?side2 A46.out).mono ?_); (case side1 => exact cz_ (Kd.C_below HR1.out HB.out)); (case side2 => exact HC1.out); rintro e w54 ⟨v185, rfl, ho0, hb⟩; refine ⟨_, rfl, ?_⟩; have n0_ := Aside0.mk (Kd.S_elder' (by (with_reducible repeat (first | apply Kd.S_alloc | apply Kd.S_drewN | apply Kd.S_drew)); exact HO_9.out) (Kd.S_base ho0) hb); have n1_ := Aside0.mk (Kd.R_below (rz_ HO_172000.out) hb); have n2_ := Aside0.mk (Kd.R_below (rz_ HO_172001.out) hb); have n3_ := Aside0.mk (Kd.R_below (rz_ HO179.out) hb); have n4_ := Aside0.mk (Kd.R_below (rz_ HO182.out) hb); have n5_ := Aside0.mk (Kd.S_lower (Kd.S_new' ho0 (Kd.S_lt (by (with_reducible repeat (first | apply Kd.S_alloc | apply Kd.S_drewN | apply Kd.S_drew)); exact HO_9.out))) (below_size (by repeat (first | (with_reducible first | exact HB.out | apply below_alloc | apply pw_below_drewN | apply below_drew1 | refine below_set ?_ GE151.out | refine below_set ?_ GE171.out) | exact HB.out)))); have n6_ := Aside0.mk (blk_below (bz_ BK151.out) hb); have n7_ := Aside0.mk (blk_below (bz_ BK171.out) hb); have n8_ := Aside0.mk (below_step (by repeat (first | (with_reducible first | exact HB.out | apply below_alloc | apply pw_below_drewN | apply below_drew1 | refine below_set ?_ GE151.out | refine below_set ?_ GE171.out) | exact HB.out)) hb); clear HO_9; clear HO_172000; clear HO_172001; clear HO179; clear HO182; clear BK151; clear BK171; clear HB; have HO_9 := n0_; have HO_172000 := n1_; have HO_172001 := n2_; have HO179 := n3_; have HO182 := n4_; have HO186 := n5_; have BK151 := n6_; have BK171 := n7_; have HB := n8_; clear n0_ n1_ n2_ n3_ n4_ n5_ n6_ n7_ n8_; (try clear hb); (try clear hb2); (try clear hk); (try clear hi); (try clear ho0); obtain ⟨Ao55, co55, eo55⟩ := Kd.S_slice HO186.out; subst eo55) | ((with_reducible refine gate_callee (f := 13) rfl ?_); refine goesL_ (some 56) rfl rfl Try.func13 (by kernel_rfl) rfl #[.slice Ao39 t172.length co39, .slice Ao55 t184.length co55] rfl (by (try simp only [List.map_toArray, List.map_cons, List.map_nil]); first | done | rfl | (simp only [List.length_drop, List.length_take]; rfl)) ?_; (with_reducible refine (laws_eqIntSS.calls kj18 _ _ t172 _ _ t184 true _ ?side1 ?side2 ?side3 ?side4 A47.out).mono ?_); (case side1 => repeat (first | exact (Kd.S_reads' HO_9.out).2.2 | (with_reducible refine Kd.C_alloc ?_ _) | (with_reducible refine Kd.C_drewN ?_ _) | (with_reducible refine Kd.C_drew ?_))); (case side2 => exact (Kd.S_reads' HO_9.out).2.1); (case side3 => repeat (first | exact (Kd.S_reads' HO186.out).2.2 | (with_reducible refine Kd.C_alloc ?_ _) | (with_reducible refine Kd.C_drewN ?_ _) | (with_reducible refine Kd.C_drew ?_))); (case side4 => exact (Kd.S_reads' HO186.out).2.1); rintro e w' ⟨rfl, ⟨nd, rfl⟩⟩; refine ⟨_, rfl, ?_⟩))
        go_ret
        exact ⟨by first | rfl | (simp [errW_none, errW_some] <;> rfl) | (simp [*, errW_none, errW_some] <;> rfl), by repeat (first | (with_reducible first | exact HB.out | apply below_alloc | apply pw_below_drewN | apply below_drew1 | refine below_set ?_ GE151.out | refine below_set ?_ GE171.out) | exact HB.out)⟩
       ·replace c48 := Bool.eq_false_iff.mpr c48
        subst c48
        have H1 : (some false) = some r := by rw [if_neg (show ¬ (false = true) by decide)] at H; exact H
        clear H
        have H := H1
        clear H1
        obtain rfl := Option.some.inj H
        try go_wp2
        have n0_ := Aside0.mk (Kd.S_drew HO_9.out)
        have n1_ := Aside0.mk (Kd.R_drew HO_172000.out)
        have n2_ := Aside0.mk (Kd.R_drew HO_172001.out)
        have n3_ := Aside0.mk (blk_drew BK151.out)
        have n4_ := Aside0.mk (blk_drew BK171.out)
        have n5_ := Aside0.mk (below_drew1 HB.out)
        clear HO_9
        clear HO_172000
        clear HO_172001
        clear BK151
        clear BK171
        clear HB
        have HO_9 := n0_
        have HO_172000 := n1_
        have HO_172001 := n2_
        have BK151 := n3_
        have BK171 := n4_
        have HB := n5_
        clear n0_ n1_ n2_ n3_ n4_ n5_
        refine start_ (n := 5) (S := fun w' => w'.cell? ⟨gb171, 0, none⟩ = some (.slice Ao33 t165.length co33) ∧ w'.cell? ⟨gb171, 1, none⟩ = some (.slice Ao36 t168.length co36) ∧ w'.cell? ⟨gb151, 0, none⟩ = some (.slice A0_0 l0_0.length c0_0) ∧ w'.cell? ⟨gb151, 1, none⟩ = some (.slice A0_1 l0_1.length c0_1)) (ds := []) #[false, false, false, false, false] (by kernel_rfl) rfl rfl ⟨(blk_cell BK171.out 0).trans rfl, (blk_cell BK171.out 1).trans rfl, (blk_cell BK151.out 0).trans rfl, (blk_cell BK151.out 1).trans rfl⟩ (fun hHeld => ?_)
        generalize wc.drew = w56 at HO_9 HO_172000 HO_172001 BK151 BK171 HB hHeld ⊢
        refine take_ (i := 0) (N := some 48) (v := ?_) (a' := ?_) #[true, false, false, false, false] rfl rfl (by kernel_rfl) (fun _ _ _ h => h) (Or.inl ⟨by rfl, ?_⟩) hHeld ?_ ?_
        rotate_left
        ·rintro w' ⟨s0, s1, s2, s3⟩
         go_simp
         with_reducible rfl
        rotate_left
        ·simp only [Act.put, List.setIfInBounds_toArray, List.set_cons_zero, List.set_cons_succ, i64_w, i32_w]
         rfl
        refine take_ (i := 1) (N := some 49) (v := ?_) (a' := ?_) #[true, true, false, false, false] rfl rfl (by kernel_rfl) (fun _ _ _ h => h) (Or.inl ⟨by rfl, ?_⟩) hHeld ?_ ?_
        rotate_left
        ·rintro w' ⟨s0, s1, s2, s3⟩
         go_simp
         with_reducible rfl
        rotate_left
        ·simp only [Act.put, List.setIfInBounds_toArray, List.set_cons_zero, List.set_cons_succ, i64_w, i32_w]
         rfl
        refine one_ (i := 2) (N := some 50) (bl 3 5) rfl rfl (by kernel_rfl) (by decide) (fun K hK => ?_)
        refine goes_ Try.func11 (by kernel_rfl) rfl #[.agg #[.slice A0_0 l0_0.length c0_0, .slice A0_1 l0_1.length c0_1]] (by rfl) rfl rfl (by (try simp only [List.map_toArray, List.map_cons, List.map_nil]); first | done | rfl | (simp only [List.length_drop, List.length_take]; rfl)) ?_
        with_reducible refine (laws_toRecord.calls kj18 _ _ l0_0 _ _ l0_1 t177 t180 _ ?side1 ?side2 ?side3 ?side4 A43.out).mono ?_
        (case side1 => exact cz_ (Kd.C_below HR0_0.out HB.out))
        (case side2 => exact HC0_0.out)
        (case side3 => exact cz_ (Kd.C_below HR0_1.out HB.out))
        (case side4 => exact HC0_1.out)
        rintro e w57 ⟨v178, v181, rfl, ho0, ho1, hb⟩
        refine ⟨_, rfl, ?_⟩
        have n0_ := Aside0.mk (Kd.S_below (by (with_reducible repeat (first | apply Kd.S_alloc | apply Kd.S_drewN | apply Kd.S_drew)); exact HO_9.out) hb)
        have n1_ := Aside0.mk (Kd.R_elder' (rz_ HO_172000.out) (Kd.R_base ho0) hb)
        have n2_ := Aside0.mk (Kd.R_elder' (rz_ HO_172001.out) (Kd.R_base ho1) hb)
        have n3_ := Aside0.mk (Kd.R_lower (Kd.R_new' ho0 (Kd.R_lt (rz_ HO_172000.out))) (below_size (by repeat (first | (with_reducible first | exact HB.out | apply below_alloc | apply pw_below_drewN | apply below_drew1 | refine below_set ?_ GE151.out | refine below_set ?_ GE171.out) | exact HB.out))))
        have n4_ := Aside0.mk (Kd.R_lower (Kd.R_new' ho1 (Kd.R_lt (rz_ HO_172001.out))) (below_size (by repeat (first | (with_reducible first | exact HB.out | apply below_alloc | apply pw_below_drewN | apply below_drew1 | refine below_set ?_ GE151.out | refine below_set ?_ GE171.out) | exact HB.out))))
        have n5_ := Aside0.mk (blk_below (bz_ BK151.out) hb)
        have n6_ := Aside0.mk (blk_below (bz_ BK171.out) hb)
        have n7_ := Aside0.mk (below_step (by repeat (first | (with_reducible first | exact HB.out | apply below_alloc | apply pw_below_drewN | apply below_drew1 | refine below_set ?_ GE151.out | refine below_set ?_ GE171.out) | exact HB.out)) hb)
        clear HO_9
        clear HO_172000
        clear HO_172001
        clear BK151
        clear BK171
        clear HB
        have HO_9 := n0_
        have HO_172000 := n1_
        have HO_172001 := n2_
        have HO179 := n3_
        have HO182 := n4_
        have BK151 := n5_
        have BK171 := n6_
        have HB := n7_
        clear n0_ n1_ n2_ n3_ n4_ n5_ n6_ n7_
        (try clear hb)
        (try clear hb2)
        (try clear hk)
        (try clear hi)
        (try clear ho0)
        (try clear ho1)
        obtain ⟨Ao58, co58, eo58⟩ := Kd.R_slice HO179.out
        (first | subst eo58 | (injection eo58 with f1_ f2_ f3_; have f4_ := f1_.symm; have f5_ := f3_.symm; clear f1_ f2_ f3_; subst f4_; subst f5_))
        obtain ⟨Ao59, co59, eo59⟩ := Kd.R_slice HO182.out
        (first | subst eo59 | (injection eo59 with f1_ f2_ f3_; have f4_ := f1_.symm; have f5_ := f3_.symm; clear f1_ f2_ f3_; subst f4_; subst f5_))
        refine hK.out _ _ ⟨(blk_cell BK171.out 0).trans rfl, (blk_cell BK171.out 1).trans rfl, (blk_cell BK151.out 0).trans rfl, (blk_cell BK151.out 1).trans rfl⟩ (fun hHeld => ?_)
        clear hK K
        refine norm_ (a' := ?_) ?_ ?_
        rotate_left
        ·show Act.put _ (some 50) _ = _
         simp only [Act.put, List.setIfInBounds_toArray, List.set_cons_zero, List.set_cons_succ, i64_w, i32_w]
         rfl
        refine one_ (i := 3) (N := some 51) (bl 4 5) rfl rfl (by kernel_rfl) (by decide) (fun K hK => ?_)
        refine goes_ Try.func14 (by kernel_rfl) rfl #[.agg #[.slice Ao33 t165.length co33, .slice Ao36 t168.length co36], .agg #[.slice Ao58 t177.length co58, .slice Ao59 t180.length co59]] (by rfl) rfl rfl (by (try simp only [List.map_toArray, List.map_cons, List.map_nil]); first | done | rfl | (simp only [List.length_drop, List.length_take]; rfl)) ?_
        with_reducible refine (laws_eqRecord.calls kj18 _ _ t165 _ _ t168 _ _ t177 _ _ t180 true _ ?side1 ?side2 ?side3 ?side4 ?side5 ?side6 ?side7 ?side8 A44.out).mono ?_
        (case side1 => exact cz_ (Kd.R_reads' HO_172000.out).2.2)
        (case side2 => exact (Kd.R_reads' HO_172000.out).2.1)
        (case side3 => exact cz_ (Kd.R_reads' HO_172001.out).2.2)
        (case side4 => exact (Kd.R_reads' HO_172001.out).2.1)
        (case side5 => exact cz_ (Kd.R_reads' HO179.out).2.2)
        (case side6 => exact (Kd.R_reads' HO179.out).2.1)
        (case side7 => exact cz_ (Kd.R_reads' HO182.out).2.2)
        (case side8 => exact (Kd.R_reads' HO182.out).2.1)
        rintro e w60 ⟨rfl, hb⟩
        refine ⟨_, rfl, ?_⟩
        have n0_ := Aside0.mk (Kd.S_below (by (with_reducible repeat (first | apply Kd.S_alloc | apply Kd.S_drewN | apply Kd.S_drew)); exact HO_9.out) hb)
        have n1_ := Aside0.mk (Kd.R_below (rz_ HO_172000.out) hb)
        have n2_ := Aside0.mk (Kd.R_below (rz_ HO_172001.out) hb)
        have n3_ := Aside0.mk (Kd.R_below (rz_ HO179.out) hb)
        have n4_ := Aside0.mk (Kd.R_below (rz_ HO182.out) hb)
        have n5_ := Aside0.mk (blk_below (bz_ BK151.out) hb)
        have n6_ := Aside0.mk (blk_below (bz_ BK171.out) hb)
        have n7_ := Aside0.mk (below_step (by repeat (first | (with_reducible first | exact HB.out | apply below_alloc | apply pw_below_drewN | apply below_drew1 | refine below_set ?_ GE151.out | refine below_set ?_ GE171.out) | exact HB.out)) hb)
        clear HO_9
        clear HO_172000
        clear HO_172001
        clear HO179
        clear HO182
        clear BK151
        clear BK171
        clear HB
        have HO_9 := n0_
        have HO_172000 := n1_
        have HO_172001 := n2_
        have HO179 := n3_
        have HO182 := n4_
        have BK151 := n5_
        have BK171 := n6_
        have HB := n7_
        clear n0_ n1_ n2_ n3_ n4_ n5_ n6_ n7_
        (try clear hb)
        (try clear hb2)
        (try clear hk)
        (try clear hi)
        refine hK.out _ _ ⟨(blk_cell BK171.out 0).trans rfl, (blk_cell BK171.out 1).trans rfl, (blk_cell BK151.out 0).trans rfl, (blk_cell BK151.out 1).trans rfl⟩ (fun hHeld => ?_)
        clear hK K
        refine norm_ (a' := ?_) ?_ ?_
        rotate_left
        ·show Act.put _ (some 51) _ = _
         simp only [Act.put, List.setIfInBounds_toArray, List.set_cons_zero, List.set_cons_succ, i64_w, i32_w]
         rfl
        refine pure_ (i := 4) (N := some 52) (v := ?_) (a' := ?_) #[true, true, true, true, true] rfl rfl (by kernel_rfl) (fun _ _ _ h => h) (Or.inl ⟨by rfl, ?_⟩) ?_ ?_
        rotate_left
        ·intro w'
         go_simp
         with_reducible rfl
        rotate_left
        ·simp only [Act.put, List.setIfInBounds_toArray, List.set_cons_zero, List.set_cons_succ, i64_w, i32_w]
         rfl
        refine done_ (by kernel_rfl) ?_
        try go_wp2_with (first | ((with_reducible refine gate_callee (f := 20) rfl ?_); refine goesL_ (some 55) rfl rfl Try.func20 (by kernel_rfl) rfl #[.slice A1 l1.length c1] rfl (by (try simp only [List.map_toArray, List.map_cons, List.map_nil]); first | done | rfl | (simp only [List.length_drop, List.length_take]; rfl)) ?_; (with_reducible refine (laws_toIntSS.calls kj18 _ _ l1 t184 _ ?side1 ?side2 A46.out).mono ?_); (case side1 => exact cz_ (Kd.C_below HR1.out HB.out)); (case side2 => exact HC1.out); rintro e w61 ⟨v185, rfl, ho0, hb⟩; refine ⟨_, rfl, ?_⟩; have n0_ := Aside0.mk (Kd.S_elder' (by (with_reducible repeat (first | apply Kd.S_alloc | apply Kd.S_drewN | apply Kd.S_drew)); exact HO_9.out) (Kd.S_base ho0) hb); have n1_ := Aside0.mk (Kd.R_below (rz_ HO_172000.out) hb); have n2_ := Aside0.mk (Kd.R_below (rz_ HO_172001.out) hb); have n3_ := Aside0.mk (Kd.R_below (rz_ HO179.out) hb); have n4_ := Aside0.mk (Kd.R_below (rz_ HO182.out) hb); have n5_ := Aside0.mk (Kd.S_lower (Kd.S_new' ho0 (Kd.S_lt (by (with_reducible repeat (first | apply Kd.S_alloc | apply Kd.S_drewN | apply Kd.S_drew)); exact HO_9.out))) (below_size (by repeat (first | (with_reducible first | exact HB.out | apply below_alloc | apply pw_below_drewN | apply below_drew1 | refine below_set ?_ GE151.out | refine below_set ?_ GE171.out) | exact HB.out)))); have n6_ := Aside0.mk (blk_below (bz_ BK151.out) hb); have n7_ := Aside0.mk (blk_below (bz_ BK171.out) hb); have n8_ := Aside0.mk (below_step (by repeat (first | (with_reducible first | exact HB.out | apply below_alloc | apply pw_below_drewN | apply below_drew1 | refine below_set ?_ GE151.out | refine below_set ?_ GE171.out) | exact HB.out)) hb); clear HO_9; clear HO_172000; clear HO_172001; clear HO179; clear HO182; clear BK151; clear BK171; clear HB; have HO_9 := n0_; have HO_172000 := n1_; have HO_172001 := n2_; have HO179 := n3_; have HO182 := n4_; have HO186 := n5_; have BK151 := n6_; have BK171 := n7_; have HB := n8_; clear n0_ n1_ n2_ n3_ n4_ n5_ n6_ n7_ n8_; (try clear hb); (try clear hb2); (try clear hk); (try clear hi); (try clear ho0); obtain ⟨Ao62, co62, eo62⟩ := Kd.S_slice HO186.out; subst eo62) | ((with_reducible refine gate_callee (f := 13) rfl ?_); refine goesL_ (some 56) rfl rfl Try.func13 (by kernel_rfl) rfl #[.slice Ao39 t172.length co39, .slice Ao62 t184.length co62] rfl (by (try simp only [List.map_toArray, List.map_cons, List.map_nil]); first | done | rfl | (simp only [List.length_drop, List.length_take]; rfl)) ?_; (with_reducible refine (laws_eqIntSS.calls kj18 _ _ t172 _ _ t184 false _ ?side1 ?side2 ?side3 ?side4 A47.out).mono ?_); (case side1 => repeat (first | exact (Kd.S_reads' HO_9.out).2.2 | (with_reducible refine Kd.C_alloc ?_ _) | (with_reducible refine Kd.C_drewN ?_ _) | (with_reducible refine Kd.C_drew ?_))); (case side2 => exact (Kd.S_reads' HO_9.out).2.1); (case side3 => repeat (first | exact (Kd.S_reads' HO186.out).2.2 | (with_reducible refine Kd.C_alloc ?_ _) | (with_reducible refine Kd.C_drewN ?_ _) | (with_reducible refine Kd.C_drew ?_))); (case side4 => exact (Kd.S_reads' HO186.out).2.1); rintro e w' ⟨rfl, ⟨nd, rfl⟩⟩; refine ⟨_, rfl, ?_⟩))
        go_ret
        exact ⟨by first | rfl | (simp [errW_none, errW_some] <;> rfl) | (simp [*, errW_none, errW_some] <;> rfl), by repeat (first | (with_reducible first | exact HB.out | apply below_alloc | apply pw_below_drewN | apply below_drew1 | refine below_set ?_ GE151.out | refine below_set ?_ GE171.out) | exact HB.out)⟩
      ·replace c45 := Bool.eq_false_iff.mpr c45
       subst c45
       have H1 : (some false) = some r := by rw [if_neg (show ¬ (false = true) by decide)] at H; exact H
       clear H
       have H := H1
       clear H1
       obtain rfl := Option.some.inj H
       try go_wp2
       have n0_ := Aside0.mk (Kd.S_drew HO_9.out)
       have n1_ := Aside0.mk (Kd.R_drew HO_172000.out)
       have n2_ := Aside0.mk (Kd.R_drew HO_172001.out)
       have n3_ := Aside0.mk (blk_drew BK151.out)
       have n4_ := Aside0.mk (blk_drew BK171.out)
       have n5_ := Aside0.mk (below_drew1 HB.out)
       clear HO_9
       clear HO_172000
       clear HO_172001
       clear BK151
       clear BK171
       clear HB
       have HO_9 := n0_
       have HO_172000 := n1_
       have HO_172001 := n2_
       have BK151 := n3_
       have BK171 := n4_
       have HB := n5_
       clear n0_ n1_ n2_ n3_ n4_ n5_
       refine start_ (n := 5) (S := fun w' => w'.cell? ⟨gb171, 0, none⟩ = some (.slice Ao33 t165.length co33) ∧ w'.cell? ⟨gb171, 1, none⟩ = some (.slice Ao36 t168.length co36) ∧ w'.cell? ⟨gb151, 0, none⟩ = some (.slice A0_0 l0_0.length c0_0) ∧ w'.cell? ⟨gb151, 1, none⟩ = some (.slice A0_1 l0_1.length c0_1)) (ds := []) #[false, false, false, false, false] (by kernel_rfl) rfl rfl ⟨(blk_cell BK171.out 0).trans rfl, (blk_cell BK171.out 1).trans rfl, (blk_cell BK151.out 0).trans rfl, (blk_cell BK151.out 1).trans rfl⟩ (fun hHeld => ?_)
       generalize wc.drew = w63 at HO_9 HO_172000 HO_172001 BK151 BK171 HB hHeld ⊢
       refine take_ (i := 0) (N := some 48) (v := ?_) (a' := ?_) #[true, false, false, false, false] rfl rfl (by kernel_rfl) (fun _ _ _ h => h) (Or.inl ⟨by rfl, ?_⟩) hHeld ?_ ?_
       rotate_left
       ·rintro w' ⟨s0, s1, s2, s3⟩
        go_simp
        with_reducible rfl
       rotate_left
       ·simp only [Act.put, List.setIfInBounds_toArray, List.set_cons_zero, List.set_cons_succ, i64_w, i32_w]
        rfl
       refine take_ (i := 1) (N := some 49) (v := ?_) (a' := ?_) #[true, true, false, false, false] rfl rfl (by kernel_rfl) (fun _ _ _ h => h) (Or.inl ⟨by rfl, ?_⟩) hHeld ?_ ?_
       rotate_left
       ·rintro w' ⟨s0, s1, s2, s3⟩
        go_simp
        with_reducible rfl
       rotate_left
       ·simp only [Act.put, List.setIfInBounds_toArray, List.set_cons_zero, List.set_cons_succ, i64_w, i32_w]
        rfl
       refine one_ (i := 2) (N := some 50) (bl 3 5) rfl rfl (by kernel_rfl) (by decide) (fun K hK => ?_)
       refine goes_ Try.func11 (by kernel_rfl) rfl #[.agg #[.slice A0_0 l0_0.length c0_0, .slice A0_1 l0_1.length c0_1]] (by rfl) rfl rfl (by (try simp only [List.map_toArray, List.map_cons, List.map_nil]); first | done | rfl | (simp only [List.length_drop, List.length_take]; rfl)) ?_
       with_reducible refine (laws_toRecord.calls kj18 _ _ l0_0 _ _ l0_1 t177 t180 _ ?side1 ?side2 ?side3 ?side4 A43.out).mono ?_
       (case side1 => exact cz_ (Kd.C_below HR0_0.out HB.out))
       (case side2 => exact HC0_0.out)
       (case side3 => exact cz_ (Kd.C_below HR0_1.out HB.out))
       (case side4 => exact HC0_1.out)
       rintro e w64 ⟨v178, v181, rfl, ho0, ho1, hb⟩
       refine ⟨_, rfl, ?_⟩
       have n0_ := Aside0.mk (Kd.S_below (by (with_reducible repeat (first | apply Kd.S_alloc | apply Kd.S_drewN | apply Kd.S_drew)); exact HO_9.out) hb)
       have n1_ := Aside0.mk (Kd.R_elder' (rz_ HO_172000.out) (Kd.R_base ho0) hb)
       have n2_ := Aside0.mk (Kd.R_elder' (rz_ HO_172001.out) (Kd.R_base ho1) hb)
       have n3_ := Aside0.mk (Kd.R_lower (Kd.R_new' ho0 (Kd.R_lt (rz_ HO_172000.out))) (below_size (by repeat (first | (with_reducible first | exact HB.out | apply below_alloc | apply pw_below_drewN | apply below_drew1 | refine below_set ?_ GE151.out | refine below_set ?_ GE171.out) | exact HB.out))))
       have n4_ := Aside0.mk (Kd.R_lower (Kd.R_new' ho1 (Kd.R_lt (rz_ HO_172001.out))) (below_size (by repeat (first | (with_reducible first | exact HB.out | apply below_alloc | apply pw_below_drewN | apply below_drew1 | refine below_set ?_ GE151.out | refine below_set ?_ GE171.out) | exact HB.out))))
       have n5_ := Aside0.mk (blk_below (bz_ BK151.out) hb)
       have n6_ := Aside0.mk (blk_below (bz_ BK171.out) hb)
       have n7_ := Aside0.mk (below_step (by repeat (first | (with_reducible first | exact HB.out | apply below_alloc | apply pw_below_drewN | apply below_drew1 | refine below_set ?_ GE151.out | refine below_set ?_ GE171.out) | exact HB.out)) hb)
       clear HO_9
       clear HO_172000
       clear HO_172001
       clear BK151
       clear BK171
       clear HB
       have HO_9 := n0_
       have HO_172000 := n1_
       have HO_172001 := n2_
       have HO179 := n3_
       have HO182 := n4_
       have BK151 := n5_
       have BK171 := n6_
       have HB := n7_
       clear n0_ n1_ n2_ n3_ n4_ n5_ n6_ n7_
       (try clear hb)
       (try clear hb2)
       (try clear hk)
       (try clear hi)
       (try clear ho0)
       (try clear ho1)
       obtain ⟨Ao65, co65, eo65⟩ := Kd.R_slice HO179.out
       (first | subst eo65 | (injection eo65 with f1_ f2_ f3_; have f4_ := f1_.symm; have f5_ := f3_.symm; clear f1_ f2_ f3_; subst f4_; subst f5_))
       obtain ⟨Ao66, co66, eo66⟩ := Kd.R_slice HO182.out
       (first | subst eo66 | (injection eo66 with f1_ f2_ f3_; have f4_ := f1_.symm; have f5_ := f3_.symm; clear f1_ f2_ f3_; subst f4_; subst f5_))
       refine hK.out _ _ ⟨(blk_cell BK171.out 0).trans rfl, (blk_cell BK171.out 1).trans rfl, (blk_cell BK151.out 0).trans rfl, (blk_cell BK151.out 1).trans rfl⟩ (fun hHeld => ?_)
       clear hK K
       refine norm_ (a' := ?_) ?_ ?_
       rotate_left
       ·show Act.put _ (some 50) _ = _
        simp only [Act.put, List.setIfInBounds_toArray, List.set_cons_zero, List.set_cons_succ, i64_w, i32_w]
        rfl
       refine one_ (i := 3) (N := some 51) (bl 4 5) rfl rfl (by kernel_rfl) (by decide) (fun K hK => ?_)
       refine goes_ Try.func14 (by kernel_rfl) rfl #[.agg #[.slice Ao33 t165.length co33, .slice Ao36 t168.length co36], .agg #[.slice Ao65 t177.length co65, .slice Ao66 t180.length co66]] (by rfl) rfl rfl (by (try simp only [List.map_toArray, List.map_cons, List.map_nil]); first | done | rfl | (simp only [List.length_drop, List.length_take]; rfl)) ?_
       with_reducible refine (laws_eqRecord.calls kj18 _ _ t165 _ _ t168 _ _ t177 _ _ t180 false _ ?side1 ?side2 ?side3 ?side4 ?side5 ?side6 ?side7 ?side8 A44.out).mono ?_
       (case side1 => exact cz_ (Kd.R_reads' HO_172000.out).2.2)
       (case side2 => exact (Kd.R_reads' HO_172000.out).2.1)
       (case side3 => exact cz_ (Kd.R_reads' HO_172001.out).2.2)
       (case side4 => exact (Kd.R_reads' HO_172001.out).2.1)
       (case side5 => exact cz_ (Kd.R_reads' HO179.out).2.2)
       (case side6 => exact (Kd.R_reads' HO179.out).2.1)
       (case side7 => exact cz_ (Kd.R_reads' HO182.out).2.2)
       (case side8 => exact (Kd.R_reads' HO182.out).2.1)
       rintro e w67 ⟨rfl, hb⟩
       refine ⟨_, rfl, ?_⟩
       have n0_ := Aside0.mk (Kd.S_below (by (with_reducible repeat (first | apply Kd.S_alloc | apply Kd.S_drewN | apply Kd.S_drew)); exact HO_9.out) hb)
       have n1_ := Aside0.mk (Kd.R_below (rz_ HO_172000.out) hb)
       have n2_ := Aside0.mk (Kd.R_below (rz_ HO_172001.out) hb)
       have n3_ := Aside0.mk (Kd.R_below (rz_ HO179.out) hb)
       have n4_ := Aside0.mk (Kd.R_below (rz_ HO182.out) hb)
       have n5_ := Aside0.mk (blk_below (bz_ BK151.out) hb)
       have n6_ := Aside0.mk (blk_below (bz_ BK171.out) hb)
       have n7_ := Aside0.mk (below_step (by repeat (first | (with_reducible first | exact HB.out | apply below_alloc | apply pw_below_drewN | apply below_drew1 | refine below_set ?_ GE151.out | refine below_set ?_ GE171.out) | exact HB.out)) hb)
       clear HO_9
       clear HO_172000
       clear HO_172001
       clear HO179
       clear HO182
       clear BK151
       clear BK171
       clear HB
       have HO_9 := n0_
       have HO_172000 := n1_
       have HO_172001 := n2_
       have HO179 := n3_
       have HO182 := n4_
       have BK151 := n5_
       have BK171 := n6_
       have HB := n7_
       clear n0_ n1_ n2_ n3_ n4_ n5_ n6_ n7_
       (try clear hb)
       (try clear hb2)
       (try clear hk)
       (try clear hi)
       refine hK.out _ _ ⟨(blk_cell BK171.out 0).trans rfl, (blk_cell BK171.out 1).trans rfl, (blk_cell BK151.out 0).trans rfl, (blk_cell BK151.out 1).trans rfl⟩ (fun hHeld => ?_)
       clear hK K
       refine norm_ (a' := ?_) ?_ ?_
       rotate_left
       ·show Act.put _ (some 51) _ = _
        simp only [Act.put, List.setIfInBounds_toArray, List.set_cons_zero, List.set_cons_succ, i64_w, i32_w]
        rfl
       refine pure_ (i := 4) (N := some 52) (v := ?_) (a' := ?_) #[true, true, true, true, true] rfl rfl (by kernel_rfl) (fun _ _ _ h => h) (Or.inl ⟨by rfl, ?_⟩) ?_ ?_
       rotate_left
       ·intro w'
        go_simp
        with_reducible rfl
       rotate_left
       ·simp only [Act.put, List.setIfInBounds_toArray, List.set_cons_zero, List.set_cons_succ, i64_w, i32_w]
        rfl
       refine done_ (by kernel_rfl) ?_
       try go_wp2
       go_ret
       exact ⟨by first | rfl | (simp [errW_none, errW_some] <;> rfl) | (simp [*, errW_none, errW_some] <;> rfl), by repeat (first | (with_reducible first | exact HB.out | apply below_alloc | apply pw_below_drewN | apply below_drew1 | refine below_set ?_ GE151.out | refine below_set ?_ GE171.out) | exact HB.out)⟩

end Go.Proofs.Ytlbkoejpjpcgaaa.Q

-- Written by a program of this session (wip/xprint.py over the kit's printer).
import Derived.Test.YtlmdmnenljmdgaaQ0
import Derived.Test.YtlmdmnenljmdgaaQF33
import Derived.Test.YtlmdmnenljmdgaaQF47
import Derived.Test.YtlmdmnenljmdgaaQF51
import Derived.Test.YtlmdmnenljmdgaaQF53
import Derived.Test.YtlmdmnenljmdgaaQV1
namespace Go.Proofs.Ytlmdmnenljmdgaa.Q
open Go.RowKit Go.Proofs.YtlmdmnenljmdgaaW.PrintWords Go.Proofs.YtlmdmnenljmdgaaW.PrintLast
set_option linter.unusedVariables false
set_option linter.unusedSimpArgs false

/-! ### spec_RenumberContext: function 22 -/
def spec_RenumberContext.j0 : Nat → Int → Int → Int → Bool → List (S44) → List (S36) → Option ((List (S44)) × (List (S36)) × Bool)
 | 0, _, _, _, _, _, _ => none
 | k + 1, x1, x2, x8, x37, x152000, x152001 => if x37 = true then (some (([] : List (S44)), ([] : List (S36)), false)) else ((spec_l2Swap.f k x152000 x152001 x1 x2).bind fun bt157 => ((some (([] : List (S44)) : List (S44))).bind fun y164 => (if 0 ≤ x8 then (if x8 ≤ (x152000.length : Int) then ((some (x152000.take (x8 : Int).toNat : List (S44))).bind fun y167 => (if y164.length + y167.length < 8796093022208 then ((some (y164 ++ y167 : List (S44))).bind fun y171 => (if 0 ≤ (wrap64 (x8 + 1)) then (if (wrap64 (x8 + 1)) ≤ (x152000.length : Int) then ((some (x152000.drop ((wrap64 (x8 + 1)) : Int).toNat : List (S44))).bind fun y174 => (if y171.length + y174.length < 8796093022208 then (if x8 < (x152000.length : Int) then ((spec_l2Put.f k (y171 ++ y174) bt157.2 x2 ((rd_T44 x152000 x8).f1)).bind fun bt182 => (some (bt182.1, bt182.2, true))) else (none)) else (none))) else (none)) else (none))) else (none))) else (none)) else (none))))
def spec_RenumberContext.f (k : Nat) (l0_0 : List (S44)) (l0_1 : List (S36)) (a1 : Int) (a2 : Int) : Option ((List (S44)) × (List (S36)) × Bool) := (spec_l2Find.f l0_0 l0_1 a1).bind fun t153 => ((spec_l2Find.f l0_0 l0_1 a2).bind fun t154 => ((spec_l2Good.f l0_0 l0_1).bind fun t155 => (if t155 = true then (if t153 < 0 then (spec_RenumberContext.j0 k a1 a2 t153 true l0_0 l0_1) else ((spec_l1In.f a2 1 999).bind fun t156 => (if t156 = true then (if t154 ≥ 0 then (spec_RenumberContext.j0 k a1 a2 t153 (t154 != t153) l0_0 l0_1) else (spec_RenumberContext.j0 k a1 a2 t153 false l0_0 l0_1)) else (spec_RenumberContext.j0 k a1 a2 t153 true l0_0 l0_1)))) else (spec_RenumberContext.j0 k a1 a2 t153 true l0_0 l0_1))))
theorem spec_RenumberContext.mono_l : ∀ k, (∀ y0 y1 y2 y3 y4 y5, LeO (spec_RenumberContext.j0 k y0 y1 y2 y3 y4 y5) (spec_RenumberContext.j0 (k + 1) y0 y1 y2 y3 y4 y5))
 | 0 => fun _ _ _ _ _ _ r h => by simp [spec_RenumberContext.j0] at h
 | k + 1 => by
  have ih0 := spec_RenumberContext.mono_l k
  ·intro y0 y1 y2 y3 y4 y5
   unfold spec_RenumberContext.j0
   repeat' first
   | (with_reducible exact ih0 _ _ _ _ _ _)
   | (with_reducible exact spec_l2Put.mono _ _ _ _ _)
   | (with_reducible exact spec_l2Swap.mono _ _ _ _ _)
   | (with_reducible exact LeO.refl _)
   | (with_reducible exact LeO.none _)
   | (with_reducible refine LeO.ite ?_ ?_)
   | (with_reducible refine LeO.bind ?_ (fun _ => ?_))
   | exact ih0 _ _ _ _ _ _
   | exact spec_l2Put.mono _ _ _ _ _
   | exact spec_l2Swap.mono _ _ _ _ _
   | exact LeO.none _
   | refine LeO.ite ?_ ?_
   | refine LeO.bind ?_ (fun _ => ?_)
theorem spec_RenumberContext.mono : ∀ a0 a1 a2 a3 k, LeO (spec_RenumberContext.f k a0 a1 a2 a3) (spec_RenumberContext.f (k + 1) a0 a1 a2 a3) := by
 intro a0 a1 a2 a3 k
 have ih0 := spec_RenumberContext.mono_l k
 unfold spec_RenumberContext.f
 repeat' first
   | (with_reducible exact ih0 _ _ _ _ _ _)
   | (with_reducible exact spec_l2Put.mono _ _ _ _ _)
   | (with_reducible exact spec_l2Swap.mono _ _ _ _ _)
   | (with_reducible exact LeO.refl _)
   | (with_reducible exact LeO.none _)
   | (with_reducible refine LeO.ite ?_ ?_)
   | (with_reducible refine LeO.bind ?_ (fun _ => ?_))
   | exact ih0 _ _ _ _ _ _
   | exact spec_l2Put.mono _ _ _ _ _
   | exact spec_l2Swap.mono _ _ _ _ _
   | exact LeO.none _
   | refine LeO.ite ?_ ?_
   | refine LeO.bind ?_ (fun _ => ?_)
def spec_RenumberContext.T1 : Bool × List (List Nat × List Nat) := (true, [([], []), ([], []), ([0, 1], [0, 1]), ([], []), ([], []), ([3, 4, 2], [3, 4]), ([2, 5, 0, 1, 2], [2]), ([5, 6, 0, 1, 2, 3, 4, 5, 6], [5])])
def spec_RenumberContext.B1 : List Nat := [0, 0, 3, 0, 0, 31, 63, 127]
theorem spec_RenumberContext.tab1 : rtab .any (opsOf Try.f22 1) = spec_RenumberContext.T1 := by kernel_rfl
theorem spec_RenumberContext.bits1 : waitsOk spec_RenumberContext.T1.2 spec_RenumberContext.B1 = true := by kernel_rfl
def spec_RenumberContext.T5 : Bool × List (List Nat × List Nat) := (true, [([], []), ([], []), ([1], [1]), ([], []), ([2, 3], [2, 3]), ([0, 4], [0, 4]), ([], []), ([6], [6]), ([], []), ([8], [8]), ([7, 9], [7, 9]), ([5, 10, 5], [5, 10]), ([0, 1, 2, 3, 4, 5, 6, 7, 8, 9, 10, 11], []), ([12, 11, 11, 0, 1, 2, 3, 4, 5, 6, 7, 8, 9, 10, 11], [11, 12])])
def spec_RenumberContext.B5 : List Nat := [0, 0, 2, 0, 14, 31, 0, 64, 0, 256, 960, 2047, 4095, 8191]
theorem spec_RenumberContext.tab5 : rtab .any (opsOf Try.f22 5) = spec_RenumberContext.T5 := by kernel_rfl
theorem spec_RenumberContext.bits5 : waitsOk spec_RenumberContext.T5.2 spec_RenumberContext.B5 = true := by kernel_rfl
def spec_RenumberContext.T6 : Bool × List (List Nat × List Nat) := (true, [([], []), ([], []), ([], []), ([2], [2]), ([], []), ([3, 4], [3, 4]), ([5], [5]), ([6], [6]), ([1, 7], [1, 7]), ([0, 8], [0, 8]), ([9, 9, 0, 1, 2, 3, 4, 5, 6, 7, 8, 9], [9]), ([10, 0, 1, 2, 3, 4, 5, 6, 7, 8, 9, 10], [])])
def spec_RenumberContext.B6 : List Nat := [0, 0, 0, 4, 0, 28, 60, 124, 254, 511, 1023, 2047]
theorem spec_RenumberContext.tab6 : rtab .any (opsOf Try.f22 6) = spec_RenumberContext.T6 := by kernel_rfl
theorem spec_RenumberContext.bits6 : waitsOk spec_RenumberContext.T6.2 spec_RenumberContext.B6 = true := by kernel_rfl
set_option maxHeartbeats 8000000 in
set_option maxRecDepth 100000 in
theorem spec_RenumberContext.calls (k : Nat) (A0_0 : Option Addr) (c0_0 : Nat) (l0_0 : List (S44)) (A0_1 : Option Addr) (c0_1 : Nat) (l0_1 : List (S36)) (a1 : Int) (a2 : Int) (r1 : List (S44)) (r2 : List (S36)) (r3 : Bool) (w : World) (hr0_0 : Kd.C k44 w A0_0 l0_0.length l0_0) (hc0_0 : l0_0.length ≤ c0_0) (hr0_1 : Kd.C k36 w A0_1 l0_1.length l0_1) (hc0_1 : l0_1.length ≤ c0_1) (h : spec_RenumberContext.f k l0_0 l0_1 a1 a2 = some (r1, r2, r3)) :
  Calls Try.prog 22 #[.agg #[.slice A0_0 l0_0.length c0_0, .slice A0_1 l0_1.length c0_1], .int .i64 a1, .int .i64 a2] w fun e w' => ∃ v0_ v1_ : Value, e = .returned (.tuple #[.agg #[v0_, v1_], .bool r3]) ∧ Kd.R k44 44 w' w.heap.size (fun _ => True) v0_ r1 ∧ Kd.R k36 36 w' w.heap.size (fun _ => True) v1_ r2 ∧ Below w.heap.size w w' := by
 have hu32 := Try.underlying32
 have hu44 := Try.underlying44
 have HR0_0 := Aside0.mk hr0_0
 have HC0_0 := Aside0.mk hc0_0
 clear hr0_0 hc0_0
 have HR0_1 := Aside0.mk hr0_1
 have HC0_1 := Aside0.mk hc0_1
 clear hr0_1 hc0_1
 have HB := Aside0.mk (Below.refl w.heap.size w)
 have H : ((spec_l2Find.f l0_0 l0_1 a1).bind fun t153 => ((spec_l2Find.f l0_0 l0_1 a2).bind fun t154 => ((spec_l2Good.f l0_0 l0_1).bind fun t155 => (if t155 = true then (if t153 < 0 then (spec_RenumberContext.j0 k a1 a2 t153 true l0_0 l0_1) else ((spec_l1In.f a2 1 999).bind fun t156 => (if t156 = true then (if t154 ≥ 0 then (spec_RenumberContext.j0 k a1 a2 t153 (t154 != t153) l0_0 l0_1) else (spec_RenumberContext.j0 k a1 a2 t153 false l0_0 l0_1)) else (spec_RenumberContext.j0 k a1 a2 t153 true l0_0 l0_1)))) else (spec_RenumberContext.j0 k a1 a2 t153 true l0_0 l0_1))))) = some (r1, r2, r3) := h
 clear h
 replace H := Option.bind_eq_some_iff.mp H
 obtain ⟨t153, A40, H⟩ := H
 replace H : ((spec_l2Find.f l0_0 l0_1 a2).bind fun t154 => ((spec_l2Good.f l0_0 l0_1).bind fun t155 => (if t155 = true then (if t153 < 0 then (spec_RenumberContext.j0 k a1 a2 t153 true l0_0 l0_1) else ((spec_l1In.f a2 1 999).bind fun t156 => (if t156 = true then (if t154 ≥ 0 then (spec_RenumberContext.j0 k a1 a2 t153 (t154 != t153) l0_0 l0_1) else (spec_RenumberContext.j0 k a1 a2 t153 false l0_0 l0_1)) else (spec_RenumberContext.j0 k a1 a2 t153 true l0_0 l0_1)))) else (spec_RenumberContext.j0 k a1 a2 t153 true l0_0 l0_1)))) = some (r1, r2, r3) := H
 have A4 := Aside0.mk A40
 clear A40
 replace H := Option.bind_eq_some_iff.mp H
 obtain ⟨t154, A50, H⟩ := H
 replace H : ((spec_l2Good.f l0_0 l0_1).bind fun t155 => (if t155 = true then (if t153 < 0 then (spec_RenumberContext.j0 k a1 a2 t153 true l0_0 l0_1) else ((spec_l1In.f a2 1 999).bind fun t156 => (if t156 = true then (if t154 ≥ 0 then (spec_RenumberContext.j0 k a1 a2 t153 (t154 != t153) l0_0 l0_1) else (spec_RenumberContext.j0 k a1 a2 t153 false l0_0 l0_1)) else (spec_RenumberContext.j0 k a1 a2 t153 true l0_0 l0_1)))) else (spec_RenumberContext.j0 k a1 a2 t153 true l0_0 l0_1))) = some (r1, r2, r3) := H
 have A5 := Aside0.mk A50
 clear A50
 have HC6 := Aside0.mk H
 clear H
 go_enter Try.func22, Try.ntmps22
 try go_wp2_with (first | ((with_reducible refine gate_dst (N := 3) rfl ?_); refine box_event ?hg (N := 3) ?hd (cs := #[.slice A0_0 l0_0.length c0_0, .slice A0_1 l0_1.length c0_1]) (t := 32) ?hr ?_; (case hd => rfl); (case hg => rfl); (case hr => first | (go_simp; done) | (go_simp; rfl)); intro gb151 hg w7 hbox hb; have n0_ := Aside0.mk (below_step (wz_ HB.out) hb); have n1_ := Aside0.mk (hbox); have n2_ := Aside0.mk ((by rw [hg]; exact (below_size (wz_ HB.out)) : w.heap.size ≤ gb151)); have n3_ := Aside0.mk ((by rw [hg]; exact (below_size (wz_ HB.out)) : w.heap.size ≤ gb151)); clear HB; have HB := n0_; have BK151 := n1_; have GW151 := n2_; have GE151 := n3_; clear n0_ n1_ n2_ n3_; clear hb hbox hg) | ((with_reducible refine gate_dst (N := 6) rfl ?_); refine box_event ?hg (N := 6) ?hd (cs := #[.slice none 0 0, .slice none 0 0]) (t := 32) ?hr ?_; (case hd => rfl); (case hg => rfl); (case hr => first | (go_simp; done) | (go_simp; rfl)); intro gb152 hg w8 hbox hb; have n0_ := Aside0.mk (blk_below (bz_ BK151.out) hb); have n1_ := Aside0.mk (below_step (by repeat (first | (with_reducible first | exact HB.out | apply below_alloc | apply pw_below_drewN | apply below_drew1 | refine below_set ?_ GE151.out) | exact HB.out)) hb); have n2_ := Aside0.mk (hbox); have n3_ := Aside0.mk ((by rw [hg]; exact (below_size (by repeat (first | (with_reducible first | exact HB.out | apply below_alloc | apply pw_below_drewN | apply below_drew1 | refine below_set ?_ GE151.out) | exact HB.out))) : w.heap.size ≤ gb152)); have n4_ := Aside0.mk ((by rw [hg]; exact (below_size (by repeat (first | (with_reducible first | exact HB.out | apply below_alloc | apply pw_below_drewN | apply below_drew1 | refine below_set ?_ GE151.out) | exact HB.out))) : w.heap.size ≤ gb152)); have n5_ := Aside0.mk ((by rw [hg]; exact Nat.ne_of_lt (blk_lt (g := gb151) (o := .cells #[.slice A0_0 l0_0.length c0_0, .slice A0_1 l0_1.length c0_1] 32 (0, 0)) (bz_ BK151.out)) : gb151 ≠ gb152)); have n6_ := Aside0.mk ((by rw [hg]; exact Nat.ne_of_gt (blk_lt (g := gb151) (o := .cells #[.slice A0_0 l0_0.length c0_0, .slice A0_1 l0_1.length c0_1] 32 (0, 0)) (bz_ BK151.out)) : gb152 ≠ gb151)); clear BK151; clear HB; have BK151 := n0_; have HB := n1_; have BK152 := n2_; have GW152 := n3_; have GE152 := n4_; have NB151_152 := n5_; have NB152_151 := n6_; clear n0_ n1_ n2_ n3_ n4_ n5_ n6_; clear hb hbox hg))
 have n0_ := Aside0.mk (blk_drew BK151.out)
 have n1_ := Aside0.mk (blk_drew BK152.out)
 have n2_ := Aside0.mk (below_drew1 HB.out)
 clear BK151
 clear BK152
 clear HB
 have BK151 := n0_
 have BK152 := n1_
 have HB := n2_
 clear n0_ n1_ n2_
 refine start_ (n := 8) (S := fun w' => w'.cell? ⟨gb151, 0, none⟩ = some (.slice A0_0 l0_0.length c0_0) ∧ w'.cell? ⟨gb151, 1, none⟩ = some (.slice A0_1 l0_1.length c0_1)) (ds := []) #[false, false, false, false, false, false, false, false] (by kernel_rfl) rfl rfl ⟨(blk_cell BK151.out 0).trans rfl, (blk_cell BK151.out 1).trans rfl⟩ (fun hHeld => ?_); refine with_tabW spec_RenumberContext.tab1 spec_RenumberContext.bits1 (fun HT_ HW_ => ?_)
 generalize w8.drew = w9 at BK151 BK152 HB hHeld ⊢
 refine pA_ 1 (some 12) #[false, true, false, false, false, false, false, false] HT_.out (h := ?_)
 refine pA_ 4 (some 15) #[false, true, false, false, true, false, false, false] HT_.out (h := ?_)
 refine tA_ 0 (some 11) #[true, true, false, false, true, false, false, false] HT_.out HW_.out hHeld (h := ?_)
 refine tA_ 3 (some 14) #[true, true, false, true, true, false, false, false] HT_.out HW_.out hHeld (h := ?_)
 refine one_ (i := 2) (N := some 13) (bl 5 8) rfl rfl (one_of HT_.out (by kernel_rfl)) (by decide) (fun K hK => ?_)
 refine goes_ Try.func51 (by kernel_rfl) rfl #[.agg #[.slice A0_0 l0_0.length c0_0, .slice A0_1 l0_1.length c0_1], .int .i64 a1] (by rfl) rfl rfl (by (try simp only [List.map_toArray, List.map_cons, List.map_nil]); first | done | rfl | (simp only [List.length_drop, List.length_take]; rfl)) ?_
 with_reducible refine (spec_l2Find.calls _ _ l0_0 _ _ l0_1 a1 t153 _ ?side1 ?side2 ?side3 ?side4 A4.out).mono ?_
 (case side1 => exact cz_ (Kd.C_below HR0_0.out HB.out))
 (case side2 => exact HC0_0.out)
 (case side3 => exact cz_ (Kd.C_below HR0_1.out HB.out))
 (case side4 => exact HC0_1.out)
 rintro e w10 ⟨rfl, hb⟩
 refine ⟨_, rfl, ?_⟩
 have n0_ := Aside0.mk (blk_below (bz_ BK151.out) hb)
 have n1_ := Aside0.mk (blk_below (bz_ BK152.out) hb)
 have n2_ := Aside0.mk (below_step (by repeat (first | (with_reducible first | exact HB.out | apply below_alloc | apply pw_below_drewN | apply below_drew1 | refine below_set ?_ GE151.out | refine below_set ?_ GE152.out) | exact HB.out)) hb)
 clear BK151
 clear BK152
 clear HB
 have BK151 := n0_
 have BK152 := n1_
 have HB := n2_
 clear n0_ n1_ n2_
 (try clear hb)
 (try clear hb2)
 (try clear hk)
 (try clear hi)
 refine hK.out _ _ ⟨(blk_cell BK151.out 0).trans rfl, (blk_cell BK151.out 1).trans rfl⟩ (fun hHeld => ?_)
 clear hK K
 refine norm_ (a' := ?_) ?_ ?_
 rotate_left
 ·show Act.put _ (some 13) _ = _
  simp only [Act.put, List.setIfInBounds_toArray, List.set_cons_zero, List.set_cons_succ, i64_w, i32_w]
  rfl
 refine one_ (i := 5) (N := some 16) (bl 6 8) rfl rfl (one_of HT_.out (by kernel_rfl)) (by decide) (fun K hK => ?_)
 refine goes_ Try.func51 (by kernel_rfl) rfl #[.agg #[.slice A0_0 l0_0.length c0_0, .slice A0_1 l0_1.length c0_1], .int .i64 a2] (by rfl) rfl rfl (by (try simp only [List.map_toArray, List.map_cons, List.map_nil]); first | done | rfl | (simp only [List.length_drop, List.length_take]; rfl)) ?_
 with_reducible refine (spec_l2Find.calls _ _ l0_0 _ _ l0_1 a2 t154 _ ?side1 ?side2 ?side3 ?side4 A5.out).mono ?_
 (case side1 => exact cz_ (Kd.C_below HR0_0.out HB.out))
 (case side2 => exact HC0_0.out)
 (case side3 => exact cz_ (Kd.C_below HR0_1.out HB.out))
 (case side4 => exact HC0_1.out)
 rintro e w11 ⟨rfl, hb⟩
 refine ⟨_, rfl, ?_⟩
 have n0_ := Aside0.mk (blk_below (bz_ BK151.out) hb)
 have n1_ := Aside0.mk (blk_below (bz_ BK152.out) hb)
 have n2_ := Aside0.mk (below_step (by repeat (first | (with_reducible first | exact HB.out | apply below_alloc | apply pw_below_drewN | apply below_drew1 | refine below_set ?_ GE151.out | refine below_set ?_ GE152.out) | exact HB.out)) hb)
 clear BK151
 clear BK152
 clear HB
 have BK151 := n0_
 have BK152 := n1_
 have HB := n2_
 clear n0_ n1_ n2_
 (try clear hb)
 (try clear hb2)
 (try clear hk)
 (try clear hi)
 refine hK.out _ _ ⟨(blk_cell BK151.out 0).trans rfl, (blk_cell BK151.out 1).trans rfl⟩ (fun hHeld => ?_)
 clear hK K
 refine norm_ (a' := ?_) ?_ ?_
 rotate_left
 ·show Act.put _ (some 16) _ = _
  simp only [Act.put, List.setIfInBounds_toArray, List.set_cons_zero, List.set_cons_succ, i64_w, i32_w]
  rfl
 refine pA_ 6 (some 8) (bl 7 8) HT_.out (h := ?_)
 refine pA_ 7 (some 9) (bl 8 8) HT_.out (h := ?_)
 refine done_ (done_of HT_.out (by kernel_rfl)) ?_
 go_upto_region 2 with (fail)
 go_cut [37] (fun v37 wc => ∃ (kq : Nat) (x37_5 : Bool), v37 = .bool x37_5 ∧ Aside0 (spec_RenumberContext.j0 kq a1 a2 t153 x37_5 l0_0 l0_1 = some (r1, r2, r3)) ∧ Aside0 (kq ≤ k) ∧ Aside0 (wc.heap[gb151]? = some (.cells #[(.slice A0_0 l0_0.length c0_0), (.slice A0_1 l0_1.length c0_1)] 32 (0, 0))) ∧ Aside0 (wc.heap[gb152]? = some (.cells #[(.slice none 0 0), (.slice none 0 0)] 32 (0, 0))) ∧ Aside0 (Below w.heap.size w wc))
 case first =>
  have H := HC6.out
  clear HC6
  replace H := Option.bind_eq_some_iff.mp H
  obtain ⟨t155, A120, H⟩ := H
  replace H : (if t155 = true then (if t153 < 0 then (spec_RenumberContext.j0 k a1 a2 t153 true l0_0 l0_1) else ((spec_l1In.f a2 1 999).bind fun t156 => (if t156 = true then (if t154 ≥ 0 then (spec_RenumberContext.j0 k a1 a2 t153 (t154 != t153) l0_0 l0_1) else (spec_RenumberContext.j0 k a1 a2 t153 false l0_0 l0_1)) else (spec_RenumberContext.j0 k a1 a2 t153 true l0_0 l0_1)))) else (spec_RenumberContext.j0 k a1 a2 t153 true l0_0 l0_1)) = some (r1, r2, r3) := H
  have A12 := Aside0.mk A120
  clear A120
  by_cases c13 : t155 = true
  ·subst c13
   have H1 : (if t153 < 0 then (spec_RenumberContext.j0 k a1 a2 t153 true l0_0 l0_1) else ((spec_l1In.f a2 1 999).bind fun t156 => (if t156 = true then (if t154 ≥ 0 then (spec_RenumberContext.j0 k a1 a2 t153 (t154 != t153) l0_0 l0_1) else (spec_RenumberContext.j0 k a1 a2 t153 false l0_0 l0_1)) else (spec_RenumberContext.j0 k a1 a2 t153 true l0_0 l0_1)))) = some (r1, r2, r3) := by rw [if_pos rfl] at H; exact H
   clear H
   have H := H1
   clear H1
   by_cases c14 : t153 < 0
   ·rw [if_pos c14] at H
    have c14b0 : decide (t153 < 0) = true := decide_eq_true c14
    clear c14
    (first | rw [c14b0] | (simp only [i64_w, i32_w]; rw [c14b0]) | skip)
    have H' := Aside0.mk H
    clear H
    have hnb15 := NB151_152.out
    have hnc15 := NB152_151.out
    have hcz16_0 : w11.cell? ⟨gb151, 0, none⟩ = some (.slice A0_0 l0_0.length c0_0) := (blk_cell BK151.out 0).trans rfl
    have hcz16_1 : w11.cell? ⟨gb151, 1, none⟩ = some (.slice A0_1 l0_1.length c0_1) := (blk_cell BK151.out 1).trans rfl
    have hfz16_0 := blk_frozen BK151.out 0
    have hfz16_1 := blk_frozen BK151.out 1
    go_wp2_with (first | ((with_reducible refine gate_callee (f := 33) rfl ?_); refine goesL_ (some 18) rfl rfl Try.func33 (by kernel_rfl) rfl #[.agg #[.slice A0_0 l0_0.length c0_0, .slice A0_1 l0_1.length c0_1]] rfl (by (try simp only [List.map_toArray, List.map_cons, List.map_nil]); first | done | rfl | (simp only [List.length_drop, List.length_take]; rfl)) ?_; (with_reducible refine (spec_l2Good.calls _ _ l0_0 _ _ l0_1 true _ ?side1 ?side2 ?side3 ?side4 A12.out).mono ?_); (case side1 => exact cz_ (Kd.C_below HR0_0.out HB.out)); (case side2 => exact HC0_0.out); (case side3 => exact cz_ (Kd.C_below HR0_1.out HB.out)); (case side4 => exact HC0_1.out); rintro e w17 ⟨rfl, hb⟩; refine ⟨_, rfl, ?_⟩; have n0_ := Aside0.mk (blk_below (bz_ BK151.out) hb); have n1_ := Aside0.mk (blk_below (bz_ BK152.out) hb); have n2_ := Aside0.mk (below_step (by repeat (first | (with_reducible first | exact HB.out | apply below_alloc | apply pw_below_drewN | apply below_drew1 | refine below_set ?_ GE151.out | refine below_set ?_ GE152.out) | exact HB.out)) hb); clear BK151; clear BK152; clear HB; have BK151 := n0_; have BK152 := n1_; have HB := n2_; clear n0_ n1_ n2_; (try clear hb); (try clear hb2); (try clear hk); (try clear hi)))
    go_meet
    case rel => exact ⟨_, (true), (by first | rfl | (simp; done) | (simp [*]; done)), H', ⟨by first | omega | exact Nat.le_refl _⟩, ⟨bz_ BK151.out⟩, ⟨bz_ BK152.out⟩, ⟨by repeat (first | (with_reducible first | exact HB.out | apply below_alloc | apply pw_below_drewN | apply below_drew1 | refine below_set ?_ GE151.out | refine below_set ?_ GE152.out) | exact HB.out)⟩⟩
   ·rw [if_neg c14] at H
    have c14b0 : decide (t153 < 0) = false := decide_eq_false c14
    clear c14
    (first | rw [c14b0] | (simp only [i64_w, i32_w]; rw [c14b0]) | skip)
    replace H := Option.bind_eq_some_iff.mp H
    obtain ⟨t156, A180, H⟩ := H
    replace H : (if t156 = true then (if t154 ≥ 0 then (spec_RenumberContext.j0 k a1 a2 t153 (t154 != t153) l0_0 l0_1) else (spec_RenumberContext.j0 k a1 a2 t153 false l0_0 l0_1)) else (spec_RenumberContext.j0 k a1 a2 t153 true l0_0 l0_1)) = some (r1, r2, r3) := H
    have A18 := Aside0.mk A180
    clear A180
    by_cases c19 : t156 = true
    ·subst c19
     have H1 : (if t154 ≥ 0 then (spec_RenumberContext.j0 k a1 a2 t153 (t154 != t153) l0_0 l0_1) else (spec_RenumberContext.j0 k a1 a2 t153 false l0_0 l0_1)) = some (r1, r2, r3) := by rw [if_pos rfl] at H; exact H
     clear H
     have H := H1
     clear H1
     by_cases c20 : t154 ≥ 0
     ·rw [if_pos c20] at H
      have c20b0 : decide (0 ≤ t154) = true := decide_eq_true c20
      clear c20
      have H' := Aside0.mk H
      clear H
      have hnb21 := NB151_152.out
      have hnc21 := NB152_151.out
      have hcz22_0 : w11.cell? ⟨gb151, 0, none⟩ = some (.slice A0_0 l0_0.length c0_0) := (blk_cell BK151.out 0).trans rfl
      have hcz22_1 : w11.cell? ⟨gb151, 1, none⟩ = some (.slice A0_1 l0_1.length c0_1) := (blk_cell BK151.out 1).trans rfl
      have hfz22_0 := blk_frozen BK151.out 0
      have hfz22_1 := blk_frozen BK151.out 1
      go_wp2_with (first | ((with_reducible refine gate_callee (f := 33) rfl ?_); refine goesL_ (some 18) rfl rfl Try.func33 (by kernel_rfl) rfl #[.agg #[.slice A0_0 l0_0.length c0_0, .slice A0_1 l0_1.length c0_1]] rfl (by (try simp only [List.map_toArray, List.map_cons, List.map_nil]); first | done | rfl | (simp only [List.length_drop, List.length_take]; rfl)) ?_; (with_reducible refine (spec_l2Good.calls _ _ l0_0 _ _ l0_1 true _ ?side1 ?side2 ?side3 ?side4 A12.out).mono ?_); (case side1 => exact cz_ (Kd.C_below HR0_0.out HB.out)); (case side2 => exact HC0_0.out); (case side3 => exact cz_ (Kd.C_below HR0_1.out HB.out)); (case side4 => exact HC0_1.out); rintro e w23 ⟨rfl, hb⟩; refine ⟨_, rfl, ?_⟩; have n0_ := Aside0.mk (blk_below (bz_ BK151.out) hb); have n1_ := Aside0.mk (blk_below (bz_ BK152.out) hb); have n2_ := Aside0.mk (below_step (by repeat (first | (with_reducible first | exact HB.out | apply below_alloc | apply pw_below_drewN | apply below_drew1 | refine below_set ?_ GE151.out | refine below_set ?_ GE152.out) | exact HB.out)) hb); clear BK151; clear BK152; clear HB; have BK151 := n0_; have BK152 := n1_; have HB := n2_; clear n0_ n1_ n2_; (try clear hb); (try clear hb2); (try clear hk); (try clear hi)) | (go_at_call 52; (with_reducible refine (spec_l1In.calls a2 1 999 true _ A18.out).mono ?_); rintro e w' ⟨rfl, ⟨nd, rfl⟩⟩))
      go_meet
      case rel => exact ⟨_, ((t154 != t153)), (by first | rfl | (simp; done) | (simp [*]; done)), H', ⟨by first | omega | exact Nat.le_refl _⟩, ⟨bz_ BK151.out⟩, ⟨bz_ BK152.out⟩, ⟨by repeat (first | (with_reducible first | exact HB.out | apply below_alloc | apply pw_below_drewN | apply below_drew1 | refine below_set ?_ GE151.out | refine below_set ?_ GE152.out) | exact HB.out)⟩⟩
     ·rw [if_neg c20] at H
      have c20b0 : decide (0 ≤ t154) = false := decide_eq_false c20
      clear c20
      have H' := Aside0.mk H
      clear H
      have hnb24 := NB151_152.out
      have hnc24 := NB152_151.out
      have hcz25_0 : w11.cell? ⟨gb151, 0, none⟩ = some (.slice A0_0 l0_0.length c0_0) := (blk_cell BK151.out 0).trans rfl
      have hcz25_1 : w11.cell? ⟨gb151, 1, none⟩ = some (.slice A0_1 l0_1.length c0_1) := (blk_cell BK151.out 1).trans rfl
      have hfz25_0 := blk_frozen BK151.out 0
      have hfz25_1 := blk_frozen BK151.out 1
      go_wp2_with (first | ((with_reducible refine gate_callee (f := 33) rfl ?_); refine goesL_ (some 18) rfl rfl Try.func33 (by kernel_rfl) rfl #[.agg #[.slice A0_0 l0_0.length c0_0, .slice A0_1 l0_1.length c0_1]] rfl (by (try simp only [List.map_toArray, List.map_cons, List.map_nil]); first | done | rfl | (simp only [List.length_drop, List.length_take]; rfl)) ?_; (with_reducible refine (spec_l2Good.calls _ _ l0_0 _ _ l0_1 true _ ?side1 ?side2 ?side3 ?side4 A12.out).mono ?_); (case side1 => exact cz_ (Kd.C_below HR0_0.out HB.out)); (case side2 => exact HC0_0.out); (case side3 => exact cz_ (Kd.C_below HR0_1.out HB.out)); (case side4 => exact HC0_1.out); rintro e w26 ⟨rfl, hb⟩; refine ⟨_, rfl, ?_⟩; have n0_ := Aside0.mk (blk_below (bz_ BK151.out) hb); have n1_ := Aside0.mk (blk_below (bz_ BK152.out) hb); have n2_ := Aside0.mk (below_step (by repeat (first | (with_reducible first | exact HB.out | apply below_alloc | apply pw_below_drewN | apply below_drew1 | refine below_set ?_ GE151.out | refine below_set ?_ GE152.out) | exact HB.out)) hb); clear BK151; clear BK152; clear HB; have BK151 := n0_; have BK152 := n1_; have HB := n2_; clear n0_ n1_ n2_; (try clear hb); (try clear hb2); (try clear hk); (try clear hi)) | (go_at_call 52; (with_reducible refine (spec_l1In.calls a2 1 999 true _ A18.out).mono ?_); rintro e w' ⟨rfl, ⟨nd, rfl⟩⟩))
      go_meet
      case rel => exact ⟨_, (false), (by first | rfl | (simp; done) | (simp [*]; done)), H', ⟨by first | omega | exact Nat.le_refl _⟩, ⟨bz_ BK151.out⟩, ⟨bz_ BK152.out⟩, ⟨by repeat (first | (with_reducible first | exact HB.out | apply below_alloc | apply pw_below_drewN | apply below_drew1 | refine below_set ?_ GE151.out | refine below_set ?_ GE152.out) | exact HB.out)⟩⟩
    ·replace c19 := Bool.eq_false_iff.mpr c19
     subst c19
     have H1 : (spec_RenumberContext.j0 k a1 a2 t153 true l0_0 l0_1) = some (r1, r2, r3) := by rw [if_neg (show ¬ (false = true) by decide)] at H; exact H
     clear H
     have H := H1
     clear H1
     have H' := Aside0.mk H
     clear H
     have hnb27 := NB151_152.out
     have hnc27 := NB152_151.out
     have hcz28_0 : w11.cell? ⟨gb151, 0, none⟩ = some (.slice A0_0 l0_0.length c0_0) := (blk_cell BK151.out 0).trans rfl
     have hcz28_1 : w11.cell? ⟨gb151, 1, none⟩ = some (.slice A0_1 l0_1.length c0_1) := (blk_cell BK151.out 1).trans rfl
     have hfz28_0 := blk_frozen BK151.out 0
     have hfz28_1 := blk_frozen BK151.out 1
     go_wp2_with (first | ((with_reducible refine gate_callee (f := 33) rfl ?_); refine goesL_ (some 18) rfl rfl Try.func33 (by kernel_rfl) rfl #[.agg #[.slice A0_0 l0_0.length c0_0, .slice A0_1 l0_1.length c0_1]] rfl (by (try simp only [List.map_toArray, List.map_cons, List.map_nil]); first | done | rfl | (simp only [List.length_drop, List.length_take]; rfl)) ?_; (with_reducible refine (spec_l2Good.calls _ _ l0_0 _ _ l0_1 true _ ?side1 ?side2 ?side3 ?side4 A12.out).mono ?_); (case side1 => exact cz_ (Kd.C_below HR0_0.out HB.out)); (case side2 => exact HC0_0.out); (case side3 => exact cz_ (Kd.C_below HR0_1.out HB.out)); (case side4 => exact HC0_1.out); rintro e w29 ⟨rfl, hb⟩; refine ⟨_, rfl, ?_⟩; have n0_ := Aside0.mk (blk_below (bz_ BK151.out) hb); have n1_ := Aside0.mk (blk_below (bz_ BK152.out) hb); have n2_ := Aside0.mk (below_step (by repeat (first | (with_reducible first | exact HB.out | apply below_alloc | apply pw_below_drewN | apply below_drew1 | refine below_set ?_ GE151.out | refine below_set ?_ GE152.out) | exact HB.out)) hb); clear BK151; clear BK152; clear HB; have BK151 := n0_; have BK152 := n1_; have HB := n2_; clear n0_ n1_ n2_; (try clear hb); (try clear hb2); (try clear hk); (try clear hi)) | (go_at_call 52; (with_reducible refine (spec_l1In.calls a2 1 999 false _ A18.out).mono ?_); rintro e w' ⟨rfl, ⟨nd, rfl⟩⟩))
     go_meet
     case rel => exact ⟨_, (true), (by first | rfl | (simp; done) | (simp [*]; done)), H', ⟨by first | omega | exact Nat.le_refl _⟩, ⟨bz_ BK151.out⟩, ⟨bz_ BK152.out⟩, ⟨by repeat (first | (with_reducible first | exact HB.out | apply below_alloc | apply pw_below_drewN | apply below_drew1 | refine below_set ?_ GE151.out | refine below_set ?_ GE152.out) | exact HB.out)⟩⟩
  ·replace c13 := Bool.eq_false_iff.mpr c13
   subst c13
   have H1 : (spec_RenumberContext.j0 k a1 a2 t153 true l0_0 l0_1) = some (r1, r2, r3) := by rw [if_neg (show ¬ (false = true) by decide)] at H; exact H
   clear H
   have H := H1
   clear H1
   have H' := Aside0.mk H
   clear H
   have hnb30 := NB151_152.out
   have hnc30 := NB152_151.out
   have hcz31_0 : w11.cell? ⟨gb151, 0, none⟩ = some (.slice A0_0 l0_0.length c0_0) := (blk_cell BK151.out 0).trans rfl
   have hcz31_1 : w11.cell? ⟨gb151, 1, none⟩ = some (.slice A0_1 l0_1.length c0_1) := (blk_cell BK151.out 1).trans rfl
   have hfz31_0 := blk_frozen BK151.out 0
   have hfz31_1 := blk_frozen BK151.out 1
   go_wp2_with (first | ((with_reducible refine gate_callee (f := 33) rfl ?_); refine goesL_ (some 18) rfl rfl Try.func33 (by kernel_rfl) rfl #[.agg #[.slice A0_0 l0_0.length c0_0, .slice A0_1 l0_1.length c0_1]] rfl (by (try simp only [List.map_toArray, List.map_cons, List.map_nil]); first | done | rfl | (simp only [List.length_drop, List.length_take]; rfl)) ?_; (with_reducible refine (spec_l2Good.calls _ _ l0_0 _ _ l0_1 false _ ?side1 ?side2 ?side3 ?side4 A12.out).mono ?_); (case side1 => exact cz_ (Kd.C_below HR0_0.out HB.out)); (case side2 => exact HC0_0.out); (case side3 => exact cz_ (Kd.C_below HR0_1.out HB.out)); (case side4 => exact HC0_1.out); rintro e w32 ⟨rfl, hb⟩; refine ⟨_, rfl, ?_⟩; have n0_ := Aside0.mk (blk_below (bz_ BK151.out) hb); have n1_ := Aside0.mk (blk_below (bz_ BK152.out) hb); have n2_ := Aside0.mk (below_step (by repeat (first | (with_reducible first | exact HB.out | apply below_alloc | apply pw_below_drewN | apply below_drew1 | refine below_set ?_ GE151.out | refine below_set ?_ GE152.out) | exact HB.out)) hb); clear BK151; clear BK152; clear HB; have BK151 := n0_; have BK152 := n1_; have HB := n2_; clear n0_ n1_ n2_; (try clear hb); (try clear hb2); (try clear hk); (try clear hi)))
   go_meet
   case rel => exact ⟨_, (true), (by first | rfl | (simp; done) | (simp [*]; done)), H', ⟨by first | omega | exact Nat.le_refl _⟩, ⟨bz_ BK151.out⟩, ⟨bz_ BK152.out⟩, ⟨by repeat (first | (with_reducible first | exact HB.out | apply below_alloc | apply pw_below_drewN | apply below_drew1 | refine below_set ?_ GE151.out | refine below_set ?_ GE152.out) | exact HB.out)⟩⟩
 case rest =>
  clear HC6
  try clear c1
  try clear c2
  try clear p2
  try clear c3
  try clear c5
  try clear c13
  try clear c14
  try clear c14b0
  try clear c15
  try clear c19
  try clear c20
  try clear c20b0
  try clear c21
  try clear c22
  try clear c24
  try clear c27
  try clear c30
  try clear hcz16_0
  try clear hcz16_1
  try clear hcz22_0
  try clear hcz22_1
  try clear hcz25_0
  try clear hcz25_1
  try clear hcz28_0
  try clear hcz28_1
  try clear hcz31_0
  try clear hcz31_1
  try clear hfz16_0
  try clear hfz16_1
  try clear hfz22_0
  try clear hfz22_1
  try clear hfz25_0
  try clear hfz25_1
  try clear hfz28_0
  try clear hfz28_1
  try clear hfz31_0
  try clear hfz31_1
  obtain ⟨kq, x37_5, rfl, HA, HJ5, BK151, BK152, HB⟩ := hcut
  cases kq with
  | zero => exact absurd HA.out (by simp [spec_RenumberContext.j0])
  | succ kj5 =>
   have H := HA.out
   clear HA
   simp only [spec_RenumberContext.j0] at H
   by_cases c33 : x37_5 = true
   ·subst c33
    have H1 : (some (([] : List (S44)), ([] : List (S36)), false)) = some (r1, r2, r3) := by rw [if_pos rfl] at H; exact H
    clear H
    have H := H1
    clear H1
    simp only [Option.some.injEq, Prod.mk.injEq] at H
    obtain ⟨rfl, rfl, rfl⟩ := H
    have hnb34 := NB152_151.out
    have hnc34 := NB151_152.out
    have hcz35_0 : wc.cell? ⟨gb152, 0, none⟩ = some (.slice none 0 0) := (blk_cell BK152.out 0).trans rfl
    have hcz35_1 : wc.cell? ⟨gb152, 1, none⟩ = some (.slice none 0 0) := (blk_cell BK152.out 1).trans rfl
    have hfz35_0 := blk_frozen BK152.out 0
    have hfz35_1 := blk_frozen BK152.out 1
    go_wp2
    refine bodyPost_ret (results_ct rfl _ _ gb152 32 #[.slice none 0 0, .slice none 0 0] (0, 0) _ rfl (by (with_reducible repeat (first | refine blk_drewN ?_ _ | refine blk_drew ?_ | refine blk_alloc ?_ _)); refine blk_put (cs := #[.slice none 0 0, .slice none 0 0]) ?_ 1 _ rfl; (with_reducible repeat (first | refine blk_drewN ?_ _ | refine blk_drew ?_ | refine blk_alloc ?_ _)); refine blk_put (cs := #[.slice none 0 0, .slice none 0 0]) ?_ 0 _ rfl; (with_reducible repeat (first | refine blk_drewN ?_ _ | refine blk_drew ?_ | refine blk_alloc ?_ _)); exact BK152.out) Try.underlying32 rfl (by kernel_rfl)) rfl ?_
    exact ⟨_, _, by first | rfl | (simp [errW_none, errW_some] <;> rfl) | (simp [*, errW_none, errW_some] <;> rfl), by first | exact Kd.R_nil _ _ _ _ _ | exact Kd.N_nil _ _ _ _ _ | exact Kd.V_nil _ _ _ _ _ | exact Kd.Q_nil _ _ _ _ _ | exact Kd.S_nil _ _ _ _ _, by first | exact Kd.R_nil _ _ _ _ _ | exact Kd.N_nil _ _ _ _ _ | exact Kd.V_nil _ _ _ _ _ | exact Kd.Q_nil _ _ _ _ _ | exact Kd.S_nil _ _ _ _ _, by repeat (first | (with_reducible first | exact HB.out | apply below_alloc | apply pw_below_drewN | apply below_drew1 | refine below_set ?_ GE151.out | refine below_set ?_ GE152.out) | exact HB.out)⟩
   ·replace c33 := Bool.eq_false_iff.mpr c33
    subst c33
    have H1 : ((spec_l2Swap.f kj5 l0_0 l0_1 a1 a2).bind fun bt157 => ((some (([] : List (S44)) : List (S44))).bind fun y164 => (if 0 ≤ t153 then (if t153 ≤ (l0_0.length : Int) then ((some (l0_0.take (t153 : Int).toNat : List (S44))).bind fun y167 => (if y164.length + y167.length < 8796093022208 then ((some (y164 ++ y167 : List (S44))).bind fun y171 => (if 0 ≤ (wrap64 (t153 + 1)) then (if (wrap64 (t153 + 1)) ≤ (l0_0.length : Int) then ((some (l0_0.drop ((wrap64 (t153 + 1)) : Int).toNat : List (S44))).bind fun y174 => (if y171.length + y174.length < 8796093022208 then (if t153 < (l0_0.length : Int) then ((spec_l2Put.f kj5 (y171 ++ y174) bt157.2 a2 ((rd_T44 l0_0 t153).f1)).bind fun bt182 => (some (bt182.1, bt182.2, true))) else (none)) else (none))) else (none)) else (none))) else (none))) else (none)) else (none)))) = some (r1, r2, r3) := by rw [if_neg (show ¬ (false = true) by decide)] at H; exact H
    clear H
    have H := H1
    clear H1
    replace H := Option.bind_eq_some_iff.mp H
    obtain ⟨⟨t157, t160⟩, A360, H⟩ := H
    replace H : ((some (([] : List (S44)) : List (S44))).bind fun y164 => (if 0 ≤ t153 then (if t153 ≤ (l0_0.length : Int) then ((some (l0_0.take (t153 : Int).toNat : List (S44))).bind fun y167 => (if y164.length + y167.length < 8796093022208 then ((some (y164 ++ y167 : List (S44))).bind fun y171 => (if 0 ≤ (wrap64 (t153 + 1)) then (if (wrap64 (t153 + 1)) ≤ (l0_0.length : Int) then ((some (l0_0.drop ((wrap64 (t153 + 1)) : Int).toNat : List (S44))).bind fun y174 => (if y171.length + y174.length < 8796093022208 then (if t153 < (l0_0.length : Int) then ((spec_l2Put.f kj5 (y171 ++ y174) t160 a2 ((rd_T44 l0_0 t153).f1)).bind fun bt182 => (some (bt182.1, bt182.2, true))) else (none)) else (none))) else (none)) else (none))) else (none))) else (none)) else (none))) = some (r1, r2, r3) := H
    have A36 := Aside0.mk A360
    clear A360
    obtain ⟨y164, hy164⟩ : ∃ y_ : List (S44), y_ = (([] : List (S44))) := ⟨_, rfl⟩
    replace H : (if 0 ≤ t153 then (if t153 ≤ (l0_0.length : Int) then ((some (l0_0.take (t153 : Int).toNat : List (S44))).bind fun y167 => (if y164.length + y167.length < 8796093022208 then ((some (y164 ++ y167 : List (S44))).bind fun y171 => (if 0 ≤ (wrap64 (t153 + 1)) then (if (wrap64 (t153 + 1)) ≤ (l0_0.length : Int) then ((some (l0_0.drop ((wrap64 (t153 + 1)) : Int).toNat : List (S44))).bind fun y174 => (if y171.length + y174.length < 8796093022208 then (if t153 < (l0_0.length : Int) then ((spec_l2Put.f kj5 (y171 ++ y174) t160 a2 ((rd_T44 l0_0 t153).f1)).bind fun bt182 => (some (bt182.1, bt182.2, true))) else (none)) else (none))) else (none)) else (none))) else (none))) else (none)) else (none)) = some (r1, r2, r3) := by first | (rw [hy164]; with_reducible exact H) | (have H2_ := (Option.bind_some _ _).symm.trans H; rw [hy164]; with_reducible exact H2_) | (have H2_ := (Option.bind_some _ _).symm.trans H; with_reducible exact H2_) | with_reducible exact H | (rw [hy164]; exact H) | exact H
    have Ny164 := Aside0.mk hy164
    clear hy164
    by_cases c37 : 0 ≤ t153
    ·rw [if_pos c37] at H
     have c37b0 := eq_true c37
     have c37b1 : decide (0 ≤ t153) = true := decide_eq_true c37
     clear c37
     by_cases c38 : t153 ≤ (l0_0.length : Int)
     ·rw [if_pos c38] at H
      have c38b0 := eq_true c38
      have c38b1 : decide (t153 ≤ (l0_0.length : Int)) = true := decide_eq_true c38
      clear c38
      obtain ⟨y167, hy167⟩ : ∃ y_ : List (S44), y_ = (l0_0.take (t153 : Int).toNat) := ⟨_, rfl⟩
      replace H : (if y164.length + y167.length < 8796093022208 then ((some (y164 ++ y167 : List (S44))).bind fun y171 => (if 0 ≤ (wrap64 (t153 + 1)) then (if (wrap64 (t153 + 1)) ≤ (l0_0.length : Int) then ((some (l0_0.drop ((wrap64 (t153 + 1)) : Int).toNat : List (S44))).bind fun y174 => (if y171.length + y174.length < 8796093022208 then (if t153 < (l0_0.length : Int) then ((spec_l2Put.f kj5 (y171 ++ y174) t160 a2 ((rd_T44 l0_0 t153).f1)).bind fun bt182 => (some (bt182.1, bt182.2, true))) else (none)) else (none))) else (none)) else (none))) else (none)) = some (r1, r2, r3) := by first | (rw [hy167]; with_reducible exact H) | (have H2_ := (Option.bind_some _ _).symm.trans H; rw [hy167]; with_reducible exact H2_) | (have H2_ := (Option.bind_some _ _).symm.trans H; with_reducible exact H2_) | with_reducible exact H | (rw [hy167]; exact H) | exact H
      have Ny167 := Aside0.mk hy167
      clear hy167
      by_cases c39 : y164.length + y167.length < 8796093022208
      ·rw [if_pos c39] at H
       have LMc39 := Aside0.mk c39
       clear c39
       obtain ⟨y171, hy171⟩ : ∃ y_ : List (S44), y_ = (y164 ++ y167) := ⟨_, rfl⟩
       replace H : (if 0 ≤ (wrap64 (t153 + 1)) then (if (wrap64 (t153 + 1)) ≤ (l0_0.length : Int) then ((some (l0_0.drop ((wrap64 (t153 + 1)) : Int).toNat : List (S44))).bind fun y174 => (if y171.length + y174.length < 8796093022208 then (if t153 < (l0_0.length : Int) then ((spec_l2Put.f kj5 (y171 ++ y174) t160 a2 ((rd_T44 l0_0 t153).f1)).bind fun bt182 => (some (bt182.1, bt182.2, true))) else (none)) else (none))) else (none)) else (none)) = some (r1, r2, r3) := by first | (rw [hy171]; with_reducible exact H) | (have H2_ := (Option.bind_some _ _).symm.trans H; rw [hy171]; with_reducible exact H2_) | (have H2_ := (Option.bind_some _ _).symm.trans H; with_reducible exact H2_) | with_reducible exact H | (rw [hy171]; exact H) | exact H
       have Ny171 := Aside0.mk hy171
       clear hy171
       obtain ⟨ji40, hji40⟩ : ∃ j_ : Int, (wrap64 (t153 + 1)) = j_ := ⟨_, rfl⟩
       replace H : (if 0 ≤ (ji40) then (if (ji40) ≤ (l0_0.length : Int) then ((some (l0_0.drop ((ji40) : Int).toNat : List (S44))).bind fun y174 => (if y171.length + y174.length < 8796093022208 then (if t153 < (l0_0.length : Int) then ((spec_l2Put.f kj5 (y171 ++ y174) t160 a2 ((rd_T44 l0_0 t153).f1)).bind fun bt182 => (some (bt182.1, bt182.2, true))) else (none)) else (none))) else (none)) else (none)) = some (r1, r2, r3) := by first | (rw [hji40] at H; exact H) | (simp only [hji40] at H ⊢; exact H)
       (try rw [hji40] at A36)
       have hji40w : (IntKind.i64.wrap (t153 + 1)) = ji40 := (i64_w _).trans hji40
       by_cases c41 : 0 ≤ (ji40)
       ·rw [if_pos c41] at H
        have c41b0 := eq_true c41
        have c41b1 : decide (0 ≤ (ji40)) = true := decide_eq_true c41
        clear c41
        by_cases c42 : (ji40) ≤ (l0_0.length : Int)
        ·rw [if_pos c42] at H
         have c42b0 := eq_true c42
         have c42b1 : decide ((ji40) ≤ (l0_0.length : Int)) = true := decide_eq_true c42
         clear c42
         obtain ⟨y174, hy174⟩ : ∃ y_ : List (S44), y_ = (l0_0.drop ((ji40) : Int).toNat) := ⟨_, rfl⟩
         replace H : (if y171.length + y174.length < 8796093022208 then (if t153 < (l0_0.length : Int) then ((spec_l2Put.f kj5 (y171 ++ y174) t160 a2 ((rd_T44 l0_0 t153).f1)).bind fun bt182 => (some (bt182.1, bt182.2, true))) else (none)) else (none)) = some (r1, r2, r3) := by first | (rw [hy174]; with_reducible exact H) | (have H2_ := (Option.bind_some _ _).symm.trans H; rw [hy174]; with_reducible exact H2_) | (have H2_ := (Option.bind_some _ _).symm.trans H; with_reducible exact H2_) | with_reducible exact H | (rw [hy174]; exact H) | exact H
         have Ny174 := Aside0.mk hy174
         clear hy174
         by_cases c43 : y171.length + y174.length < 8796093022208
         ·rw [if_pos c43] at H
          have LMc43 := Aside0.mk c43
          clear c43
          obtain ⟨y178, hy178⟩ : ∃ y_ : List (S44), y_ = (y171 ++ y174) := ⟨_, rfl⟩
          replace H : (if t153 < (l0_0.length : Int) then ((spec_l2Put.f kj5 y178 t160 a2 ((rd_T44 l0_0 t153).f1)).bind fun bt182 => (some (bt182.1, bt182.2, true))) else (none)) = some (r1, r2, r3) := by first | (rw [hy178]; with_reducible exact H) | (have H2_ := (Option.bind_some _ _).symm.trans H; rw [hy178]; with_reducible exact H2_) | (have H2_ := (Option.bind_some _ _).symm.trans H; with_reducible exact H2_) | with_reducible exact H | (rw [hy178]; exact H) | exact H
          have Ny178 := Aside0.mk hy178
          clear hy178
          by_cases c44 : t153 < (l0_0.length : Int)
          ·rw [if_pos c44] at H
           have c44b0 : decide (t153 < (l0_0.length : Int)) = true := decide_eq_true c44
           clear c44
           replace H := Option.bind_eq_some_iff.mp H
           obtain ⟨⟨t182, t185⟩, A450, H⟩ := H
           replace H : (some (t182, t185, true)) = some (r1, r2, r3) := H
           have A45 := Aside0.mk A450
           clear A450
           simp only [Option.some.injEq, Prod.mk.injEq] at H
           obtain ⟨rfl, rfl, rfl⟩ := H
           have hnb46 := NB151_152.out
           have hnc46 := NB152_151.out
           have hcz47_0 : wc.cell? ⟨gb151, 0, none⟩ = some (.slice A0_0 l0_0.length c0_0) := (blk_cell BK151.out 0).trans rfl
           have hcz47_1 : wc.cell? ⟨gb151, 1, none⟩ = some (.slice A0_1 l0_1.length c0_1) := (blk_cell BK151.out 1).trans rfl
           have hfz47_0 := blk_frozen BK151.out 0
           have hfz47_1 := blk_frozen BK151.out 1
           try go_wp2_with (first | ((with_reducible refine gate_callee (f := 53) rfl ?_); refine goesL_ (some 42) rfl rfl Try.func53 (by kernel_rfl) rfl #[.agg #[.slice A0_0 l0_0.length c0_0, .slice A0_1 l0_1.length c0_1], .int .i64 a1, .int .i64 a2] rfl (by (try simp only [List.map_toArray, List.map_cons, List.map_nil]); first | done | rfl | (simp only [List.length_drop, List.length_take]; rfl)) ?_; (with_reducible refine (spec_l2Swap.calls kj5 _ _ l0_0 _ _ l0_1 a1 a2 t157 t160 _ ?side1 ?side2 ?side3 ?side4 A36.out).mono ?_); (case side1 => exact cz_ (Kd.C_below HR0_0.out HB.out)); (case side2 => exact HC0_0.out); (case side3 => exact cz_ (Kd.C_below HR0_1.out HB.out)); (case side4 => exact HC0_1.out); rintro e w48 ⟨v158, v161, rfl, ho0, ho1, hb⟩; refine ⟨_, rfl, ?_⟩; have n0_ := Aside0.mk (Kd.R_lower ho0 (below_size (by repeat (first | (with_reducible first | exact HB.out | apply below_alloc | apply pw_below_drewN | apply below_drew1 | refine below_set ?_ GE151.out | refine below_set ?_ GE152.out) | exact HB.out)))); have n1_ := Aside0.mk (Kd.R_lower ho1 (below_size (by repeat (first | (with_reducible first | exact HB.out | apply below_alloc | apply pw_below_drewN | apply below_drew1 | refine below_set ?_ GE151.out | refine below_set ?_ GE152.out) | exact HB.out)))); have n2_ := Aside0.mk (blk_below (bz_ BK151.out) hb); have n3_ := Aside0.mk (blk_below (bz_ BK152.out) hb); have n4_ := Aside0.mk (below_step (by repeat (first | (with_reducible first | exact HB.out | apply below_alloc | apply pw_below_drewN | apply below_drew1 | refine below_set ?_ GE151.out | refine below_set ?_ GE152.out) | exact HB.out)) hb); clear BK151; clear BK152; clear HB; have HO159 := n0_; have HO162 := n1_; have BK151 := n2_; have BK152 := n3_; have HB := n4_; clear n0_ n1_ n2_ n3_ n4_; (try clear hb); (try clear hb2); (try clear hk); (try clear hi); (try clear ho0); (try clear ho1)) | ((with_reducible refine gate_dst (N := 10) rfl ?_); refine box_event ?hg (N := 10) ?hd (cs := #[.slice none 0 0, .slice none 0 0]) (t := 32) ?hr ?_; (case hd => rfl); (case hg => rfl); (case hr => first | (go_simp; done) | (go_simp; rfl)); intro gb163 hg w49 hbox hb; have n0_ := Aside0.mk (Kd.R_below (rz_ HO159.out) hb); have n1_ := Aside0.mk (Kd.R_below (rz_ HO162.out) hb); have n2_ := Aside0.mk (blk_below (bz_ BK151.out) hb); have n3_ := Aside0.mk (blk_below (bz_ BK152.out) hb); have n4_ := Aside0.mk (below_step (by repeat (first | (with_reducible first | exact HB.out | apply below_alloc | apply pw_below_drewN | apply below_drew1 | refine below_set ?_ GE151.out | refine below_set ?_ GE152.out) | exact HB.out)) hb); have n5_ := Aside0.mk (hbox); have n6_ := Aside0.mk ((by rw [hg]; exact (below_size (by repeat (first | (with_reducible first | exact HB.out | apply below_alloc | apply pw_below_drewN | apply below_drew1 | refine below_set ?_ GE151.out | refine below_set ?_ GE152.out) | exact HB.out))) : w.heap.size ≤ gb163)); have n7_ := Aside0.mk ((by rw [hg]; exact (below_size (by repeat (first | (with_reducible first | exact HB.out | apply below_alloc | apply pw_below_drewN | apply below_drew1 | refine below_set ?_ GE151.out | refine below_set ?_ GE152.out) | exact HB.out))) : w.heap.size ≤ gb163)); have n8_ := Aside0.mk ((by rw [hg]; exact Nat.ne_of_lt (blk_lt (g := gb151) (o := .cells #[.slice A0_0 l0_0.length c0_0, .slice A0_1 l0_1.length c0_1] 32 (0, 0)) (bz_ BK151.out)) : gb151 ≠ gb163)); have n9_ := Aside0.mk ((by rw [hg]; exact Nat.ne_of_gt (blk_lt (g := gb151) (o := .cells #[.slice A0_0 l0_0.length c0_0, .slice A0_1 l0_1.length c0_1] 32 (0, 0)) (bz_ BK151.out)) : gb163 ≠ gb151)); have n10_ := Aside0.mk ((by rw [hg]; exact Nat.ne_of_lt (blk_lt (g := gb152) (o := .cells #[.slice none 0 0, .slice none 0 0] 32 (0, 0)) (bz_ BK152.out)) : gb152 ≠ gb163)); have n11_ := Aside0.mk ((by rw [hg]; exact Nat.ne_of_gt (blk_lt (g := gb152) (o := .cells #[.slice none 0 0, .slice none 0 0] 32 (0, 0)) (bz_ BK152.out)) : gb163 ≠ gb152)); clear HO159; clear HO162; clear BK151; clear BK152; clear HB; have HO159 := n0_; have HO162 := n1_; have BK151 := n2_; have BK152 := n3_; have HB := n4_; have BK163 := n5_; have GW163 := n6_; have GE163 := n7_; have NB151_163 := n8_; have NB163_151 := n9_; have NB152_163 := n10_; have NB163_152 := n11_; clear n0_ n1_ n2_ n3_ n4_ n5_ n6_ n7_ n8_ n9_ n10_ n11_; clear hb hbox hg; obtain ⟨Ao50, co50, eo50⟩ := Kd.R_slice HO159.out; subst eo50; have hnb51 := NB163_151.out; have hnc51 := NB151_163.out; have hnb52 := NB163_152.out; have hnc52 := NB152_163.out; have hcz53_0 : w49.cell? ⟨gb163, 0, none⟩ = some (.slice none 0 0) := (blk_cell BK163.out 0).trans rfl; have hcz53_1 : w49.cell? ⟨gb163, 1, none⟩ = some (.slice none 0 0) := (blk_cell BK163.out 1).trans rfl; have hfz53_0 := blk_frozen BK163.out 0; have hfz53_1 := blk_frozen BK163.out 1; obtain ⟨Ao54, co54, eo54⟩ := Kd.R_slice HO162.out; subst eo54))
           have n0_ : Aside0 (Kd.R k44 44 ((w49.setCell ⟨gb163, 0, none⟩ (.slice Ao50 t157.length co50)).setCell ⟨gb163, 1, none⟩ (.slice Ao54 t160.length co54)) w.heap.size (fun _ => True) (.slice Ao50 t157.length co50) t157) := ⟨rz_ (Kd.R_mono (Kd.R_far (p := ⟨gb163, 1, none⟩) (Kd.R_far (p := ⟨gb163, 0, none⟩) (Kd.R_types HO159.out BK163.out (by decide)) (fun _ hk => hk.2) (.slice Ao50 t157.length co50)) (fun _ hk => hk.2) (.slice Ao54 t160.length co54)) (fun _ hk => trivial))⟩
           have n1_ : Aside0 (Kd.R k36 36 ((w49.setCell ⟨gb163, 0, none⟩ (.slice Ao50 t157.length co50)).setCell ⟨gb163, 1, none⟩ (.slice Ao54 t160.length co54)) w.heap.size (fun _ => True) (.slice Ao54 t160.length co54) t160) := ⟨rz_ (Kd.R_mono (Kd.R_far (p := ⟨gb163, 1, none⟩) (Kd.R_far (p := ⟨gb163, 0, none⟩) (Kd.R_types HO162.out BK163.out (by decide)) (fun _ hk => hk.2) (.slice Ao50 t157.length co50)) (fun _ hk => hk.2) (.slice Ao54 t160.length co54)) (fun _ hk => trivial))⟩
           have n2_ : Aside0 (((w49.setCell ⟨gb163, 0, none⟩ (.slice Ao50 t157.length co50)).setCell ⟨gb163, 1, none⟩ (.slice Ao54 t160.length co54)).heap[gb151]? = some (.cells #[.slice A0_0 l0_0.length c0_0, .slice A0_1 l0_1.length c0_1] 32 (0, 0))) := ⟨by (with_reducible repeat (first | refine blk_drewN ?_ _ | refine blk_drew ?_ | refine blk_alloc ?_ _)); refine blk_far ?_ NB151_163.out _; (with_reducible repeat (first | refine blk_drewN ?_ _ | refine blk_drew ?_ | refine blk_alloc ?_ _)); refine blk_far ?_ NB151_163.out _; (with_reducible repeat (first | refine blk_drewN ?_ _ | refine blk_drew ?_ | refine blk_alloc ?_ _)); exact BK151.out⟩
           have n3_ : Aside0 (((w49.setCell ⟨gb163, 0, none⟩ (.slice Ao50 t157.length co50)).setCell ⟨gb163, 1, none⟩ (.slice Ao54 t160.length co54)).heap[gb152]? = some (.cells #[.slice none 0 0, .slice none 0 0] 32 (0, 0))) := ⟨by (with_reducible repeat (first | refine blk_drewN ?_ _ | refine blk_drew ?_ | refine blk_alloc ?_ _)); refine blk_far ?_ NB152_163.out _; (with_reducible repeat (first | refine blk_drewN ?_ _ | refine blk_drew ?_ | refine blk_alloc ?_ _)); refine blk_far ?_ NB152_163.out _; (with_reducible repeat (first | refine blk_drewN ?_ _ | refine blk_drew ?_ | refine blk_alloc ?_ _)); exact BK152.out⟩
           have n4_ : Aside0 (((w49.setCell ⟨gb163, 0, none⟩ (.slice Ao50 t157.length co50)).setCell ⟨gb163, 1, none⟩ (.slice Ao54 t160.length co54)).heap[gb163]? = some (.cells #[.slice Ao50 t157.length co50, .slice Ao54 t160.length co54] 32 (0, 0))) := ⟨by (with_reducible repeat (first | refine blk_drewN ?_ _ | refine blk_drew ?_ | refine blk_alloc ?_ _)); refine blk_put (cs := #[.slice Ao50 t157.length co50, .slice none 0 0]) ?_ 1 _ rfl; (with_reducible repeat (first | refine blk_drewN ?_ _ | refine blk_drew ?_ | refine blk_alloc ?_ _)); refine blk_put (cs := #[.slice none 0 0, .slice none 0 0]) ?_ 0 _ rfl; (with_reducible repeat (first | refine blk_drewN ?_ _ | refine blk_drew ?_ | refine blk_alloc ?_ _)); exact BK163.out⟩
           have n5_ : Aside0 (Below w.heap.size w ((w49.setCell ⟨gb163, 0, none⟩ (.slice Ao50 t157.length co50)).setCell ⟨gb163, 1, none⟩ (.slice Ao54 t160.length co54))) := ⟨by repeat (first | (with_reducible first | exact HB.out | apply below_alloc | apply pw_below_drewN | apply below_drew1 | refine below_set ?_ GE151.out | refine below_set ?_ GE152.out | refine below_set ?_ GE163.out) | exact HB.out)⟩
           (try clear HO159)
           (try clear HO162)
           (try clear BK151)
           (try clear BK152)
           (try clear BK163)
           (try clear HB)
           generalize ((w49.setCell ⟨gb163, 0, none⟩ (.slice Ao50 t157.length co50)).setCell ⟨gb163, 1, none⟩ (.slice Ao54 t160.length co54)) = w55 at n0_ n1_ n2_ n3_ n4_ n5_ ⊢
           have HO159 := n0_
           have HO162 := n1_
           have BK151 := n2_
           have BK152 := n3_
           have BK163 := n4_
           have HB := n5_
           clear n0_ n1_ n2_ n3_ n4_ n5_
           have n0_ := Aside0.mk (Kd.R_drew HO159.out)
           have n1_ := Aside0.mk (Kd.R_drew HO162.out)
           have n2_ := Aside0.mk (blk_drew BK151.out)
           have n3_ := Aside0.mk (blk_drew BK152.out)
           have n4_ := Aside0.mk (blk_drew BK163.out)
           have n5_ := Aside0.mk (below_drew1 HB.out)
           clear HO159
           clear HO162
           clear BK151
           clear BK152
           clear BK163
           clear HB
           have HO159 := n0_
           have HO162 := n1_
           have BK151 := n2_
           have BK152 := n3_
           have BK163 := n4_
           have HB := n5_
           clear n0_ n1_ n2_ n3_ n4_ n5_
           have q57 : (t153 : Int) ≤ ((l0_0.length : Int) : Int) := of_decide_eq_true (by first | (with_reducible assumption) | assumption)
           obtain ⟨i057, hi057, _, hsz57, _⟩ := info_parts info44
           have hroom57 : l0_0.length ≤ c0_0 := HC0_0.out
           have hC57 : Kd.C k44 _ A0_0 l0_0.length l0_0 := HR0_0.out
           have hcut57 := cut_to (P := Try.prog) 29 44 .i64 Try.underlying29 hi057 A0_0 l0_0.length c0_0 t153 (of_decide_eq_true (by first | (with_reducible assumption) | assumption)) q57 hroom57
           have hr57 := Kd.C_take (m := (t153 : Int).toNat) hC57 (by omega)
           have hy57 : y167.length = (t153 : Int).toNat := (by rw [Ny167.out, List.length_take]; omega)
           rw [← Ny167.out] at hr57
           rw [← hy57] at hcut57
           have HR170 := Aside0.mk hr57
           have HC170 := Aside0.mk (show y167.length ≤ c0_0 from by omega)
           clear hr57 hC57 hroom57 hi057 hsz57
           have KY57 := Aside0.mk hy57
           clear hy57
           replace q57 := eq_true q57
           have q58 : ((ji40) : Int) ≤ ((l0_0.length : Int) : Int) := of_decide_eq_true (by first | (with_reducible assumption) | assumption)
           obtain ⟨i058, hi058, _, hsz58, _⟩ := info_parts info44
           have hroom58 : l0_0.length ≤ c0_0 := HC0_0.out
           have hC58 : Kd.C k44 _ A0_0 l0_0.length l0_0 := HR0_0.out
           have q058 : (0 : Int) ≤ ((ji40) : Int) := of_decide_eq_true (by first | (with_reducible assumption) | assumption)
           have hcut58 := cut_from (P := Try.prog) 29 44 .i64 Try.underlying29 hi058 2 hsz58 A0_0 l0_0.length c0_0 (ji40) q058 q58
           have hr58 := Kd.C_drop (m := ((ji40) : Int).toNat) (c := c0_0) hC58 (by omega) hroom58
           obtain ⟨A58, hA58⟩ : ∃ A1, A1 = (if c0_0 = ((ji40) : Int).toNat then A0_0 else (A0_0 : Option Addr).map (·.add (((ji40) : Int).toNat * 2))) := ⟨_, rfl⟩
           obtain ⟨c58, hc58⟩ : ∃ c1, c1 = c0_0 - ((ji40) : Int).toNat := ⟨_, rfl⟩
           have hy58 : y174.length = l0_0.length - ((ji40) : Int).toNat := (by rw [Ny174.out, List.length_drop] <;> omega)
           rw [show (l0_0).drop ((ji40) : Int).toNat = y174 from Ny174.out.symm] at hr58
           replace hr58 : Kd.C k44 _ A58 y174.length y174 := (by rw [hA58]; exact hr58)
           rw [← hy58, ← hA58, ← hc58] at hcut58
           have HR177 := Aside0.mk hr58
           have HC177 := Aside0.mk (show y174.length ≤ c58 from by rw [hy58, hc58]; exact Nat.sub_le_sub_right hroom58 _)
           clear hr58 hC58 hroom58 hi058 hsz58 hc58
           have KY58 := Aside0.mk hy58
           have KA58 := Aside0.mk hA58
           clear hy58 hA58
           replace q58 := eq_true q58
           refine start_ (n := 14) (S := fun w' => w'.cell? ⟨gb151, 0, none⟩ = some (.slice A0_0 l0_0.length c0_0) ∧ w'.cell? ⟨gb151, 1, none⟩ = some (.slice A0_1 l0_1.length c0_1)) (ds := []) #[false, false, false, false, false, false, false, false, false, false, false, false, false, false] (by kernel_rfl) rfl rfl ⟨(blk_cell BK151.out 0).trans rfl, (blk_cell BK151.out 1).trans rfl⟩ (fun hHeld => ?_); refine with_tabW spec_RenumberContext.tab5 spec_RenumberContext.bits5 (fun HT_ HW_ => ?_)
           generalize w55.drew = w56 at HO159 HO162 BK151 BK152 BK163 HB HR170 HR177 hHeld ⊢
           refine pA_ 1 (some 44) #[false, true, false, false, false, false, false, false, false, false, false, false, false, false] HT_.out (h := ?_)
           refine pA_ 3 (some 46) #[false, true, false, true, false, false, false, false, false, false, false, false, false, false] HT_.out (h := ?_)
           refine pA_ 6 (some 49) #[false, true, false, true, false, false, true, false, false, false, false, false, false, false] HT_.out (h := ?_)
           refine pA_ 8 (some 51) #[false, true, false, true, false, false, true, false, true, false, false, false, false, false] HT_.out (h := ?_)
           refine pA_ 9 (some 52) #[false, true, false, true, false, false, true, false, true, true, false, false, false, false] HT_.out (h := ?_)
           refine tA_ 2 (some 45) #[false, true, true, true, false, false, true, false, true, true, false, false, false, false] HT_.out HW_.out hHeld (h := ?_)
           refine pA_ 4 (some 47) #[false, true, true, true, true, false, true, false, true, true, false, false, false, false] HT_.out (h := ?_)
           refine tA_ 7 (some 50) #[false, true, true, true, true, false, true, true, true, true, false, false, false, false] HT_.out HW_.out hHeld (h := ?_)
           refine pA_ 10 (some 53) #[false, true, true, true, true, false, true, true, true, true, true, false, false, false] HT_.out (h := ?_)
           refine one_ (i := 0) (N := some 43) #[true, true, true, true, true, false, true, true, true, true, true, false, false, false] rfl rfl (one_of HT_.out (by kernel_rfl)) (by decide) (fun K hK => ?_)
           refine Kd.R_lit_step k44 _ 44 ?hg (N := 43) ?hd (xs := ([] : List (S44))) (inner := []) (ok := fun _ => True) (okp := fun _ => True) ?hr ?hp (fun _ hk => hk) trivial (Below.refl _ _) (Nat.le_refl _) (by simp) ?_; (case hd => rfl); (case hg => rfl); (case hr => first | (go_simp; done) | (go_simp; rfl)); (case hp => exact (Reps.none _ _))
           intro v165 w59 ho60 hb hg_ hnew_
           clear hg_ hnew_
           (first | rw [← Ny164.out] at ho60 | (simp only [Int.reduceToNat] at ho60; rw [← Ny164.out] at ho60))
           have n0_ := Aside0.mk (Kd.R_elder' (rz_ HO159.out) (Kd.R_base ho60) hb)
           have n1_ := Aside0.mk (Kd.R_below (rz_ HO162.out) hb)
           have n2_ := Aside0.mk (Kd.R_lower (Kd.R_new' ho60 (Kd.R_lt (rz_ HO159.out))) (below_size (by repeat (first | (with_reducible first | exact HB.out | apply below_alloc | apply pw_below_drewN | apply below_drew1 | refine below_set ?_ GE151.out | refine below_set ?_ GE152.out | refine below_set ?_ GE163.out) | exact HB.out))))
           have n3_ := Aside0.mk (blk_below (bz_ BK151.out) hb)
           have n4_ := Aside0.mk (blk_below (bz_ BK152.out) hb)
           have n5_ := Aside0.mk (blk_below (bz_ BK163.out) hb)
           have n6_ := Aside0.mk (below_step (by repeat (first | (with_reducible first | exact HB.out | apply below_alloc | apply pw_below_drewN | apply below_drew1 | refine below_set ?_ GE151.out | refine below_set ?_ GE152.out | refine below_set ?_ GE163.out) | exact HB.out)) hb)
           clear HO159
           clear HO162
           clear BK151
           clear BK152
           clear BK163
           clear HB
           have HO159 := n0_
           have HO162 := n1_
           have HO166 := n2_
           have BK151 := n3_
           have BK152 := n4_
           have BK163 := n5_
           have HB := n6_
           clear n0_ n1_ n2_ n3_ n4_ n5_ n6_
           clear hb ho60
           refine hK.out _ _ ⟨(blk_cell BK151.out 0).trans rfl, (blk_cell BK151.out 1).trans rfl⟩ (fun hHeld => ?_)
           clear hK K
           refine norm_ (a' := ?_) ?_ ?_
           rotate_left
           ·show Act.put _ (some 43) _ = _
            simp only [Act.put, List.setIfInBounds_toArray, List.set_cons_zero, List.set_cons_succ, i64_w, i32_w]
            rfl
           refine one_ (i := 5) (N := some 48) (bl 11 14) rfl rfl (one_of HT_.out (by kernel_rfl)) (by decide) (fun K hK => ?_)
           refine Kd.R_append_rows_step k44 (w0 := w) w.heap.size (by rfl) (.tmp 43) (.tmp 47) 29 44 (.agg #[(.int .i64 0), (.int .i64 0)]) 16 rfl Try.underlying29 info44 rfl (by decide) (by omega) v165 y164 y167 _ _ _ (fun k_ => some k_ ≠ (.slice Ao50 t157.length co50 : Value).ownBlock) (fun _ => False) rfl rfl ?aO ?aR (fun _ _ h => h) (fun _ h => h.elim) ?aF ?aB ?aS ?aL ?_
           (case aR => exact cz_ (Kd.C_below HR170.out HB.out))
           (case aB => exact (by repeat (first | (with_reducible first | exact HB.out | apply below_alloc | apply pw_below_drewN | apply below_drew1 | refine below_set ?_ GE151.out | refine below_set ?_ GE152.out | refine below_set ?_ GE163.out) | exact HB.out)))
           (case aF => exact (fun k_ hk => Kd.fresh' (Kd.R_lt (rz_ HO159.out)) k_ hk))
           (case aO => exact (rz_ (Kd.R_mono HO166.out (fun _ hk => hk.2))))
           (case aS => exact (below_size (by repeat (first | (with_reducible first | exact HB.out | apply below_alloc | apply pw_below_drewN | apply below_drew1 | refine below_set ?_ GE151.out | refine below_set ?_ GE152.out | refine below_set ?_ GE163.out) | exact HB.out))))
           (case aL => have := LMc39.out; omega)
           intro v172 w61 ho hb hg hat
           rw [← Ny171.out] at ho
           have n0_ := Aside0.mk (blk_grown (g := gb151) (o := .cells #[.slice A0_0 l0_0.length c0_0, .slice A0_1 l0_1.length c0_1] 32 (0, 0)) (bz_ BK151.out) hg (Kd.R_ne HO166.out BK151.out (by decide)))
           have n1_ := Aside0.mk (blk_grown (g := gb152) (o := .cells #[.slice none 0 0, .slice none 0 0] 32 (0, 0)) (bz_ BK152.out) hg (Kd.R_ne HO166.out BK152.out (by decide)))
           have n2_ := Aside0.mk (Kd.R_after (ok := (fun _ => True)) (rz_ HO159.out) hg hat)
           have n3_ := Aside0.mk (Kd.R_over' (rz_ HO162.out) (Kd.R_typed (rz_ HO166.out)) (by decide) hg)
           have n4_ := Aside0.mk (blk_grown (g := gb163) (o := .cells #[.slice Ao50 t157.length co50, .slice Ao54 t160.length co54] 32 (0, 0)) (bz_ BK163.out) hg (Kd.R_ne HO166.out BK163.out (by decide)))
           have n5_ := Aside0.mk (hb)
           have n6_ := Aside0.mk (ho)
           clear BK151
           clear BK152
           clear HO159
           clear HO162
           clear BK163
           clear HB
           clear HO166
           have BK151 := n0_
           have BK152 := n1_
           have HO159 := n2_
           have HO162 := n3_
           have BK163 := n4_
           have HB := n5_
           have HO173 := n6_
           clear n0_ n1_ n2_ n3_ n4_ n5_ n6_
           clear ho hb hg hat
           refine hK.out _ _ ⟨(blk_cell BK151.out 0).trans rfl, (blk_cell BK151.out 1).trans rfl⟩ (fun hHeld => ?_)
           clear hK K
           refine norm_ (a' := ?_) ?_ ?_
           rotate_left
           ·show Act.put _ (some 48) _ = _
            simp only [Act.put, List.setIfInBounds_toArray, List.set_cons_zero, List.set_cons_succ, i64_w, i32_w]
            rfl
           refine one_ (i := 11) (N := some 54) (bl 12 14) rfl rfl (one_of HT_.out (by kernel_rfl)) (by decide) (fun K hK => ?_)
           refine Kd.R_append_rows_step k44 (w0 := w) w.heap.size (by rfl) (.tmp 48) (.tmp 53) 29 44 (.agg #[(.int .i64 0), (.int .i64 0)]) 16 rfl Try.underlying29 info44 rfl (by decide) (by omega) v172 y171 y174 _ _ _ (fun k_ => some k_ ≠ (.slice Ao50 t157.length co50 : Value).ownBlock) (fun _ => False) rfl rfl ?aO ?aR (fun _ _ h => h) (fun _ h => h.elim) ?aF ?aB ?aS ?aL ?_
           (case aR => exact cz_ (Kd.C_below HR177.out HB.out))
           (case aB => exact (by repeat (first | (with_reducible first | exact HB.out | apply below_alloc | apply pw_below_drewN | apply below_drew1 | refine below_set ?_ GE151.out | refine below_set ?_ GE152.out | refine below_set ?_ GE163.out) | exact HB.out)))
           (case aF => exact (fun k_ hk => Kd.fresh' (Kd.R_lt (rz_ HO159.out)) k_ hk))
           (case aO => exact (rz_ HO173.out))
           (case aS => exact (below_size (by repeat (first | (with_reducible first | exact HB.out | apply below_alloc | apply pw_below_drewN | apply below_drew1 | refine below_set ?_ GE151.out | refine below_set ?_ GE152.out | refine below_set ?_ GE163.out) | exact HB.out))))
           (case aL => have := LMc43.out; omega)
           intro v179 w62 ho hb hg hat
           rw [← Ny178.out] at ho
           have n0_ := Aside0.mk (blk_grown (g := gb151) (o := .cells #[.slice A0_0 l0_0.length c0_0, .slice A0_1 l0_1.length c0_1] 32 (0, 0)) (bz_ BK151.out) hg (Kd.R_ne HO173.out BK151.out (by decide)))
           have n1_ := Aside0.mk (blk_grown (g := gb152) (o := .cells #[.slice none 0 0, .slice none 0 0] 32 (0, 0)) (bz_ BK152.out) hg (Kd.R_ne HO173.out BK152.out (by decide)))
           have n2_ := Aside0.mk (Kd.R_after (ok := (fun _ => True)) (rz_ HO159.out) hg hat)
           have n3_ := Aside0.mk (Kd.R_over' (rz_ HO162.out) (Kd.R_typed (rz_ HO173.out)) (by decide) hg)
           have n4_ := Aside0.mk (blk_grown (g := gb163) (o := .cells #[.slice Ao50 t157.length co50, .slice Ao54 t160.length co54] 32 (0, 0)) (bz_ BK163.out) hg (Kd.R_ne HO173.out BK163.out (by decide)))
           have n5_ := Aside0.mk (hb)
           have n6_ := Aside0.mk (ho)
           clear BK151
           clear BK152
           clear HO159
           clear HO162
           clear BK163
           clear HB
           clear HO173
           have BK151 := n0_
           have BK152 := n1_
           have HO159 := n2_
           have HO162 := n3_
           have BK163 := n4_
           have HB := n5_
           have HO180 := n6_
           clear n0_ n1_ n2_ n3_ n4_ n5_ n6_
           clear ho hb hg hat
           obtain ⟨Ao63, co63, eo63⟩ := Kd.R_slice HO180.out
           (first | subst eo63 | (injection eo63 with f1_ f2_ f3_; have f4_ := f1_.symm; have f5_ := f3_.symm; clear f1_ f2_ f3_; subst f4_; subst f5_))
           refine hK.out _ _ ⟨(blk_cell BK151.out 0).trans rfl, (blk_cell BK151.out 1).trans rfl⟩ (fun hHeld => ?_)
           clear hK K
           refine norm_ (a' := ?_) ?_ ?_
           rotate_left
           ·show Act.put _ (some 54) _ = _
            simp only [Act.put, List.setIfInBounds_toArray, List.set_cons_zero, List.set_cons_succ, i64_w, i32_w]
            rfl
           refine pA_ 12 (some 55) (bl 13 14) HT_.out (h := ?_)
           refine one_ (i := 13) (N := none) (bl 14 14) rfl rfl (one_of HT_.out (by kernel_rfl)) (by decide) (fun K hK => ?_)
           have hs64 : w62.cell? ⟨gb163, 0, none⟩ = some (.slice Ao50 t157.length co50) := (blk_cell BK163.out 0).trans rfl
           have hfs64 := blk_frozen BK163.out 0
           have hns64_0 := NB151_163.out
           have hns64_1 := NB152_163.out
           have hms64_0 := NB163_151.out
           have hms64_1 := NB163_152.out
           refine skip_ (w1 := ?_) (by rfl) rfl ?_ ?_
           rotate_left
           ·go_simp
            rfl
           refine hK.out _ _ ⟨((cell_far (p := ⟨gb163, _, none⟩) NB151_163.out _).trans (hHeld.1)), ((cell_far (p := ⟨gb163, _, none⟩) NB151_163.out _).trans (hHeld.2))⟩ (fun hHeld => ?_)
           clear hK K
           refine done_ (done_of HT_.out (by kernel_rfl)) ?_
           try go_wp2
           have n0_ : Aside0 (Kd.R k44 44 (w62.setCell ⟨gb163, 0, none⟩ (.slice Ao63 y178.length co63)) w.heap.size (fun k_ => some k_ ≠ (.slice Ao63 y178.length co63 : Value).ownBlock) (.slice Ao50 t157.length co50) t157) := ⟨rz_ (Kd.R_mono (Kd.R_far (p := ⟨gb163, 0, none⟩) (Kd.R_types HO159.out BK163.out (by decide)) (fun _ hk => hk.2) (.slice Ao63 y178.length co63)) (fun _ hk => hk.1.2))⟩
           have n1_ : Aside0 (Kd.R k36 36 (w62.setCell ⟨gb163, 0, none⟩ (.slice Ao63 y178.length co63)) w.heap.size (fun _ => True) (.slice Ao54 t160.length co54) t160) := ⟨rz_ (Kd.R_mono (Kd.R_far (p := ⟨gb163, 0, none⟩) (Kd.R_types HO162.out BK163.out (by decide)) (fun _ hk => hk.2) (.slice Ao63 y178.length co63)) (fun _ hk => trivial))⟩
           have n2_ : Aside0 (Kd.R k44 44 (w62.setCell ⟨gb163, 0, none⟩ (.slice Ao63 y178.length co63)) w.heap.size (fun k_ => some k_ ≠ (.slice Ao50 t157.length co50 : Value).ownBlock) (.slice Ao63 y178.length co63) y178) := ⟨rz_ (Kd.R_mono (Kd.R_far (p := ⟨gb163, 0, none⟩) (Kd.R_types HO180.out BK163.out (by decide)) (fun _ hk => hk.2) (.slice Ao63 y178.length co63)) (fun _ hk => hk.1))⟩
           have n3_ : Aside0 ((w62.setCell ⟨gb163, 0, none⟩ (.slice Ao63 y178.length co63)).heap[gb151]? = some (.cells #[.slice A0_0 l0_0.length c0_0, .slice A0_1 l0_1.length c0_1] 32 (0, 0))) := ⟨by (with_reducible repeat (first | refine blk_drewN ?_ _ | refine blk_drew ?_ | refine blk_alloc ?_ _)); refine blk_far ?_ NB151_163.out _; (with_reducible repeat (first | refine blk_drewN ?_ _ | refine blk_drew ?_ | refine blk_alloc ?_ _)); exact BK151.out⟩
           have n4_ : Aside0 ((w62.setCell ⟨gb163, 0, none⟩ (.slice Ao63 y178.length co63)).heap[gb152]? = some (.cells #[.slice none 0 0, .slice none 0 0] 32 (0, 0))) := ⟨by (with_reducible repeat (first | refine blk_drewN ?_ _ | refine blk_drew ?_ | refine blk_alloc ?_ _)); refine blk_far ?_ NB152_163.out _; (with_reducible repeat (first | refine blk_drewN ?_ _ | refine blk_drew ?_ | refine blk_alloc ?_ _)); exact BK152.out⟩
           have n5_ : Aside0 ((w62.setCell ⟨gb163, 0, none⟩ (.slice Ao63 y178.length co63)).heap[gb163]? = some (.cells #[.slice Ao63 y178.length co63, .slice Ao54 t160.length co54] 32 (0, 0))) := ⟨by (with_reducible repeat (first | refine blk_drewN ?_ _ | refine blk_drew ?_ | refine blk_alloc ?_ _)); refine blk_put (cs := #[.slice Ao50 t157.length co50, .slice Ao54 t160.length co54]) ?_ 0 _ rfl; (with_reducible repeat (first | refine blk_drewN ?_ _ | refine blk_drew ?_ | refine blk_alloc ?_ _)); exact BK163.out⟩
           have n6_ : Aside0 (Below w.heap.size w (w62.setCell ⟨gb163, 0, none⟩ (.slice Ao63 y178.length co63))) := ⟨by repeat (first | (with_reducible first | exact HB.out | apply below_alloc | apply pw_below_drewN | apply below_drew1 | refine below_set ?_ GE151.out | refine below_set ?_ GE152.out | refine below_set ?_ GE163.out) | exact HB.out)⟩
           (try clear HO159)
           (try clear HO162)
           (try clear HO180)
           (try clear BK151)
           (try clear BK152)
           (try clear BK163)
           (try clear HB)
           generalize (w62.setCell ⟨gb163, 0, none⟩ (.slice Ao63 y178.length co63)) = w65 at n0_ n1_ n2_ n3_ n4_ n5_ n6_ ⊢
           have HO159 := n0_
           have HO162 := n1_
           have HO180 := n2_
           have BK151 := n3_
           have BK152 := n4_
           have BK163 := n5_
           have HB := n6_
           clear n0_ n1_ n2_ n3_ n4_ n5_ n6_
           have n0_ := Aside0.mk (Kd.R_drew HO159.out)
           have n1_ := Aside0.mk (Kd.R_drew HO162.out)
           have n2_ := Aside0.mk (Kd.R_drew HO180.out)
           have n3_ := Aside0.mk (blk_drew BK151.out)
           have n4_ := Aside0.mk (blk_drew BK152.out)
           have n5_ := Aside0.mk (blk_drew BK163.out)
           have n6_ := Aside0.mk (below_drew1 HB.out)
           clear HO159
           clear HO162
           clear HO180
           clear BK151
           clear BK152
           clear BK163
           clear HB
           have HO159 := n0_
           have HO162 := n1_
           have HO180 := n2_
           have BK151 := n3_
           have BK152 := n4_
           have BK163 := n5_
           have HB := n6_
           clear n0_ n1_ n2_ n3_ n4_ n5_ n6_
           have p181 : 0 ≤ (t153 : Int) := of_decide_eq_true (by first | (with_reducible assumption) | assumption)
           have q181 : t153 < (l0_0.length : Int) := of_decide_eq_true (by first | (with_reducible assumption) | assumption)
           obtain ⟨ad181, e181, hx181_0, hx181_1⟩ := at_T44 HR0_0.out t153 p181 q181
           have hw181_1 := hx181_1
           have hw181_0 := hx181_0
           cases e181
           replace hx181_0 := (HB.out.cell (World.block_lt_of_cell? w _ hx181_0)).trans hx181_0
           replace hx181_1 := (HB.out.cell (World.block_lt_of_cell? w _ hx181_1)).trans hx181_1
           replace p181 := eq_true p181
           replace q181 := eq_true q181
           refine start_ (n := 12) (S := fun w' => w'.cell? ⟨gb163, 0, none⟩ = some (.slice Ao63 y178.length co63) ∧ w'.cell? ⟨gb163, 1, none⟩ = some (.slice Ao54 t160.length co54) ∧ w'.cell? ⟨gb151, 0, none⟩ = some (.slice (some ad181) l0_0.length c0_0) ∧ w'.cell? ⟨gb151, 1, none⟩ = some (.slice A0_1 l0_1.length c0_1) ∧ w'.cell? (ad181.add ((t153).toNat * 2)) = some (.int .i64 ((rd_T44 l0_0 t153).f0)) ∧ w'.cell? ⟨(ad181.add ((t153).toNat * 2)).block, (ad181.add ((t153).toNat * 2)).off + 1, none⟩ = some (.int .i64 ((rd_T44 l0_0 t153).f1))) (ds := []) #[false, false, false, false, false, false, false, false, false, false, false, false] (by kernel_rfl) rfl rfl ⟨(blk_cell BK163.out 0).trans rfl, (blk_cell BK163.out 1).trans rfl, (blk_cell BK151.out 0).trans rfl, (blk_cell BK151.out 1).trans rfl, ((HB.out.cell (World.block_lt_of_cell? w _ hw181_0)).trans hw181_0), ((HB.out.cell (World.block_lt_of_cell? w _ hw181_1)).trans hw181_1)⟩ (fun hHeld => ?_); refine with_tabW spec_RenumberContext.tab6 spec_RenumberContext.bits6 (fun HT_ HW_ => ?_)
           generalize w65.drew = w66 at HO159 HO162 HO180 BK151 BK152 BK163 HB hx181_0 hx181_1 hHeld ⊢
           refine pA_ 1 (some 57) #[false, true, false, false, false, false, false, false, false, false, false, false] HT_.out (h := ?_)
           refine pA_ 2 (some 58) #[false, true, true, false, false, false, false, false, false, false, false, false] HT_.out (h := ?_)
           refine pA_ 4 (some 60) #[false, true, true, false, true, false, false, false, false, false, false, false] HT_.out (h := ?_)
           refine tA_ 0 (some 56) #[true, true, true, false, true, false, false, false, false, false, false, false] HT_.out HW_.out hHeld (h := ?_)
           refine tA_ 3 (some 59) (bl 5 12) HT_.out HW_.out hHeld (h := ?_)
           refine pA_ 5 (some 61) (bl 6 12) HT_.out (h := ?_)
           refine pA_ 6 (some 62) (bl 7 12) HT_.out (h := ?_)
           refine tA_ 7 (some 63) (bl 8 12) HT_.out HW_.out hHeld (h := ?_)
           refine pA_ 8 (some 64) (bl 9 12) HT_.out (h := ?_)
           refine one_ (i := 9) (N := some 65) (bl 10 12) rfl rfl (one_of HT_.out (by kernel_rfl)) (by decide) (fun K hK => ?_)
           refine goes_ Try.func47 (by kernel_rfl) rfl #[.agg #[.slice Ao63 y178.length co63, .slice Ao54 t160.length co54], .agg #[.int .i64 a2, .int .i64 ((rd_T44 l0_0 t153).f1)]] (by rfl) rfl rfl (by (try simp only [List.map_toArray, List.map_cons, List.map_nil]); first | done | rfl | (simp only [List.length_drop, List.length_take]; rfl)) ?_
           with_reducible refine (spec_l2Put.calls kj5 _ _ y178 _ _ t160 a2 ((rd_T44 l0_0 t153).f1) t182 t185 _ ?side1 ?side2 ?side3 ?side4 A45.out).mono ?_
           (case side1 => exact cz_ (Kd.R_reads' HO180.out).2.2)
           (case side2 => exact (Kd.R_reads' HO180.out).2.1)
           (case side3 => exact cz_ (Kd.R_reads' HO162.out).2.2)
           (case side4 => exact (Kd.R_reads' HO162.out).2.1)
           rintro e w67 ⟨v183, v186, rfl, ho0, ho1, hb⟩
           refine ⟨_, rfl, ?_⟩
           have n0_ := Aside0.mk (Kd.R_elder' (rz_ HO159.out) (Kd.R_base ho0) hb)
           have n1_ := Aside0.mk (Kd.R_elder' (rz_ HO162.out) (Kd.R_base ho1) hb)
           have n2_ := Aside0.mk (Kd.R_elder' (rz_ HO180.out) (Kd.R_base ho0) hb)
           have n3_ := Aside0.mk (Kd.R_lower (Kd.R_new' (Kd.R_new' ho0 (Kd.R_lt (rz_ HO159.out))) (Kd.R_lt (rz_ HO180.out))) (below_size (by repeat (first | (with_reducible first | exact HB.out | apply below_alloc | apply pw_below_drewN | apply below_drew1 | refine below_set ?_ GE151.out | refine below_set ?_ GE152.out | refine below_set ?_ GE163.out) | exact HB.out))))
           have n4_ := Aside0.mk (Kd.R_lower (Kd.R_new' ho1 (Kd.R_lt (rz_ HO162.out))) (below_size (by repeat (first | (with_reducible first | exact HB.out | apply below_alloc | apply pw_below_drewN | apply below_drew1 | refine below_set ?_ GE151.out | refine below_set ?_ GE152.out | refine below_set ?_ GE163.out) | exact HB.out))))
           have n5_ := Aside0.mk (blk_below (bz_ BK151.out) hb)
           have n6_ := Aside0.mk (blk_below (bz_ BK152.out) hb)
           have n7_ := Aside0.mk (blk_below (bz_ BK163.out) hb)
           have n8_ := Aside0.mk (below_step (by repeat (first | (with_reducible first | exact HB.out | apply below_alloc | apply pw_below_drewN | apply below_drew1 | refine below_set ?_ GE151.out | refine below_set ?_ GE152.out | refine below_set ?_ GE163.out) | exact HB.out)) hb)
           clear HO159
           clear HO162
           clear HO180
           clear BK151
           clear BK152
           clear BK163
           clear HB
           have HO159 := n0_
           have HO162 := n1_
           have HO180 := n2_
           have HO184 := n3_
           have HO187 := n4_
           have BK151 := n5_
           have BK152 := n6_
           have BK163 := n7_
           have HB := n8_
           clear n0_ n1_ n2_ n3_ n4_ n5_ n6_ n7_ n8_
           (try clear hb)
           (try clear hb2)
           (try clear hk)
           (try clear hi)
           (try clear ho0)
           (try clear ho1)
           obtain ⟨Ao68, co68, eo68⟩ := Kd.R_slice HO184.out
           (first | subst eo68 | (injection eo68 with f1_ f2_ f3_; have f4_ := f1_.symm; have f5_ := f3_.symm; clear f1_ f2_ f3_; subst f4_; subst f5_))
           obtain ⟨Ao70, co70, eo70⟩ := Kd.R_slice HO187.out
           (first | subst eo70 | (injection eo70 with f1_ f2_ f3_; have f4_ := f1_.symm; have f5_ := f3_.symm; clear f1_ f2_ f3_; subst f4_; subst f5_))
           refine hK.out _ _ ⟨(blk_cell BK163.out 0).trans rfl, (blk_cell BK163.out 1).trans rfl, (blk_cell BK151.out 0).trans rfl, (blk_cell BK151.out 1).trans rfl, ((HB.out.cell (World.block_lt_of_cell? w _ hw181_0)).trans hw181_0), ((HB.out.cell (World.block_lt_of_cell? w _ hw181_1)).trans hw181_1)⟩ (fun hHeld => ?_)
           clear hK K
           refine norm_ (a' := ?_) ?_ ?_
           rotate_left
           ·show Act.put _ (some 65) _ = _
            simp only [Act.put, List.setIfInBounds_toArray, List.set_cons_zero, List.set_cons_succ, i64_w, i32_w]
            rfl
           refine one_ (i := 10) (N := none) (bl 11 12) rfl rfl (one_of HT_.out (by kernel_rfl)) (by decide) (fun K hK => ?_)
           have hs69 : w67.cell? ⟨gb152, 0, none⟩ = some (.slice none 0 0) := (blk_cell BK152.out 0).trans rfl
           have hfs69 := blk_frozen BK152.out 0
           have hns69_0 := NB151_152.out
           have hns69_2 := NB163_152.out
           have hms69_0 := NB152_151.out
           have hms69_2 := NB152_163.out
           have hs71 : w67.cell? ⟨gb152, 1, none⟩ = some (.slice none 0 0) := (blk_cell BK152.out 1).trans rfl
           have hfs71 := blk_frozen BK152.out 1
           have hns71_0 := NB151_152.out
           have hns71_2 := NB163_152.out
           have hms71_0 := NB152_151.out
           have hms71_2 := NB152_163.out
           refine skip_ (w1 := ?_) (by rfl) rfl ?_ ?_
           rotate_left
           ·go_simp
            rfl
           refine hK.out _ _ ⟨((cell_far (p := ⟨gb152, _, none⟩) NB163_152.out _).trans (((cell_far (p := ⟨gb152, _, none⟩) NB163_152.out _).trans (hHeld.1)))), ((cell_far (p := ⟨gb152, _, none⟩) NB163_152.out _).trans (((cell_far (p := ⟨gb152, _, none⟩) NB163_152.out _).trans (hHeld.2.1)))), ((cell_far (p := ⟨gb152, _, none⟩) NB151_152.out _).trans (((cell_far (p := ⟨gb152, _, none⟩) NB151_152.out _).trans (hHeld.2.2.1)))), ((cell_far (p := ⟨gb152, _, none⟩) NB151_152.out _).trans (((cell_far (p := ⟨gb152, _, none⟩) NB151_152.out _).trans (hHeld.2.2.2.1)))), ((cell_far (p := ⟨gb152, _, none⟩) (by first | exact Nat.ne_of_lt (Nat.lt_of_lt_of_le (by have := World.block_lt_of_cell? _ _ hw181_0; first | rwa [add_block] at this | exact this) GW152.out) | (rw [add_block]; exact Nat.ne_of_lt (Nat.lt_of_lt_of_le (by have := World.block_lt_of_cell? _ _ hw181_0; first | rwa [add_block] at this | exact this) GW152.out)) | (show (Addr.add _ _).block ≠ _; rw [add_block]; exact Nat.ne_of_lt (Nat.lt_of_lt_of_le (by have := World.block_lt_of_cell? _ _ hw181_0; first | rwa [add_block] at this | exact this) GW152.out)) | (dsimp only; exact Nat.ne_of_lt (Nat.lt_of_lt_of_le (by have := World.block_lt_of_cell? _ _ hw181_0; first | rwa [add_block] at this | exact this) GW152.out))) _).trans (((cell_far (p := ⟨gb152, _, none⟩) (by first | exact Nat.ne_of_lt (Nat.lt_of_lt_of_le (by have := World.block_lt_of_cell? _ _ hw181_0; first | rwa [add_block] at this | exact this) GW152.out) | (rw [add_block]; exact Nat.ne_of_lt (Nat.lt_of_lt_of_le (by have := World.block_lt_of_cell? _ _ hw181_0; first | rwa [add_block] at this | exact this) GW152.out)) | (show (Addr.add _ _).block ≠ _; rw [add_block]; exact Nat.ne_of_lt (Nat.lt_of_lt_of_le (by have := World.block_lt_of_cell? _ _ hw181_0; first | rwa [add_block] at this | exact this) GW152.out)) | (dsimp only; exact Nat.ne_of_lt (Nat.lt_of_lt_of_le (by have := World.block_lt_of_cell? _ _ hw181_0; first | rwa [add_block] at this | exact this) GW152.out))) _).trans (hHeld.2.2.2.2.1)))), ((cell_far (p := ⟨gb152, _, none⟩) (by first | exact Nat.ne_of_lt (Nat.lt_of_lt_of_le (by have := World.block_lt_of_cell? _ _ hw181_1; first | rwa [add_block] at this | exact this) GW152.out) | (rw [add_block]; exact Nat.ne_of_lt (Nat.lt_of_lt_of_le (by have := World.block_lt_of_cell? _ _ hw181_1; first | rwa [add_block] at this | exact this) GW152.out)) | (show (Addr.add _ _).block ≠ _; rw [add_block]; exact Nat.ne_of_lt (Nat.lt_of_lt_of_le (by have := World.block_lt_of_cell? _ _ hw181_1; first | rwa [add_block] at this | exact this) GW152.out)) | (dsimp only; exact Nat.ne_of_lt (Nat.lt_of_lt_of_le (by have := World.block_lt_of_cell? _ _ hw181_1; first | rwa [add_block] at this | exact this) GW152.out))) _).trans (((cell_far (p := ⟨gb152, _, none⟩) (by first | exact Nat.ne_of_lt (Nat.lt_of_lt_of_le (by have := World.block_lt_of_cell? _ _ hw181_1; first | rwa [add_block] at this | exact this) GW152.out) | (rw [add_block]; exact Nat.ne_of_lt (Nat.lt_of_lt_of_le (by have := World.block_lt_of_cell? _ _ hw181_1; first | rwa [add_block] at this | exact this) GW152.out)) | (show (Addr.add _ _).block ≠ _; rw [add_block]; exact Nat.ne_of_lt (Nat.lt_of_lt_of_le (by have := World.block_lt_of_cell? _ _ hw181_1; first | rwa [add_block] at this | exact this) GW152.out)) | (dsimp only; exact Nat.ne_of_lt (Nat.lt_of_lt_of_le (by have := World.block_lt_of_cell? _ _ hw181_1; first | rwa [add_block] at this | exact this) GW152.out))) _).trans (hHeld.2.2.2.2.2))))⟩ (fun hHeld => ?_)
           clear hK K
           refine pA_ 11 (some 7) (bl 12 12) HT_.out (h := ?_)
           refine done_ (done_of HT_.out (by kernel_rfl)) ?_
           try go_wp2
           refine bodyPost_ret (results_ct rfl _ _ gb152 32 #[.slice Ao68 t182.length co68, .slice Ao70 t185.length co70] (0, 0) _ rfl (by (with_reducible repeat (first | refine blk_drewN ?_ _ | refine blk_drew ?_ | refine blk_alloc ?_ _)); refine blk_put (cs := #[.slice Ao68 t182.length co68, .slice none 0 0]) ?_ 1 _ rfl; (with_reducible repeat (first | refine blk_drewN ?_ _ | refine blk_drew ?_ | refine blk_alloc ?_ _)); refine blk_put (cs := #[.slice none 0 0, .slice none 0 0]) ?_ 0 _ rfl; (with_reducible repeat (first | refine blk_drewN ?_ _ | refine blk_drew ?_ | refine blk_alloc ?_ _)); exact BK152.out) Try.underlying32 rfl (by kernel_rfl)) rfl ?_
           exact ⟨_, _, by first | rfl | (simp [errW_none, errW_some] <;> rfl) | (simp only [← hji40]; first | rfl | (simp [errW_none, errW_some] <;> rfl)) | (simp [*, errW_none, errW_some] <;> rfl), rz_ (Kd.R_mono (Kd.R_far (p := ⟨gb152, 1, none⟩) (Kd.R_far (p := ⟨gb152, 0, none⟩) (Kd.R_types HO184.out BK152.out (by decide)) (fun _ hk => hk.2) (.slice Ao68 t182.length co68)) (fun _ hk => hk.2) (.slice Ao70 t185.length co70)) (fun _ hk => trivial)), rz_ (Kd.R_mono (Kd.R_far (p := ⟨gb152, 1, none⟩) (Kd.R_far (p := ⟨gb152, 0, none⟩) (Kd.R_types HO187.out BK152.out (by decide)) (fun _ hk => hk.2) (.slice Ao68 t182.length co68)) (fun _ hk => hk.2) (.slice Ao70 t185.length co70)) (fun _ hk => trivial)), by repeat (first | (with_reducible first | exact HB.out | apply below_alloc | apply pw_below_drewN | apply below_drew1 | refine below_set ?_ GE151.out | refine below_set ?_ GE152.out | refine below_set ?_ GE163.out) | exact HB.out)⟩
          ·rw [if_neg c44] at H
           exact absurd H (by simp)
         ·rw [if_neg c43] at H
          exact absurd H (by simp)
        ·rw [if_neg c42] at H
         exact absurd H (by simp)
       ·rw [if_neg c41] at H
        exact absurd H (by simp)
      ·rw [if_neg c39] at H
       exact absurd H (by simp)
     ·rw [if_neg c38] at H
      exact absurd H (by simp)
    ·rw [if_neg c37] at H
     exact absurd H (by simp)

end Go.Proofs.Ytlmdmnenljmdgaa.Q

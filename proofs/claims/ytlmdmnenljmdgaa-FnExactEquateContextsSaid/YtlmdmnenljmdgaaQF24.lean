-- Written by a program of this session (wip/xprint.py over the kit's printer).
import Derived.Test.YtlmdmnenljmdgaaQ0
import Derived.Test.YtlmdmnenljmdgaaQF33
import Derived.Test.YtlmdmnenljmdgaaQF51
import Derived.Test.YtlmdmnenljmdgaaQF53
namespace Go.Proofs.Ytlmdmnenljmdgaa.Q
open Go.RowKit Go.Proofs.YtlmdmnenljmdgaaW.PrintWords Go.Proofs.YtlmdmnenljmdgaaW.PrintLast
set_option linter.unusedVariables false
set_option linter.unusedSimpArgs false

/-! ### spec_EquateContexts: function 24 -/
def spec_EquateContexts.f (k : Nat) (l0_0 : List (S44)) (l0_1 : List (S36)) (a1 : Int) (a2 : Int) : Option ((List (S44)) × (List (S36)) × Bool) := (spec_l2Find.f l0_0 l0_1 a1).bind fun t153 => ((spec_l2Find.f l0_0 l0_1 a2).bind fun t154 => ((spec_l2Good.f l0_0 l0_1).bind fun t155 => (if t155 = true then (if t153 < 0 then (some (([] : List (S44)), ([] : List (S36)), false)) else (if t154 < 0 then (some (([] : List (S44)), ([] : List (S36)), false)) else (if t153 = t154 then (some (([] : List (S44)), ([] : List (S36)), false)) else (if 0 ≤ t153 then (if t153 < (l0_0.length : Int) then (if 0 ≤ t154 then (if t154 < (l0_0.length : Int) then (if ((rd_T44 l0_0 t153).f1) = ((rd_T44 l0_0 t154).f1) then ((spec_l2Swap.f k l0_0 l0_1 a2 a1).bind fun bt158 => ((some (([] : List (S44)) : List (S44))).bind fun y165 => (if t154 ≤ (l0_0.length : Int) then ((some (l0_0.take (t154 : Int).toNat : List (S44))).bind fun y168 => (if y165.length + y168.length < 8796093022208 then ((some (y165 ++ y168 : List (S44))).bind fun y172 => (if 0 ≤ (wrap64 (t154 + 1)) then (if (wrap64 (t154 + 1)) ≤ (l0_0.length : Int) then ((some (l0_0.drop ((wrap64 (t154 + 1)) : Int).toNat : List (S44))).bind fun y175 => (if y172.length + y175.length < 8796093022208 then (some ((y172 ++ y175), bt158.2, true)) else (none))) else (none)) else (none))) else (none))) else (none)))) else (some (([] : List (S44)), ([] : List (S36)), false))) else (none)) else (none)) else (none)) else (none))))) else (some (([] : List (S44)), ([] : List (S36)), false)))))
theorem spec_EquateContexts.mono : ∀ a0 a1 a2 a3 k, LeO (spec_EquateContexts.f k a0 a1 a2 a3) (spec_EquateContexts.f (k + 1) a0 a1 a2 a3) := by
 intro a0 a1 a2 a3 k
 unfold spec_EquateContexts.f
 repeat' first
   | (with_reducible exact spec_l2Swap.mono _ _ _ _ _)
   | (with_reducible exact LeO.refl _)
   | (with_reducible exact LeO.none _)
   | (with_reducible refine LeO.ite ?_ ?_)
   | (with_reducible refine LeO.bind ?_ (fun _ => ?_))
   | exact spec_l2Swap.mono _ _ _ _ _
   | exact LeO.none _
   | refine LeO.ite ?_ ?_
   | refine LeO.bind ?_ (fun _ => ?_)
def spec_EquateContexts.T1 : Bool × List (List Nat × List Nat) := (true, [([], []), ([], []), ([0, 1], [0, 1]), ([], []), ([], []), ([3, 4, 2], [3, 4]), ([2, 5, 0, 1, 2], [2]), ([5, 6, 0, 1, 2, 3, 4, 5, 6], [5])])
def spec_EquateContexts.B1 : List Nat := [0, 0, 3, 0, 0, 31, 63, 127]
theorem spec_EquateContexts.tab1 : rtab .any (opsOf Try.f24 1) = spec_EquateContexts.T1 := by kernel_rfl
theorem spec_EquateContexts.bits1 : waitsOk spec_EquateContexts.T1.2 spec_EquateContexts.B1 = true := by kernel_rfl
def spec_EquateContexts.T2 : Bool × List (List Nat × List Nat) := (true, [([], []), ([0], [0]), ([1], [1]), ([2, 1], [2]), ([3], [3]), ([4, 3], [3, 4]), ([3, 5], [3, 5]), ([6, 3], [6]), ([7], [7]), ([8, 7], [7, 8]), ([7, 9], [7, 9]), ([10, 7], [10]), ([11], [11]), ([11], [11]), ([12, 13, 11], [11, 12, 13]), ([11, 14], [11, 14]), ([15, 11], [15]), ([16], [16]), ([17, 16], [16, 17]), ([16], [16]), ([18, 19, 16], [16, 18, 19]), ([20, 16], [16, 20]), ([21, 16], [16, 21]), ([16], [16]), ([23, 16], [16, 23]), ([16], [16]), ([24, 25, 16], [16, 24, 25]), ([26, 16], [16, 26]), ([27, 16], [16, 27]), ([22, 28, 16], [16, 22, 28]), ([16, 29], [16, 29])])
def spec_EquateContexts.B2 : List Nat := [0, 1, 3, 7, 15, 31, 63, 127, 255, 511, 1023, 2047, 4095, 4095, 16383, 32767, 65535, 131071, 262143, 131071, 1048575, 2097151, 4194303, 131071, 8519679, 131071, 58851327, 125960191, 260177919, 536870911, 1073741823]
theorem spec_EquateContexts.tab2 : rtab .any (opsOf Try.f24 2) = spec_EquateContexts.T2 := by kernel_rfl
theorem spec_EquateContexts.bits2 : waitsOk spec_EquateContexts.T2.2 spec_EquateContexts.B2 = true := by kernel_rfl
def spec_EquateContexts.T5 : Bool × List (List Nat × List Nat) := (true, [([], []), ([], []), ([1], [1]), ([], []), ([2, 3], [2, 3]), ([0, 4], [0, 4]), ([], []), ([6], [6]), ([], []), ([8], [8]), ([7, 9], [7, 9]), ([5, 10, 5], [5, 10]), ([0, 1, 2, 3, 4, 5, 6, 7, 8, 9, 10, 11], []), ([12, 11, 11, 0, 1, 2, 3, 4, 5, 6, 7, 8, 9, 10, 11], [11, 12])])
def spec_EquateContexts.B5 : List Nat := [0, 0, 2, 0, 14, 31, 0, 64, 0, 256, 960, 2047, 4095, 8191]
theorem spec_EquateContexts.tab5 : rtab .any (opsOf Try.f24 5) = spec_EquateContexts.T5 := by kernel_rfl
theorem spec_EquateContexts.bits5 : waitsOk spec_EquateContexts.T5.2 spec_EquateContexts.B5 = true := by kernel_rfl
set_option maxHeartbeats 8000000 in
set_option maxRecDepth 100000 in
theorem spec_EquateContexts.calls (k : Nat) (A0_0 : Option Addr) (c0_0 : Nat) (l0_0 : List (S44)) (A0_1 : Option Addr) (c0_1 : Nat) (l0_1 : List (S36)) (a1 : Int) (a2 : Int) (r1 : List (S44)) (r2 : List (S36)) (r3 : Bool) (w : World) (hr0_0 : Kd.C k44 w A0_0 l0_0.length l0_0) (hc0_0 : l0_0.length ≤ c0_0) (hr0_1 : Kd.C k36 w A0_1 l0_1.length l0_1) (hc0_1 : l0_1.length ≤ c0_1) (h : spec_EquateContexts.f k l0_0 l0_1 a1 a2 = some (r1, r2, r3)) :
  Calls Try.prog 24 #[.agg #[.slice A0_0 l0_0.length c0_0, .slice A0_1 l0_1.length c0_1], .int .i64 a1, .int .i64 a2] w fun e w' => ∃ v0_ v1_ : Value, e = .returned (.tuple #[.agg #[v0_, v1_], .bool r3]) ∧ Kd.R k44 44 w' w.heap.size (fun _ => True) v0_ r1 ∧ Kd.R k36 36 w' w.heap.size (fun _ => True) v1_ r2 ∧ Below w.heap.size w w' := by
 have hu32 := Try.underlying32
 have HR0_0 := Aside0.mk hr0_0
 have HC0_0 := Aside0.mk hc0_0
 clear hr0_0 hc0_0
 have HR0_1 := Aside0.mk hr0_1
 have HC0_1 := Aside0.mk hc0_1
 clear hr0_1 hc0_1
 have HB := Aside0.mk (Below.refl w.heap.size w)
 have H : ((spec_l2Find.f l0_0 l0_1 a1).bind fun t153 => ((spec_l2Find.f l0_0 l0_1 a2).bind fun t154 => ((spec_l2Good.f l0_0 l0_1).bind fun t155 => (if t155 = true then (if t153 < 0 then (some (([] : List (S44)), ([] : List (S36)), false)) else (if t154 < 0 then (some (([] : List (S44)), ([] : List (S36)), false)) else (if t153 = t154 then (some (([] : List (S44)), ([] : List (S36)), false)) else (if 0 ≤ t153 then (if t153 < (l0_0.length : Int) then (if 0 ≤ t154 then (if t154 < (l0_0.length : Int) then (if ((rd_T44 l0_0 t153).f1) = ((rd_T44 l0_0 t154).f1) then ((spec_l2Swap.f k l0_0 l0_1 a2 a1).bind fun bt158 => ((some (([] : List (S44)) : List (S44))).bind fun y165 => (if t154 ≤ (l0_0.length : Int) then ((some (l0_0.take (t154 : Int).toNat : List (S44))).bind fun y168 => (if y165.length + y168.length < 8796093022208 then ((some (y165 ++ y168 : List (S44))).bind fun y172 => (if 0 ≤ (wrap64 (t154 + 1)) then (if (wrap64 (t154 + 1)) ≤ (l0_0.length : Int) then ((some (l0_0.drop ((wrap64 (t154 + 1)) : Int).toNat : List (S44))).bind fun y175 => (if y172.length + y175.length < 8796093022208 then (some ((y172 ++ y175), bt158.2, true)) else (none))) else (none)) else (none))) else (none))) else (none)))) else (some (([] : List (S44)), ([] : List (S36)), false))) else (none)) else (none)) else (none)) else (none))))) else (some (([] : List (S44)), ([] : List (S36)), false)))))) = some (r1, r2, r3) := h
 clear h
 replace H := Option.bind_eq_some_iff.mp H
 obtain ⟨t153, A40, H⟩ := H
 replace H : ((spec_l2Find.f l0_0 l0_1 a2).bind fun t154 => ((spec_l2Good.f l0_0 l0_1).bind fun t155 => (if t155 = true then (if t153 < 0 then (some (([] : List (S44)), ([] : List (S36)), false)) else (if t154 < 0 then (some (([] : List (S44)), ([] : List (S36)), false)) else (if t153 = t154 then (some (([] : List (S44)), ([] : List (S36)), false)) else (if 0 ≤ t153 then (if t153 < (l0_0.length : Int) then (if 0 ≤ t154 then (if t154 < (l0_0.length : Int) then (if ((rd_T44 l0_0 t153).f1) = ((rd_T44 l0_0 t154).f1) then ((spec_l2Swap.f k l0_0 l0_1 a2 a1).bind fun bt158 => ((some (([] : List (S44)) : List (S44))).bind fun y165 => (if t154 ≤ (l0_0.length : Int) then ((some (l0_0.take (t154 : Int).toNat : List (S44))).bind fun y168 => (if y165.length + y168.length < 8796093022208 then ((some (y165 ++ y168 : List (S44))).bind fun y172 => (if 0 ≤ (wrap64 (t154 + 1)) then (if (wrap64 (t154 + 1)) ≤ (l0_0.length : Int) then ((some (l0_0.drop ((wrap64 (t154 + 1)) : Int).toNat : List (S44))).bind fun y175 => (if y172.length + y175.length < 8796093022208 then (some ((y172 ++ y175), bt158.2, true)) else (none))) else (none)) else (none))) else (none))) else (none)))) else (some (([] : List (S44)), ([] : List (S36)), false))) else (none)) else (none)) else (none)) else (none))))) else (some (([] : List (S44)), ([] : List (S36)), false))))) = some (r1, r2, r3) := H
 have A4 := Aside0.mk A40
 clear A40
 replace H := Option.bind_eq_some_iff.mp H
 obtain ⟨t154, A50, H⟩ := H
 replace H : ((spec_l2Good.f l0_0 l0_1).bind fun t155 => (if t155 = true then (if t153 < 0 then (some (([] : List (S44)), ([] : List (S36)), false)) else (if t154 < 0 then (some (([] : List (S44)), ([] : List (S36)), false)) else (if t153 = t154 then (some (([] : List (S44)), ([] : List (S36)), false)) else (if 0 ≤ t153 then (if t153 < (l0_0.length : Int) then (if 0 ≤ t154 then (if t154 < (l0_0.length : Int) then (if ((rd_T44 l0_0 t153).f1) = ((rd_T44 l0_0 t154).f1) then ((spec_l2Swap.f k l0_0 l0_1 a2 a1).bind fun bt158 => ((some (([] : List (S44)) : List (S44))).bind fun y165 => (if t154 ≤ (l0_0.length : Int) then ((some (l0_0.take (t154 : Int).toNat : List (S44))).bind fun y168 => (if y165.length + y168.length < 8796093022208 then ((some (y165 ++ y168 : List (S44))).bind fun y172 => (if 0 ≤ (wrap64 (t154 + 1)) then (if (wrap64 (t154 + 1)) ≤ (l0_0.length : Int) then ((some (l0_0.drop ((wrap64 (t154 + 1)) : Int).toNat : List (S44))).bind fun y175 => (if y172.length + y175.length < 8796093022208 then (some ((y172 ++ y175), bt158.2, true)) else (none))) else (none)) else (none))) else (none))) else (none)))) else (some (([] : List (S44)), ([] : List (S36)), false))) else (none)) else (none)) else (none)) else (none))))) else (some (([] : List (S44)), ([] : List (S36)), false)))) = some (r1, r2, r3) := H
 have A5 := Aside0.mk A50
 clear A50
 replace H := Option.bind_eq_some_iff.mp H
 obtain ⟨t155, A60, H⟩ := H
 replace H : (if t155 = true then (if t153 < 0 then (some (([] : List (S44)), ([] : List (S36)), false)) else (if t154 < 0 then (some (([] : List (S44)), ([] : List (S36)), false)) else (if t153 = t154 then (some (([] : List (S44)), ([] : List (S36)), false)) else (if 0 ≤ t153 then (if t153 < (l0_0.length : Int) then (if 0 ≤ t154 then (if t154 < (l0_0.length : Int) then (if ((rd_T44 l0_0 t153).f1) = ((rd_T44 l0_0 t154).f1) then ((spec_l2Swap.f k l0_0 l0_1 a2 a1).bind fun bt158 => ((some (([] : List (S44)) : List (S44))).bind fun y165 => (if t154 ≤ (l0_0.length : Int) then ((some (l0_0.take (t154 : Int).toNat : List (S44))).bind fun y168 => (if y165.length + y168.length < 8796093022208 then ((some (y165 ++ y168 : List (S44))).bind fun y172 => (if 0 ≤ (wrap64 (t154 + 1)) then (if (wrap64 (t154 + 1)) ≤ (l0_0.length : Int) then ((some (l0_0.drop ((wrap64 (t154 + 1)) : Int).toNat : List (S44))).bind fun y175 => (if y172.length + y175.length < 8796093022208 then (some ((y172 ++ y175), bt158.2, true)) else (none))) else (none)) else (none))) else (none))) else (none)))) else (some (([] : List (S44)), ([] : List (S36)), false))) else (none)) else (none)) else (none)) else (none))))) else (some (([] : List (S44)), ([] : List (S36)), false))) = some (r1, r2, r3) := H
 have A6 := Aside0.mk A60
 clear A60
 by_cases c7 : t155 = true
 ·subst c7
  have H1 : (if t153 < 0 then (some (([] : List (S44)), ([] : List (S36)), false)) else (if t154 < 0 then (some (([] : List (S44)), ([] : List (S36)), false)) else (if t153 = t154 then (some (([] : List (S44)), ([] : List (S36)), false)) else (if 0 ≤ t153 then (if t153 < (l0_0.length : Int) then (if 0 ≤ t154 then (if t154 < (l0_0.length : Int) then (if ((rd_T44 l0_0 t153).f1) = ((rd_T44 l0_0 t154).f1) then ((spec_l2Swap.f k l0_0 l0_1 a2 a1).bind fun bt158 => ((some (([] : List (S44)) : List (S44))).bind fun y165 => (if t154 ≤ (l0_0.length : Int) then ((some (l0_0.take (t154 : Int).toNat : List (S44))).bind fun y168 => (if y165.length + y168.length < 8796093022208 then ((some (y165 ++ y168 : List (S44))).bind fun y172 => (if 0 ≤ (wrap64 (t154 + 1)) then (if (wrap64 (t154 + 1)) ≤ (l0_0.length : Int) then ((some (l0_0.drop ((wrap64 (t154 + 1)) : Int).toNat : List (S44))).bind fun y175 => (if y172.length + y175.length < 8796093022208 then (some ((y172 ++ y175), bt158.2, true)) else (none))) else (none)) else (none))) else (none))) else (none)))) else (some (([] : List (S44)), ([] : List (S36)), false))) else (none)) else (none)) else (none)) else (none))))) = some (r1, r2, r3) := by rw [if_pos rfl] at H; exact H
  clear H
  have H := H1
  clear H1
  by_cases c8 : t153 < 0
  ·rw [if_pos c8] at H
   have c8b0 : decide (t153 < 0) = true := decide_eq_true c8
   clear c8
   simp only [Option.some.injEq, Prod.mk.injEq] at H
   obtain ⟨rfl, rfl, rfl⟩ := H
   go_enter Try.func24, Try.ntmps24
   try go_wp2_with (first | ((with_reducible refine gate_dst (N := 3) rfl ?_); refine box_event ?hg (N := 3) ?hd (cs := #[.slice A0_0 l0_0.length c0_0, .slice A0_1 l0_1.length c0_1]) (t := 32) ?hr ?_; (case hd => rfl); (case hg => rfl); (case hr => first | (go_simp; done) | (go_simp; rfl)); intro gb151 hg w9 hbox hb; have n0_ := Aside0.mk (below_step (wz_ HB.out) hb); have n1_ := Aside0.mk (hbox); have n2_ := Aside0.mk ((by rw [hg]; exact (below_size (wz_ HB.out)) : w.heap.size ≤ gb151)); have n3_ := Aside0.mk ((by rw [hg]; exact (below_size (wz_ HB.out)) : w.heap.size ≤ gb151)); clear HB; have HB := n0_; have BK151 := n1_; have GW151 := n2_; have GE151 := n3_; clear n0_ n1_ n2_ n3_; clear hb hbox hg) | ((with_reducible refine gate_dst (N := 6) rfl ?_); refine box_event ?hg (N := 6) ?hd (cs := #[.slice none 0 0, .slice none 0 0]) (t := 32) ?hr ?_; (case hd => rfl); (case hg => rfl); (case hr => first | (go_simp; done) | (go_simp; rfl)); intro gb152 hg w10 hbox hb; have n0_ := Aside0.mk (blk_below (bz_ BK151.out) hb); have n1_ := Aside0.mk (below_step (by repeat (first | (with_reducible first | exact HB.out | apply below_alloc | apply pw_below_drewN | apply below_drew1 | refine below_set ?_ GE151.out) | exact HB.out)) hb); have n2_ := Aside0.mk (hbox); have n3_ := Aside0.mk ((by rw [hg]; exact (below_size (by repeat (first | (with_reducible first | exact HB.out | apply below_alloc | apply pw_below_drewN | apply below_drew1 | refine below_set ?_ GE151.out) | exact HB.out))) : w.heap.size ≤ gb152)); have n4_ := Aside0.mk ((by rw [hg]; exact (below_size (by repeat (first | (with_reducible first | exact HB.out | apply below_alloc | apply pw_below_drewN | apply below_drew1 | refine below_set ?_ GE151.out) | exact HB.out))) : w.heap.size ≤ gb152)); have n5_ := Aside0.mk ((by rw [hg]; exact Nat.ne_of_lt (blk_lt (g := gb151) (o := .cells #[.slice A0_0 l0_0.length c0_0, .slice A0_1 l0_1.length c0_1] 32 (0, 0)) (bz_ BK151.out)) : gb151 ≠ gb152)); have n6_ := Aside0.mk ((by rw [hg]; exact Nat.ne_of_gt (blk_lt (g := gb151) (o := .cells #[.slice A0_0 l0_0.length c0_0, .slice A0_1 l0_1.length c0_1] 32 (0, 0)) (bz_ BK151.out)) : gb152 ≠ gb151)); clear BK151; clear HB; have BK151 := n0_; have HB := n1_; have BK152 := n2_; have GW152 := n3_; have GE152 := n4_; have NB151_152 := n5_; have NB152_151 := n6_; clear n0_ n1_ n2_ n3_ n4_ n5_ n6_; clear hb hbox hg))
   have n0_ := Aside0.mk (blk_drew BK151.out)
   have n1_ := Aside0.mk (blk_drew BK152.out)
   have n2_ := Aside0.mk (below_drew1 HB.out)
   clear BK151
   clear BK152
   clear HB
   have BK151 := n0_
   have BK152 := n1_
   have HB := n2_
   clear n0_ n1_ n2_
   refine start_ (n := 8) (S := fun w' => w'.cell? ⟨gb151, 0, none⟩ = some (.slice A0_0 l0_0.length c0_0) ∧ w'.cell? ⟨gb151, 1, none⟩ = some (.slice A0_1 l0_1.length c0_1)) (ds := []) #[false, false, false, false, false, false, false, false] (by kernel_rfl) rfl rfl ⟨(blk_cell BK151.out 0).trans rfl, (blk_cell BK151.out 1).trans rfl⟩ (fun hHeld => ?_); refine with_tabW spec_EquateContexts.tab1 spec_EquateContexts.bits1 (fun HT_ HW_ => ?_)
   generalize w10.drew = w11 at BK151 BK152 HB hHeld ⊢
   refine pA_ 1 (some 12) #[false, true, false, false, false, false, false, false] HT_.out (h := ?_)
   refine pA_ 4 (some 15) #[false, true, false, false, true, false, false, false] HT_.out (h := ?_)
   refine tA_ 0 (some 11) #[true, true, false, false, true, false, false, false] HT_.out HW_.out hHeld (h := ?_)
   refine tA_ 3 (some 14) #[true, true, false, true, true, false, false, false] HT_.out HW_.out hHeld (h := ?_)
   refine one_ (i := 2) (N := some 13) (bl 5 8) rfl rfl (one_of HT_.out (by kernel_rfl)) (by decide) (fun K hK => ?_)
   refine goes_ Try.func51 (by kernel_rfl) rfl #[.agg #[.slice A0_0 l0_0.length c0_0, .slice A0_1 l0_1.length c0_1], .int .i64 a1] (by rfl) rfl rfl (by (try simp only [List.map_toArray, List.map_cons, List.map_nil]); first | done | rfl | (simp only [List.length_drop, List.length_take]; rfl)) ?_
   with_reducible refine (spec_l2Find.calls _ _ l0_0 _ _ l0_1 a1 t153 _ ?side1 ?side2 ?side3 ?side4 A4.out).mono ?_
   (case side1 => exact cz_ (Kd.C_below HR0_0.out HB.out))
   (case side2 => exact HC0_0.out)
   (case side3 => exact cz_ (Kd.C_below HR0_1.out HB.out))
   (case side4 => exact HC0_1.out)
   rintro e w12 ⟨rfl, hb⟩
   refine ⟨_, rfl, ?_⟩
   have n0_ := Aside0.mk (blk_below (bz_ BK151.out) hb)
   have n1_ := Aside0.mk (blk_below (bz_ BK152.out) hb)
   have n2_ := Aside0.mk (below_step (by repeat (first | (with_reducible first | exact HB.out | apply below_alloc | apply pw_below_drewN | apply below_drew1 | refine below_set ?_ GE151.out | refine below_set ?_ GE152.out) | exact HB.out)) hb)
   clear BK151
   clear BK152
   clear HB
   have BK151 := n0_
   have BK152 := n1_
   have HB := n2_
   clear n0_ n1_ n2_
   (try clear hb)
   (try clear hb2)
   (try clear hk)
   (try clear hi)
   refine hK.out _ _ ⟨(blk_cell BK151.out 0).trans rfl, (blk_cell BK151.out 1).trans rfl⟩ (fun hHeld => ?_)
   clear hK K
   refine norm_ (a' := ?_) ?_ ?_
   rotate_left
   ·show Act.put _ (some 13) _ = _
    simp only [Act.put, List.setIfInBounds_toArray, List.set_cons_zero, List.set_cons_succ, i64_w, i32_w]
    rfl
   refine one_ (i := 5) (N := some 16) (bl 6 8) rfl rfl (one_of HT_.out (by kernel_rfl)) (by decide) (fun K hK => ?_)
   refine goes_ Try.func51 (by kernel_rfl) rfl #[.agg #[.slice A0_0 l0_0.length c0_0, .slice A0_1 l0_1.length c0_1], .int .i64 a2] (by rfl) rfl rfl (by (try simp only [List.map_toArray, List.map_cons, List.map_nil]); first | done | rfl | (simp only [List.length_drop, List.length_take]; rfl)) ?_
   with_reducible refine (spec_l2Find.calls _ _ l0_0 _ _ l0_1 a2 t154 _ ?side1 ?side2 ?side3 ?side4 A5.out).mono ?_
   (case side1 => exact cz_ (Kd.C_below HR0_0.out HB.out))
   (case side2 => exact HC0_0.out)
   (case side3 => exact cz_ (Kd.C_below HR0_1.out HB.out))
   (case side4 => exact HC0_1.out)
   rintro e w13 ⟨rfl, hb⟩
   refine ⟨_, rfl, ?_⟩
   have n0_ := Aside0.mk (blk_below (bz_ BK151.out) hb)
   have n1_ := Aside0.mk (blk_below (bz_ BK152.out) hb)
   have n2_ := Aside0.mk (below_step (by repeat (first | (with_reducible first | exact HB.out | apply below_alloc | apply pw_below_drewN | apply below_drew1 | refine below_set ?_ GE151.out | refine below_set ?_ GE152.out) | exact HB.out)) hb)
   clear BK151
   clear BK152
   clear HB
   have BK151 := n0_
   have BK152 := n1_
   have HB := n2_
   clear n0_ n1_ n2_
   (try clear hb)
   (try clear hb2)
   (try clear hk)
   (try clear hi)
   refine hK.out _ _ ⟨(blk_cell BK151.out 0).trans rfl, (blk_cell BK151.out 1).trans rfl⟩ (fun hHeld => ?_)
   clear hK K
   refine norm_ (a' := ?_) ?_ ?_
   rotate_left
   ·show Act.put _ (some 16) _ = _
    simp only [Act.put, List.setIfInBounds_toArray, List.set_cons_zero, List.set_cons_succ, i64_w, i32_w]
    rfl
   refine pA_ 6 (some 8) (bl 7 8) HT_.out (h := ?_)
   refine pA_ 7 (some 9) (bl 8 8) HT_.out (h := ?_)
   refine done_ (done_of HT_.out (by kernel_rfl)) ?_
   try go_wp2
   have n0_ := Aside0.mk (blk_drew BK151.out)
   have n1_ := Aside0.mk (blk_drew BK152.out)
   have n2_ := Aside0.mk (below_drew1 HB.out)
   clear BK151
   clear BK152
   clear HB
   have BK151 := n0_
   have BK152 := n1_
   have HB := n2_
   clear n0_ n1_ n2_
   refine start_ (n := 31) (S := fun w' => w'.cell? ⟨gb151, 0, none⟩ = some (.slice A0_0 l0_0.length c0_0) ∧ w'.cell? ⟨gb151, 1, none⟩ = some (.slice A0_1 l0_1.length c0_1)) (ds := []) #[false, false, false, false, false, false, false, false, false, false, false, false, false, false, false, false, false, false, false, false, false, false, false, false, false, false, false, false, false, false, false] (by kernel_rfl) rfl rfl ⟨(blk_cell BK151.out 0).trans rfl, (blk_cell BK151.out 1).trans rfl⟩ (fun hHeld => ?_); refine with_tabW spec_EquateContexts.tab2 spec_EquateContexts.bits2 (fun HT_ HW_ => ?_)
   generalize w13.drew = w14 at BK151 BK152 HB hHeld ⊢
   refine tA_ 0 (some 17) (bl 1 31) HT_.out HW_.out hHeld (h := ?_)
   refine one_ (i := 1) (N := some 18) (bl 2 31) rfl rfl (one_of HT_.out (by kernel_rfl)) (by decide) (fun K hK => ?_)
   refine goes_ Try.func33 (by kernel_rfl) rfl #[.agg #[.slice A0_0 l0_0.length c0_0, .slice A0_1 l0_1.length c0_1]] (by rfl) rfl rfl (by (try simp only [List.map_toArray, List.map_cons, List.map_nil]); first | done | rfl | (simp only [List.length_drop, List.length_take]; rfl)) ?_
   with_reducible refine (spec_l2Good.calls _ _ l0_0 _ _ l0_1 true _ ?side1 ?side2 ?side3 ?side4 A6.out).mono ?_
   (case side1 => exact cz_ (Kd.C_below HR0_0.out HB.out))
   (case side2 => exact HC0_0.out)
   (case side3 => exact cz_ (Kd.C_below HR0_1.out HB.out))
   (case side4 => exact HC0_1.out)
   rintro e w15 ⟨rfl, hb⟩
   refine ⟨_, rfl, ?_⟩
   have n0_ := Aside0.mk (blk_below (bz_ BK151.out) hb)
   have n1_ := Aside0.mk (blk_below (bz_ BK152.out) hb)
   have n2_ := Aside0.mk (below_step (by repeat (first | (with_reducible first | exact HB.out | apply below_alloc | apply pw_below_drewN | apply below_drew1 | refine below_set ?_ GE151.out | refine below_set ?_ GE152.out) | exact HB.out)) hb)
   clear BK151
   clear BK152
   clear HB
   have BK151 := n0_
   have BK152 := n1_
   have HB := n2_
   clear n0_ n1_ n2_
   (try clear hb)
   (try clear hb2)
   (try clear hk)
   (try clear hi)
   refine hK.out _ _ ⟨(blk_cell BK151.out 0).trans rfl, (blk_cell BK151.out 1).trans rfl⟩ (fun hHeld => ?_)
   clear hK K
   refine norm_ (a' := ?_) ?_ ?_
   rotate_left
   ·show Act.put _ (some 18) _ = _
    simp only [Act.put, List.setIfInBounds_toArray, List.set_cons_zero, List.set_cons_succ, i64_w, i32_w]
    rfl
   refine pA_ 2 (some 19) (bl 3 31) HT_.out (h := ?_)
   refine pA_ 3 (some 20) (bl 4 31) HT_.out (h := ?_)
   refine pA_ 4 (some 21) (bl 5 31) HT_.out (h := ?_)
   refine pA_ 5 (some 22) (bl 6 31) HT_.out (h := ?_)
   refine pA_ 6 (some 23) (bl 7 31) HT_.out (h := ?_)
   refine pA_ 7 (some 24) (bl 8 31) HT_.out (h := ?_)
   refine pO_ 8 (some 25) (bl 9 31) HT_.out (h := ?_)
   refine pO_ 9 (some 26) (bl 10 31) HT_.out (h := ?_)
   refine pA_ 10 (some 27) (bl 11 31) HT_.out (h := ?_)
   refine pA_ 11 (some 28) (bl 12 31) HT_.out (h := ?_)
   refine pO_ 12 (some 29) (bl 13 31) HT_.out (h := ?_)
   refine pO_ 13 (some 30) (bl 14 31) HT_.out (h := ?_)
   refine pO_ 14 (some 31) (bl 15 31) HT_.out (h := ?_)
   refine pA_ 15 (some 32) (bl 16 31) HT_.out (h := ?_)
   refine pA_ 16 (some 33) (bl 17 31) HT_.out (h := ?_)
   refine pO_ 17 (some 34) (bl 18 31) HT_.out (h := ?_)
   refine pO_ 18 (some 35) (bl 19 31) HT_.out (h := ?_)
   refine pO_ 19 (some 36) (bl 20 31) HT_.out (h := ?_)
   refine pO_ 20 (some 37) (bl 21 31) HT_.out (h := ?_)
   refine pO_ 21 (some 38) (bl 22 31) HT_.out (h := ?_)
   refine pO_ 22 (some 39) (bl 23 31) HT_.out (h := ?_)
   refine pO_ 23 (some 40) (bl 24 31) HT_.out (h := ?_)
   refine pO_ 24 (some 41) (bl 25 31) HT_.out (h := ?_)
   refine pO_ 25 (some 42) (bl 26 31) HT_.out (h := ?_)
   refine pO_ 26 (some 43) (bl 27 31) HT_.out (h := ?_)
   refine pO_ 27 (some 44) (bl 28 31) HT_.out (h := ?_)
   refine pO_ 28 (some 45) (bl 29 31) HT_.out (h := ?_)
   refine pO_ 29 (some 46) (bl 30 31) HT_.out (h := ?_)
   refine pA_ 30 (some 47) (bl 31 31) HT_.out (h := ?_)
   refine done_ (done_of HT_.out (by kernel_rfl)) ?_
   have hnb16 := NB152_151.out
   have hnc16 := NB151_152.out
   have hcz17_0 : w15.cell? ⟨gb152, 0, none⟩ = some (.slice none 0 0) := (blk_cell BK152.out 0).trans rfl
   have hcz17_1 : w15.cell? ⟨gb152, 1, none⟩ = some (.slice none 0 0) := (blk_cell BK152.out 1).trans rfl
   have hfz17_0 := blk_frozen BK152.out 0
   have hfz17_1 := blk_frozen BK152.out 1
   try go_wp2
   refine bodyPost_ret (results_ct rfl _ _ gb152 32 #[.slice none 0 0, .slice none 0 0] (0, 0) _ rfl (by (with_reducible repeat (first | refine blk_drewN ?_ _ | refine blk_drew ?_ | refine blk_alloc ?_ _)); refine blk_put (cs := #[.slice none 0 0, .slice none 0 0]) ?_ 1 _ rfl; (with_reducible repeat (first | refine blk_drewN ?_ _ | refine blk_drew ?_ | refine blk_alloc ?_ _)); refine blk_put (cs := #[.slice none 0 0, .slice none 0 0]) ?_ 0 _ rfl; (with_reducible repeat (first | refine blk_drewN ?_ _ | refine blk_drew ?_ | refine blk_alloc ?_ _)); exact BK152.out) Try.underlying32 rfl (by kernel_rfl)) rfl ?_
   exact ⟨_, _, by first | rfl | (simp [errW_none, errW_some] <;> rfl) | (simp [*, errW_none, errW_some] <;> rfl), by first | exact Kd.R_nil _ _ _ _ _ | exact Kd.N_nil _ _ _ _ _ | exact Kd.V_nil _ _ _ _ _ | exact Kd.Q_nil _ _ _ _ _ | exact Kd.S_nil _ _ _ _ _, by first | exact Kd.R_nil _ _ _ _ _ | exact Kd.N_nil _ _ _ _ _ | exact Kd.V_nil _ _ _ _ _ | exact Kd.Q_nil _ _ _ _ _ | exact Kd.S_nil _ _ _ _ _, by repeat (first | (with_reducible first | exact HB.out | apply below_alloc | apply pw_below_drewN | apply below_drew1 | refine below_set ?_ GE151.out | refine below_set ?_ GE152.out) | exact HB.out)⟩
  ·rw [if_neg c8] at H
   have c8b0 : decide (t153 < 0) = false := decide_eq_false c8
   clear c8
   by_cases c18 : t154 < 0
   ·rw [if_pos c18] at H
    have c18b0 : decide (t154 < 0) = true := decide_eq_true c18
    clear c18
    simp only [Option.some.injEq, Prod.mk.injEq] at H
    obtain ⟨rfl, rfl, rfl⟩ := H
    go_enter Try.func24, Try.ntmps24
    try go_wp2_with (first | ((with_reducible refine gate_dst (N := 3) rfl ?_); refine box_event ?hg (N := 3) ?hd (cs := #[.slice A0_0 l0_0.length c0_0, .slice A0_1 l0_1.length c0_1]) (t := 32) ?hr ?_; (case hd => rfl); (case hg => rfl); (case hr => first | (go_simp; done) | (go_simp; rfl)); intro gb151 hg w19 hbox hb; have n0_ := Aside0.mk (below_step (wz_ HB.out) hb); have n1_ := Aside0.mk (hbox); have n2_ := Aside0.mk ((by rw [hg]; exact (below_size (wz_ HB.out)) : w.heap.size ≤ gb151)); have n3_ := Aside0.mk ((by rw [hg]; exact (below_size (wz_ HB.out)) : w.heap.size ≤ gb151)); clear HB; have HB := n0_; have BK151 := n1_; have GW151 := n2_; have GE151 := n3_; clear n0_ n1_ n2_ n3_; clear hb hbox hg) | ((with_reducible refine gate_dst (N := 6) rfl ?_); refine box_event ?hg (N := 6) ?hd (cs := #[.slice none 0 0, .slice none 0 0]) (t := 32) ?hr ?_; (case hd => rfl); (case hg => rfl); (case hr => first | (go_simp; done) | (go_simp; rfl)); intro gb152 hg w20 hbox hb; have n0_ := Aside0.mk (blk_below (bz_ BK151.out) hb); have n1_ := Aside0.mk (below_step (by repeat (first | (with_reducible first | exact HB.out | apply below_alloc | apply pw_below_drewN | apply below_drew1 | refine below_set ?_ GE151.out) | exact HB.out)) hb); have n2_ := Aside0.mk (hbox); have n3_ := Aside0.mk ((by rw [hg]; exact (below_size (by repeat (first | (with_reducible first | exact HB.out | apply below_alloc | apply pw_below_drewN | apply below_drew1 | refine below_set ?_ GE151.out) | exact HB.out))) : w.heap.size ≤ gb152)); have n4_ := Aside0.mk ((by rw [hg]; exact (below_size (by repeat (first | (with_reducible first | exact HB.out | apply below_alloc | apply pw_below_drewN | apply below_drew1 | refine below_set ?_ GE151.out) | exact HB.out))) : w.heap.size ≤ gb152)); have n5_ := Aside0.mk ((by rw [hg]; exact Nat.ne_of_lt (blk_lt (g := gb151) (o := .cells #[.slice A0_0 l0_0.length c0_0, .slice A0_1 l0_1.length c0_1] 32 (0, 0)) (bz_ BK151.out)) : gb151 ≠ gb152)); have n6_ := Aside0.mk ((by rw [hg]; exact Nat.ne_of_gt (blk_lt (g := gb151) (o := .cells #[.slice A0_0 l0_0.length c0_0, .slice A0_1 l0_1.length c0_1] 32 (0, 0)) (bz_ BK151.out)) : gb152 ≠ gb151)); clear BK151; clear HB; have BK151 := n0_; have HB := n1_; have BK152 := n2_; have GW152 := n3_; have GE152 := n4_; have NB151_152 := n5_; have NB152_151 := n6_; clear n0_ n1_ n2_ n3_ n4_ n5_ n6_; clear hb hbox hg))
    have n0_ := Aside0.mk (blk_drew BK151.out)
    have n1_ := Aside0.mk (blk_drew BK152.out)
    have n2_ := Aside0.mk (below_drew1 HB.out)
    clear BK151
    clear BK152
    clear HB
    have BK151 := n0_
    have BK152 := n1_
    have HB := n2_
    clear n0_ n1_ n2_
    refine start_ (n := 8) (S := fun w' => w'.cell? ⟨gb151, 0, none⟩ = some (.slice A0_0 l0_0.length c0_0) ∧ w'.cell? ⟨gb151, 1, none⟩ = some (.slice A0_1 l0_1.length c0_1)) (ds := []) #[false, false, false, false, false, false, false, false] (by kernel_rfl) rfl rfl ⟨(blk_cell BK151.out 0).trans rfl, (blk_cell BK151.out 1).trans rfl⟩ (fun hHeld => ?_); refine with_tabW spec_EquateContexts.tab1 spec_EquateContexts.bits1 (fun HT_ HW_ => ?_)
    generalize w20.drew = w21 at BK151 BK152 HB hHeld ⊢
    refine pA_ 1 (some 12) #[false, true, false, false, false, false, false, false] HT_.out (h := ?_)
    refine pA_ 4 (some 15) #[false, true, false, false, true, false, false, false] HT_.out (h := ?_)
    refine tA_ 0 (some 11) #[true, true, false, false, true, false, false, false] HT_.out HW_.out hHeld (h := ?_)
    refine tA_ 3 (some 14) #[true, true, false, true, true, false, false, false] HT_.out HW_.out hHeld (h := ?_)
    refine one_ (i := 2) (N := some 13) (bl 5 8) rfl rfl (one_of HT_.out (by kernel_rfl)) (by decide) (fun K hK => ?_)
    refine goes_ Try.func51 (by kernel_rfl) rfl #[.agg #[.slice A0_0 l0_0.length c0_0, .slice A0_1 l0_1.length c0_1], .int .i64 a1] (by rfl) rfl rfl (by (try simp only [List.map_toArray, List.map_cons, List.map_nil]); first | done | rfl | (simp only [List.length_drop, List.length_take]; rfl)) ?_
    with_reducible refine (spec_l2Find.calls _ _ l0_0 _ _ l0_1 a1 t153 _ ?side1 ?side2 ?side3 ?side4 A4.out).mono ?_
    (case side1 => exact cz_ (Kd.C_below HR0_0.out HB.out))
    (case side2 => exact HC0_0.out)
    (case side3 => exact cz_ (Kd.C_below HR0_1.out HB.out))
    (case side4 => exact HC0_1.out)
    rintro e w22 ⟨rfl, hb⟩
    refine ⟨_, rfl, ?_⟩
    have n0_ := Aside0.mk (blk_below (bz_ BK151.out) hb)
    have n1_ := Aside0.mk (blk_below (bz_ BK152.out) hb)
    have n2_ := Aside0.mk (below_step (by repeat (first | (with_reducible first | exact HB.out | apply below_alloc | apply pw_below_drewN | apply below_drew1 | refine below_set ?_ GE151.out | refine below_set ?_ GE152.out) | exact HB.out)) hb)
    clear BK151
    clear BK152
    clear HB
    have BK151 := n0_
    have BK152 := n1_
    have HB := n2_
    clear n0_ n1_ n2_
    (try clear hb)
    (try clear hb2)
    (try clear hk)
    (try clear hi)
    refine hK.out _ _ ⟨(blk_cell BK151.out 0).trans rfl, (blk_cell BK151.out 1).trans rfl⟩ (fun hHeld => ?_)
    clear hK K
    refine norm_ (a' := ?_) ?_ ?_
    rotate_left
    ·show Act.put _ (some 13) _ = _
     simp only [Act.put, List.setIfInBounds_toArray, List.set_cons_zero, List.set_cons_succ, i64_w, i32_w]
     rfl
    refine one_ (i := 5) (N := some 16) (bl 6 8) rfl rfl (one_of HT_.out (by kernel_rfl)) (by decide) (fun K hK => ?_)
    refine goes_ Try.func51 (by kernel_rfl) rfl #[.agg #[.slice A0_0 l0_0.length c0_0, .slice A0_1 l0_1.length c0_1], .int .i64 a2] (by rfl) rfl rfl (by (try simp only [List.map_toArray, List.map_cons, List.map_nil]); first | done | rfl | (simp only [List.length_drop, List.length_take]; rfl)) ?_
    with_reducible refine (spec_l2Find.calls _ _ l0_0 _ _ l0_1 a2 t154 _ ?side1 ?side2 ?side3 ?side4 A5.out).mono ?_
    (case side1 => exact cz_ (Kd.C_below HR0_0.out HB.out))
    (case side2 => exact HC0_0.out)
    (case side3 => exact cz_ (Kd.C_below HR0_1.out HB.out))
    (case side4 => exact HC0_1.out)
    rintro e w23 ⟨rfl, hb⟩
    refine ⟨_, rfl, ?_⟩
    have n0_ := Aside0.mk (blk_below (bz_ BK151.out) hb)
    have n1_ := Aside0.mk (blk_below (bz_ BK152.out) hb)
    have n2_ := Aside0.mk (below_step (by repeat (first | (with_reducible first | exact HB.out | apply below_alloc | apply pw_below_drewN | apply below_drew1 | refine below_set ?_ GE151.out | refine below_set ?_ GE152.out) | exact HB.out)) hb)
    clear BK151
    clear BK152
    clear HB
    have BK151 := n0_
    have BK152 := n1_
    have HB := n2_
    clear n0_ n1_ n2_
    (try clear hb)
    (try clear hb2)
    (try clear hk)
    (try clear hi)
    refine hK.out _ _ ⟨(blk_cell BK151.out 0).trans rfl, (blk_cell BK151.out 1).trans rfl⟩ (fun hHeld => ?_)
    clear hK K
    refine norm_ (a' := ?_) ?_ ?_
    rotate_left
    ·show Act.put _ (some 16) _ = _
     simp only [Act.put, List.setIfInBounds_toArray, List.set_cons_zero, List.set_cons_succ, i64_w, i32_w]
     rfl
    refine pA_ 6 (some 8) (bl 7 8) HT_.out (h := ?_)
    refine pA_ 7 (some 9) (bl 8 8) HT_.out (h := ?_)
    refine done_ (done_of HT_.out (by kernel_rfl)) ?_
    try go_wp2
    have n0_ := Aside0.mk (blk_drew BK151.out)
    have n1_ := Aside0.mk (blk_drew BK152.out)
    have n2_ := Aside0.mk (below_drew1 HB.out)
    clear BK151
    clear BK152
    clear HB
    have BK151 := n0_
    have BK152 := n1_
    have HB := n2_
    clear n0_ n1_ n2_
    refine start_ (n := 31) (S := fun w' => w'.cell? ⟨gb151, 0, none⟩ = some (.slice A0_0 l0_0.length c0_0) ∧ w'.cell? ⟨gb151, 1, none⟩ = some (.slice A0_1 l0_1.length c0_1)) (ds := []) #[false, false, false, false, false, false, false, false, false, false, false, false, false, false, false, false, false, false, false, false, false, false, false, false, false, false, false, false, false, false, false] (by kernel_rfl) rfl rfl ⟨(blk_cell BK151.out 0).trans rfl, (blk_cell BK151.out 1).trans rfl⟩ (fun hHeld => ?_); refine with_tabW spec_EquateContexts.tab2 spec_EquateContexts.bits2 (fun HT_ HW_ => ?_)
    generalize w23.drew = w24 at BK151 BK152 HB hHeld ⊢
    refine tA_ 0 (some 17) (bl 1 31) HT_.out HW_.out hHeld (h := ?_)
    refine one_ (i := 1) (N := some 18) (bl 2 31) rfl rfl (one_of HT_.out (by kernel_rfl)) (by decide) (fun K hK => ?_)
    refine goes_ Try.func33 (by kernel_rfl) rfl #[.agg #[.slice A0_0 l0_0.length c0_0, .slice A0_1 l0_1.length c0_1]] (by rfl) rfl rfl (by (try simp only [List.map_toArray, List.map_cons, List.map_nil]); first | done | rfl | (simp only [List.length_drop, List.length_take]; rfl)) ?_
    with_reducible refine (spec_l2Good.calls _ _ l0_0 _ _ l0_1 true _ ?side1 ?side2 ?side3 ?side4 A6.out).mono ?_
    (case side1 => exact cz_ (Kd.C_below HR0_0.out HB.out))
    (case side2 => exact HC0_0.out)
    (case side3 => exact cz_ (Kd.C_below HR0_1.out HB.out))
    (case side4 => exact HC0_1.out)
    rintro e w25 ⟨rfl, hb⟩
    refine ⟨_, rfl, ?_⟩
    have n0_ := Aside0.mk (blk_below (bz_ BK151.out) hb)
    have n1_ := Aside0.mk (blk_below (bz_ BK152.out) hb)
    have n2_ := Aside0.mk (below_step (by repeat (first | (with_reducible first | exact HB.out | apply below_alloc | apply pw_below_drewN | apply below_drew1 | refine below_set ?_ GE151.out | refine below_set ?_ GE152.out) | exact HB.out)) hb)
    clear BK151
    clear BK152
    clear HB
    have BK151 := n0_
    have BK152 := n1_
    have HB := n2_
    clear n0_ n1_ n2_
    (try clear hb)
    (try clear hb2)
    (try clear hk)
    (try clear hi)
    refine hK.out _ _ ⟨(blk_cell BK151.out 0).trans rfl, (blk_cell BK151.out 1).trans rfl⟩ (fun hHeld => ?_)
    clear hK K
    refine norm_ (a' := ?_) ?_ ?_
    rotate_left
    ·show Act.put _ (some 18) _ = _
     simp only [Act.put, List.setIfInBounds_toArray, List.set_cons_zero, List.set_cons_succ, i64_w, i32_w]
     rfl
    refine pA_ 2 (some 19) (bl 3 31) HT_.out (h := ?_)
    refine pA_ 3 (some 20) (bl 4 31) HT_.out (h := ?_)
    refine pA_ 4 (some 21) (bl 5 31) HT_.out (h := ?_)
    refine pA_ 5 (some 22) (bl 6 31) HT_.out (h := ?_)
    refine pA_ 6 (some 23) (bl 7 31) HT_.out (h := ?_)
    refine pA_ 7 (some 24) (bl 8 31) HT_.out (h := ?_)
    refine pA_ 8 (some 25) (bl 9 31) HT_.out (h := ?_)
    refine pA_ 9 (some 26) (bl 10 31) HT_.out (h := ?_)
    refine pA_ 10 (some 27) (bl 11 31) HT_.out (h := ?_)
    refine pA_ 11 (some 28) (bl 12 31) HT_.out (h := ?_)
    refine pO_ 12 (some 29) (bl 13 31) HT_.out (h := ?_)
    refine pO_ 13 (some 30) (bl 14 31) HT_.out (h := ?_)
    refine pO_ 14 (some 31) (bl 15 31) HT_.out (h := ?_)
    refine pA_ 15 (some 32) (bl 16 31) HT_.out (h := ?_)
    refine pA_ 16 (some 33) (bl 17 31) HT_.out (h := ?_)
    refine pO_ 17 (some 34) (bl 18 31) HT_.out (h := ?_)
    refine pO_ 18 (some 35) (bl 19 31) HT_.out (h := ?_)
    refine pO_ 19 (some 36) (bl 20 31) HT_.out (h := ?_)
    refine pO_ 20 (some 37) (bl 21 31) HT_.out (h := ?_)
    refine pO_ 21 (some 38) (bl 22 31) HT_.out (h := ?_)
    refine pO_ 22 (some 39) (bl 23 31) HT_.out (h := ?_)
    refine pO_ 23 (some 40) (bl 24 31) HT_.out (h := ?_)
    refine pO_ 24 (some 41) (bl 25 31) HT_.out (h := ?_)
    refine pO_ 25 (some 42) (bl 26 31) HT_.out (h := ?_)
    refine pO_ 26 (some 43) (bl 27 31) HT_.out (h := ?_)
    refine pO_ 27 (some 44) (bl 28 31) HT_.out (h := ?_)
    refine pO_ 28 (some 45) (bl 29 31) HT_.out (h := ?_)
    refine pO_ 29 (some 46) (bl 30 31) HT_.out (h := ?_)
    refine pA_ 30 (some 47) (bl 31 31) HT_.out (h := ?_)
    refine done_ (done_of HT_.out (by kernel_rfl)) ?_
    have hnb26 := NB152_151.out
    have hnc26 := NB151_152.out
    have hcz27_0 : w25.cell? ⟨gb152, 0, none⟩ = some (.slice none 0 0) := (blk_cell BK152.out 0).trans rfl
    have hcz27_1 : w25.cell? ⟨gb152, 1, none⟩ = some (.slice none 0 0) := (blk_cell BK152.out 1).trans rfl
    have hfz27_0 := blk_frozen BK152.out 0
    have hfz27_1 := blk_frozen BK152.out 1
    try go_wp2
    refine bodyPost_ret (results_ct rfl _ _ gb152 32 #[.slice none 0 0, .slice none 0 0] (0, 0) _ rfl (by (with_reducible repeat (first | refine blk_drewN ?_ _ | refine blk_drew ?_ | refine blk_alloc ?_ _)); refine blk_put (cs := #[.slice none 0 0, .slice none 0 0]) ?_ 1 _ rfl; (with_reducible repeat (first | refine blk_drewN ?_ _ | refine blk_drew ?_ | refine blk_alloc ?_ _)); refine blk_put (cs := #[.slice none 0 0, .slice none 0 0]) ?_ 0 _ rfl; (with_reducible repeat (first | refine blk_drewN ?_ _ | refine blk_drew ?_ | refine blk_alloc ?_ _)); exact BK152.out) Try.underlying32 rfl (by kernel_rfl)) rfl ?_
    exact ⟨_, _, by first | rfl | (simp [errW_none, errW_some] <;> rfl) | (simp [*, errW_none, errW_some] <;> rfl), by first | exact Kd.R_nil _ _ _ _ _ | exact Kd.N_nil _ _ _ _ _ | exact Kd.V_nil _ _ _ _ _ | exact Kd.Q_nil _ _ _ _ _ | exact Kd.S_nil _ _ _ _ _, by first | exact Kd.R_nil _ _ _ _ _ | exact Kd.N_nil _ _ _ _ _ | exact Kd.V_nil _ _ _ _ _ | exact Kd.Q_nil _ _ _ _ _ | exact Kd.S_nil _ _ _ _ _, by repeat (first | (with_reducible first | exact HB.out | apply below_alloc | apply pw_below_drewN | apply below_drew1 | refine below_set ?_ GE151.out | refine below_set ?_ GE152.out) | exact HB.out)⟩
   ·rw [if_neg c18] at H
    have c18b0 : decide (t154 < 0) = false := decide_eq_false c18
    clear c18
    by_cases c28 : t153 = t154
    ·rw [if_pos c28] at H
     have c28b0 : (t153 == t154) = true := beq_iff_eq.mpr c28
     have c28b1 : (t153 != t154) = false := bne_eq_false_iff_eq.mpr c28
     clear c28
     simp only [Option.some.injEq, Prod.mk.injEq] at H
     obtain ⟨rfl, rfl, rfl⟩ := H
     go_enter Try.func24, Try.ntmps24
     try go_wp2_with (first | ((with_reducible refine gate_dst (N := 3) rfl ?_); refine box_event ?hg (N := 3) ?hd (cs := #[.slice A0_0 l0_0.length c0_0, .slice A0_1 l0_1.length c0_1]) (t := 32) ?hr ?_; (case hd => rfl); (case hg => rfl); (case hr => first | (go_simp; done) | (go_simp; rfl)); intro gb151 hg w29 hbox hb; have n0_ := Aside0.mk (below_step (wz_ HB.out) hb); have n1_ := Aside0.mk (hbox); have n2_ := Aside0.mk ((by rw [hg]; exact (below_size (wz_ HB.out)) : w.heap.size ≤ gb151)); have n3_ := Aside0.mk ((by rw [hg]; exact (below_size (wz_ HB.out)) : w.heap.size ≤ gb151)); clear HB; have HB := n0_; have BK151 := n1_; have GW151 := n2_; have GE151 := n3_; clear n0_ n1_ n2_ n3_; clear hb hbox hg) | ((with_reducible refine gate_dst (N := 6) rfl ?_); refine box_event ?hg (N := 6) ?hd (cs := #[.slice none 0 0, .slice none 0 0]) (t := 32) ?hr ?_; (case hd => rfl); (case hg => rfl); (case hr => first | (go_simp; done) | (go_simp; rfl)); intro gb152 hg w30 hbox hb; have n0_ := Aside0.mk (blk_below (bz_ BK151.out) hb); have n1_ := Aside0.mk (below_step (by repeat (first | (with_reducible first | exact HB.out | apply below_alloc | apply pw_below_drewN | apply below_drew1 | refine below_set ?_ GE151.out) | exact HB.out)) hb); have n2_ := Aside0.mk (hbox); have n3_ := Aside0.mk ((by rw [hg]; exact (below_size (by repeat (first | (with_reducible first | exact HB.out | apply below_alloc | apply pw_below_drewN | apply below_drew1 | refine below_set ?_ GE151.out) | exact HB.out))) : w.heap.size ≤ gb152)); have n4_ := Aside0.mk ((by rw [hg]; exact (below_size (by repeat (first | (with_reducible first | exact HB.out | apply below_alloc | apply pw_below_drewN | apply below_drew1 | refine below_set ?_ GE151.out) | exact HB.out))) : w.heap.size ≤ gb152)); have n5_ := Aside0.mk ((by rw [hg]; exact Nat.ne_of_lt (blk_lt (g := gb151) (o := .cells #[.slice A0_0 l0_0.length c0_0, .slice A0_1 l0_1.length c0_1] 32 (0, 0)) (bz_ BK151.out)) : gb151 ≠ gb152)); have n6_ := Aside0.mk ((by rw [hg]; exact Nat.ne_of_gt (blk_lt (g := gb151) (o := .cells #[.slice A0_0 l0_0.length c0_0, .slice A0_1 l0_1.length c0_1] 32 (0, 0)) (bz_ BK151.out)) : gb152 ≠ gb151)); clear BK151; clear HB; have BK151 := n0_; have HB := n1_; have BK152 := n2_; have GW152 := n3_; have GE152 := n4_; have NB151_152 := n5_; have NB152_151 := n6_; clear n0_ n1_ n2_ n3_ n4_ n5_ n6_; clear hb hbox hg))
     have n0_ := Aside0.mk (blk_drew BK151.out)
     have n1_ := Aside0.mk (blk_drew BK152.out)
     have n2_ := Aside0.mk (below_drew1 HB.out)
     clear BK151
     clear BK152
     clear HB
     have BK151 := n0_
     have BK152 := n1_
     have HB := n2_
     clear n0_ n1_ n2_
     refine start_ (n := 8) (S := fun w' => w'.cell? ⟨gb151, 0, none⟩ = some (.slice A0_0 l0_0.length c0_0) ∧ w'.cell? ⟨gb151, 1, none⟩ = some (.slice A0_1 l0_1.length c0_1)) (ds := []) #[false, false, false, false, false, false, false, false] (by kernel_rfl) rfl rfl ⟨(blk_cell BK151.out 0).trans rfl, (blk_cell BK151.out 1).trans rfl⟩ (fun hHeld => ?_); refine with_tabW spec_EquateContexts.tab1 spec_EquateContexts.bits1 (fun HT_ HW_ => ?_)
     generalize w30.drew = w31 at BK151 BK152 HB hHeld ⊢
     refine pA_ 1 (some 12) #[false, true, false, false, false, false, false, false] HT_.out (h := ?_)
     refine pA_ 4 (some 15) #[false, true, false, false, true, false, false, false] HT_.out (h := ?_)
     refine tA_ 0 (some 11) #[true, true, false, false, true, false, false, false] HT_.out HW_.out hHeld (h := ?_)
     refine tA_ 3 (some 14) #[true, true, false, true, true, false, false, false] HT_.out HW_.out hHeld (h := ?_)
     refine one_ (i := 2) (N := some 13) (bl 5 8) rfl rfl (one_of HT_.out (by kernel_rfl)) (by decide) (fun K hK => ?_)
     refine goes_ Try.func51 (by kernel_rfl) rfl #[.agg #[.slice A0_0 l0_0.length c0_0, .slice A0_1 l0_1.length c0_1], .int .i64 a1] (by rfl) rfl rfl (by (try simp only [List.map_toArray, List.map_cons, List.map_nil]); first | done | rfl | (simp only [List.length_drop, List.length_take]; rfl)) ?_
     with_reducible refine (spec_l2Find.calls _ _ l0_0 _ _ l0_1 a1 t153 _ ?side1 ?side2 ?side3 ?side4 A4.out).mono ?_
     (case side1 => exact cz_ (Kd.C_below HR0_0.out HB.out))
     (case side2 => exact HC0_0.out)
     (case side3 => exact cz_ (Kd.C_below HR0_1.out HB.out))
     (case side4 => exact HC0_1.out)
     rintro e w32 ⟨rfl, hb⟩
     refine ⟨_, rfl, ?_⟩
     have n0_ := Aside0.mk (blk_below (bz_ BK151.out) hb)
     have n1_ := Aside0.mk (blk_below (bz_ BK152.out) hb)
     have n2_ := Aside0.mk (below_step (by repeat (first | (with_reducible first | exact HB.out | apply below_alloc | apply pw_below_drewN | apply below_drew1 | refine below_set ?_ GE151.out | refine below_set ?_ GE152.out) | exact HB.out)) hb)
     clear BK151
     clear BK152
     clear HB
     have BK151 := n0_
     have BK152 := n1_
     have HB := n2_
     clear n0_ n1_ n2_
     (try clear hb)
     (try clear hb2)
     (try clear hk)
     (try clear hi)
     refine hK.out _ _ ⟨(blk_cell BK151.out 0).trans rfl, (blk_cell BK151.out 1).trans rfl⟩ (fun hHeld => ?_)
     clear hK K
     refine norm_ (a' := ?_) ?_ ?_
     rotate_left
     ·show Act.put _ (some 13) _ = _
      simp only [Act.put, List.setIfInBounds_toArray, List.set_cons_zero, List.set_cons_succ, i64_w, i32_w]
      rfl
     refine one_ (i := 5) (N := some 16) (bl 6 8) rfl rfl (one_of HT_.out (by kernel_rfl)) (by decide) (fun K hK => ?_)
     refine goes_ Try.func51 (by kernel_rfl) rfl #[.agg #[.slice A0_0 l0_0.length c0_0, .slice A0_1 l0_1.length c0_1], .int .i64 a2] (by rfl) rfl rfl (by (try simp only [List.map_toArray, List.map_cons, List.map_nil]); first | done | rfl | (simp only [List.length_drop, List.length_take]; rfl)) ?_
     with_reducible refine (spec_l2Find.calls _ _ l0_0 _ _ l0_1 a2 t154 _ ?side1 ?side2 ?side3 ?side4 A5.out).mono ?_
     (case side1 => exact cz_ (Kd.C_below HR0_0.out HB.out))
     (case side2 => exact HC0_0.out)
     (case side3 => exact cz_ (Kd.C_below HR0_1.out HB.out))
     (case side4 => exact HC0_1.out)
     rintro e w33 ⟨rfl, hb⟩
     refine ⟨_, rfl, ?_⟩
     have n0_ := Aside0.mk (blk_below (bz_ BK151.out) hb)
     have n1_ := Aside0.mk (blk_below (bz_ BK152.out) hb)
     have n2_ := Aside0.mk (below_step (by repeat (first | (with_reducible first | exact HB.out | apply below_alloc | apply pw_below_drewN | apply below_drew1 | refine below_set ?_ GE151.out | refine below_set ?_ GE152.out) | exact HB.out)) hb)
     clear BK151
     clear BK152
     clear HB
     have BK151 := n0_
     have BK152 := n1_
     have HB := n2_
     clear n0_ n1_ n2_
     (try clear hb)
     (try clear hb2)
     (try clear hk)
     (try clear hi)
     refine hK.out _ _ ⟨(blk_cell BK151.out 0).trans rfl, (blk_cell BK151.out 1).trans rfl⟩ (fun hHeld => ?_)
     clear hK K
     refine norm_ (a' := ?_) ?_ ?_
     rotate_left
     ·show Act.put _ (some 16) _ = _
      simp only [Act.put, List.setIfInBounds_toArray, List.set_cons_zero, List.set_cons_succ, i64_w, i32_w]
      rfl
     refine pA_ 6 (some 8) (bl 7 8) HT_.out (h := ?_)
     refine pA_ 7 (some 9) (bl 8 8) HT_.out (h := ?_)
     refine done_ (done_of HT_.out (by kernel_rfl)) ?_
     try go_wp2
     have n0_ := Aside0.mk (blk_drew BK151.out)
     have n1_ := Aside0.mk (blk_drew BK152.out)
     have n2_ := Aside0.mk (below_drew1 HB.out)
     clear BK151
     clear BK152
     clear HB
     have BK151 := n0_
     have BK152 := n1_
     have HB := n2_
     clear n0_ n1_ n2_
     refine start_ (n := 31) (S := fun w' => w'.cell? ⟨gb151, 0, none⟩ = some (.slice A0_0 l0_0.length c0_0) ∧ w'.cell? ⟨gb151, 1, none⟩ = some (.slice A0_1 l0_1.length c0_1)) (ds := []) #[false, false, false, false, false, false, false, false, false, false, false, false, false, false, false, false, false, false, false, false, false, false, false, false, false, false, false, false, false, false, false] (by kernel_rfl) rfl rfl ⟨(blk_cell BK151.out 0).trans rfl, (blk_cell BK151.out 1).trans rfl⟩ (fun hHeld => ?_); refine with_tabW spec_EquateContexts.tab2 spec_EquateContexts.bits2 (fun HT_ HW_ => ?_)
     generalize w33.drew = w34 at BK151 BK152 HB hHeld ⊢
     refine tA_ 0 (some 17) (bl 1 31) HT_.out HW_.out hHeld (h := ?_)
     refine one_ (i := 1) (N := some 18) (bl 2 31) rfl rfl (one_of HT_.out (by kernel_rfl)) (by decide) (fun K hK => ?_)
     refine goes_ Try.func33 (by kernel_rfl) rfl #[.agg #[.slice A0_0 l0_0.length c0_0, .slice A0_1 l0_1.length c0_1]] (by rfl) rfl rfl (by (try simp only [List.map_toArray, List.map_cons, List.map_nil]); first | done | rfl | (simp only [List.length_drop, List.length_take]; rfl)) ?_
     with_reducible refine (spec_l2Good.calls _ _ l0_0 _ _ l0_1 true _ ?side1 ?side2 ?side3 ?side4 A6.out).mono ?_
     (case side1 => exact cz_ (Kd.C_below HR0_0.out HB.out))
     (case side2 => exact HC0_0.out)
     (case side3 => exact cz_ (Kd.C_below HR0_1.out HB.out))
     (case side4 => exact HC0_1.out)
     rintro e w35 ⟨rfl, hb⟩
     refine ⟨_, rfl, ?_⟩
     have n0_ := Aside0.mk (blk_below (bz_ BK151.out) hb)
     have n1_ := Aside0.mk (blk_below (bz_ BK152.out) hb)
     have n2_ := Aside0.mk (below_step (by repeat (first | (with_reducible first | exact HB.out | apply below_alloc | apply pw_below_drewN | apply below_drew1 | refine below_set ?_ GE151.out | refine below_set ?_ GE152.out) | exact HB.out)) hb)
     clear BK151
     clear BK152
     clear HB
     have BK151 := n0_
     have BK152 := n1_
     have HB := n2_
     clear n0_ n1_ n2_
     (try clear hb)
     (try clear hb2)
     (try clear hk)
     (try clear hi)
     refine hK.out _ _ ⟨(blk_cell BK151.out 0).trans rfl, (blk_cell BK151.out 1).trans rfl⟩ (fun hHeld => ?_)
     clear hK K
     refine norm_ (a' := ?_) ?_ ?_
     rotate_left
     ·show Act.put _ (some 18) _ = _
      simp only [Act.put, List.setIfInBounds_toArray, List.set_cons_zero, List.set_cons_succ, i64_w, i32_w]
      rfl
     refine pA_ 2 (some 19) (bl 3 31) HT_.out (h := ?_)
     refine pA_ 3 (some 20) (bl 4 31) HT_.out (h := ?_)
     refine pA_ 4 (some 21) (bl 5 31) HT_.out (h := ?_)
     refine pA_ 5 (some 22) (bl 6 31) HT_.out (h := ?_)
     refine pA_ 6 (some 23) (bl 7 31) HT_.out (h := ?_)
     refine pA_ 7 (some 24) (bl 8 31) HT_.out (h := ?_)
     refine pA_ 8 (some 25) (bl 9 31) HT_.out (h := ?_)
     refine pA_ 9 (some 26) (bl 10 31) HT_.out (h := ?_)
     refine pA_ 10 (some 27) (bl 11 31) HT_.out (h := ?_)
     refine pA_ 11 (some 28) (bl 12 31) HT_.out (h := ?_)
     refine pA_ 12 (some 29) (bl 13 31) HT_.out (h := ?_)
     refine pA_ 13 (some 30) (bl 14 31) HT_.out (h := ?_)
     refine pA_ 14 (some 31) (bl 15 31) HT_.out (h := ?_)
     refine pA_ 15 (some 32) (bl 16 31) HT_.out (h := ?_)
     refine pA_ 16 (some 33) (bl 17 31) HT_.out (h := ?_)
     refine pO_ 17 (some 34) (bl 18 31) HT_.out (h := ?_)
     refine pO_ 18 (some 35) (bl 19 31) HT_.out (h := ?_)
     refine pO_ 19 (some 36) (bl 20 31) HT_.out (h := ?_)
     refine pO_ 20 (some 37) (bl 21 31) HT_.out (h := ?_)
     refine pO_ 21 (some 38) (bl 22 31) HT_.out (h := ?_)
     refine pO_ 22 (some 39) (bl 23 31) HT_.out (h := ?_)
     refine pO_ 23 (some 40) (bl 24 31) HT_.out (h := ?_)
     refine pO_ 24 (some 41) (bl 25 31) HT_.out (h := ?_)
     refine pO_ 25 (some 42) (bl 26 31) HT_.out (h := ?_)
     refine pO_ 26 (some 43) (bl 27 31) HT_.out (h := ?_)
     refine pO_ 27 (some 44) (bl 28 31) HT_.out (h := ?_)
     refine pO_ 28 (some 45) (bl 29 31) HT_.out (h := ?_)
     refine pO_ 29 (some 46) (bl 30 31) HT_.out (h := ?_)
     refine pA_ 30 (some 47) (bl 31 31) HT_.out (h := ?_)
     refine done_ (done_of HT_.out (by kernel_rfl)) ?_
     have hnb36 := NB152_151.out
     have hnc36 := NB151_152.out
     have hcz37_0 : w35.cell? ⟨gb152, 0, none⟩ = some (.slice none 0 0) := (blk_cell BK152.out 0).trans rfl
     have hcz37_1 : w35.cell? ⟨gb152, 1, none⟩ = some (.slice none 0 0) := (blk_cell BK152.out 1).trans rfl
     have hfz37_0 := blk_frozen BK152.out 0
     have hfz37_1 := blk_frozen BK152.out 1
     try go_wp2
     refine bodyPost_ret (results_ct rfl _ _ gb152 32 #[.slice none 0 0, .slice none 0 0] (0, 0) _ rfl (by (with_reducible repeat (first | refine blk_drewN ?_ _ | refine blk_drew ?_ | refine blk_alloc ?_ _)); refine blk_put (cs := #[.slice none 0 0, .slice none 0 0]) ?_ 1 _ rfl; (with_reducible repeat (first | refine blk_drewN ?_ _ | refine blk_drew ?_ | refine blk_alloc ?_ _)); refine blk_put (cs := #[.slice none 0 0, .slice none 0 0]) ?_ 0 _ rfl; (with_reducible repeat (first | refine blk_drewN ?_ _ | refine blk_drew ?_ | refine blk_alloc ?_ _)); exact BK152.out) Try.underlying32 rfl (by kernel_rfl)) rfl ?_
     exact ⟨_, _, by first | rfl | (simp [errW_none, errW_some] <;> rfl) | (simp [*, errW_none, errW_some] <;> rfl), by first | exact Kd.R_nil _ _ _ _ _ | exact Kd.N_nil _ _ _ _ _ | exact Kd.V_nil _ _ _ _ _ | exact Kd.Q_nil _ _ _ _ _ | exact Kd.S_nil _ _ _ _ _, by first | exact Kd.R_nil _ _ _ _ _ | exact Kd.N_nil _ _ _ _ _ | exact Kd.V_nil _ _ _ _ _ | exact Kd.Q_nil _ _ _ _ _ | exact Kd.S_nil _ _ _ _ _, by repeat (first | (with_reducible first | exact HB.out | apply below_alloc | apply pw_below_drewN | apply below_drew1 | refine below_set ?_ GE151.out | refine below_set ?_ GE152.out) | exact HB.out)⟩
    ·rw [if_neg c28] at H
     have c28b0 : (t153 == t154) = false := beq_eq_false_iff_ne.mpr c28
     have c28b1 : (t153 != t154) = true := bne_iff_ne.mpr c28
     by_cases c38 : 0 ≤ t153
     ·rw [if_pos c38] at H
      have c38b0 : decide (0 ≤ t153) = true := decide_eq_true c38
      clear c38
      by_cases c39 : t153 < (l0_0.length : Int)
      ·rw [if_pos c39] at H
       have c39b0 : decide (t153 < (l0_0.length : Int)) = true := decide_eq_true c39
       clear c39
       by_cases c40 : 0 ≤ t154
       ·rw [if_pos c40] at H
        have c40b0 : decide (0 ≤ t154) = true := decide_eq_true c40
        clear c40
        by_cases c41 : t154 < (l0_0.length : Int)
        ·rw [if_pos c41] at H
         have c41b0 : decide (t154 < (l0_0.length : Int)) = true := decide_eq_true c41
         clear c41
         by_cases c42 : ((rd_T44 l0_0 t153).f1) = ((rd_T44 l0_0 t154).f1)
         ·rw [if_pos c42] at H
          have c42b0 : (((rd_T44 l0_0 t153).f1) == ((rd_T44 l0_0 t154).f1)) = true := beq_iff_eq.mpr c42
          have c42b1 : (((rd_T44 l0_0 t153).f1) != ((rd_T44 l0_0 t154).f1)) = false := bne_eq_false_iff_eq.mpr c42
          clear c42
          replace H := Option.bind_eq_some_iff.mp H
          obtain ⟨⟨t158, t161⟩, A430, H⟩ := H
          replace H : ((some (([] : List (S44)) : List (S44))).bind fun y165 => (if t154 ≤ (l0_0.length : Int) then ((some (l0_0.take (t154 : Int).toNat : List (S44))).bind fun y168 => (if y165.length + y168.length < 8796093022208 then ((some (y165 ++ y168 : List (S44))).bind fun y172 => (if 0 ≤ (wrap64 (t154 + 1)) then (if (wrap64 (t154 + 1)) ≤ (l0_0.length : Int) then ((some (l0_0.drop ((wrap64 (t154 + 1)) : Int).toNat : List (S44))).bind fun y175 => (if y172.length + y175.length < 8796093022208 then (some ((y172 ++ y175), t161, true)) else (none))) else (none)) else (none))) else (none))) else (none))) = some (r1, r2, r3) := H
          have A43 := Aside0.mk A430
          clear A430
          obtain ⟨y165, hy165⟩ : ∃ y_ : List (S44), y_ = (([] : List (S44))) := ⟨_, rfl⟩
          replace H : (if t154 ≤ (l0_0.length : Int) then ((some (l0_0.take (t154 : Int).toNat : List (S44))).bind fun y168 => (if y165.length + y168.length < 8796093022208 then ((some (y165 ++ y168 : List (S44))).bind fun y172 => (if 0 ≤ (wrap64 (t154 + 1)) then (if (wrap64 (t154 + 1)) ≤ (l0_0.length : Int) then ((some (l0_0.drop ((wrap64 (t154 + 1)) : Int).toNat : List (S44))).bind fun y175 => (if y172.length + y175.length < 8796093022208 then (some ((y172 ++ y175), t161, true)) else (none))) else (none)) else (none))) else (none))) else (none)) = some (r1, r2, r3) := by first | (rw [hy165]; with_reducible exact H) | (have H2_ := (Option.bind_some _ _).symm.trans H; rw [hy165]; with_reducible exact H2_) | (have H2_ := (Option.bind_some _ _).symm.trans H; with_reducible exact H2_) | with_reducible exact H | (rw [hy165]; exact H) | exact H
          have Ny165 := Aside0.mk hy165
          clear hy165
          have c44b0 := eq_true (of_decide_eq_true (by first | (with_reducible assumption) | assumption) : 0 ≤ t154)
          by_cases c45 : t154 ≤ (l0_0.length : Int)
          ·rw [if_pos c45] at H
           have c45b0 := eq_true c45
           have c45b1 : decide (t154 ≤ (l0_0.length : Int)) = true := decide_eq_true c45
           clear c45
           obtain ⟨y168, hy168⟩ : ∃ y_ : List (S44), y_ = (l0_0.take (t154 : Int).toNat) := ⟨_, rfl⟩
           replace H : (if y165.length + y168.length < 8796093022208 then ((some (y165 ++ y168 : List (S44))).bind fun y172 => (if 0 ≤ (wrap64 (t154 + 1)) then (if (wrap64 (t154 + 1)) ≤ (l0_0.length : Int) then ((some (l0_0.drop ((wrap64 (t154 + 1)) : Int).toNat : List (S44))).bind fun y175 => (if y172.length + y175.length < 8796093022208 then (some ((y172 ++ y175), t161, true)) else (none))) else (none)) else (none))) else (none)) = some (r1, r2, r3) := by first | (rw [hy168]; with_reducible exact H) | (have H2_ := (Option.bind_some _ _).symm.trans H; rw [hy168]; with_reducible exact H2_) | (have H2_ := (Option.bind_some _ _).symm.trans H; with_reducible exact H2_) | with_reducible exact H | (rw [hy168]; exact H) | exact H
           have Ny168 := Aside0.mk hy168
           clear hy168
           by_cases c46 : y165.length + y168.length < 8796093022208
           ·rw [if_pos c46] at H
            have LMc46 := Aside0.mk c46
            clear c46
            obtain ⟨y172, hy172⟩ : ∃ y_ : List (S44), y_ = (y165 ++ y168) := ⟨_, rfl⟩
            replace H : (if 0 ≤ (wrap64 (t154 + 1)) then (if (wrap64 (t154 + 1)) ≤ (l0_0.length : Int) then ((some (l0_0.drop ((wrap64 (t154 + 1)) : Int).toNat : List (S44))).bind fun y175 => (if y172.length + y175.length < 8796093022208 then (some ((y172 ++ y175), t161, true)) else (none))) else (none)) else (none)) = some (r1, r2, r3) := by first | (rw [hy172]; with_reducible exact H) | (have H2_ := (Option.bind_some _ _).symm.trans H; rw [hy172]; with_reducible exact H2_) | (have H2_ := (Option.bind_some _ _).symm.trans H; with_reducible exact H2_) | with_reducible exact H | (rw [hy172]; exact H) | exact H
            have Ny172 := Aside0.mk hy172
            clear hy172
            obtain ⟨ji47, hji47⟩ : ∃ j_ : Int, (wrap64 (t154 + 1)) = j_ := ⟨_, rfl⟩
            replace H : (if 0 ≤ (ji47) then (if (ji47) ≤ (l0_0.length : Int) then ((some (l0_0.drop ((ji47) : Int).toNat : List (S44))).bind fun y175 => (if y172.length + y175.length < 8796093022208 then (some ((y172 ++ y175), t161, true)) else (none))) else (none)) else (none)) = some (r1, r2, r3) := by first | (rw [hji47] at H; exact H) | (simp only [hji47] at H ⊢; exact H)
            (try rw [hji47] at A4)
            (try rw [hji47] at A5)
            (try rw [hji47] at A6)
            (try rw [hji47] at A43)
            have hji47w : (IntKind.i64.wrap (t154 + 1)) = ji47 := (i64_w _).trans hji47
            by_cases c48 : 0 ≤ (ji47)
            ·rw [if_pos c48] at H
             have c48b0 := eq_true c48
             have c48b1 : decide (0 ≤ (ji47)) = true := decide_eq_true c48
             clear c48
             by_cases c49 : (ji47) ≤ (l0_0.length : Int)
             ·rw [if_pos c49] at H
              have c49b0 := eq_true c49
              have c49b1 : decide ((ji47) ≤ (l0_0.length : Int)) = true := decide_eq_true c49
              clear c49
              obtain ⟨y175, hy175⟩ : ∃ y_ : List (S44), y_ = (l0_0.drop ((ji47) : Int).toNat) := ⟨_, rfl⟩
              replace H : (if y172.length + y175.length < 8796093022208 then (some ((y172 ++ y175), t161, true)) else (none)) = some (r1, r2, r3) := by first | (rw [hy175]; with_reducible exact H) | (have H2_ := (Option.bind_some _ _).symm.trans H; rw [hy175]; with_reducible exact H2_) | (have H2_ := (Option.bind_some _ _).symm.trans H; with_reducible exact H2_) | with_reducible exact H | (rw [hy175]; exact H) | exact H
              have Ny175 := Aside0.mk hy175
              clear hy175
              by_cases c50 : y172.length + y175.length < 8796093022208
              ·rw [if_pos c50] at H
               have LMc50 := Aside0.mk c50
               clear c50
               obtain ⟨y179, hy179⟩ : ∃ y_ : List (S44), y_ = (y172 ++ y175) := ⟨_, rfl⟩
               replace H : (some (y179, t161, true)) = some (r1, r2, r3) := by first | (rw [hy179]; with_reducible exact H) | (have H2_ := (Option.bind_some _ _).symm.trans H; rw [hy179]; with_reducible exact H2_) | (have H2_ := (Option.bind_some _ _).symm.trans H; with_reducible exact H2_) | with_reducible exact H | (rw [hy179]; exact H) | exact H
               have Ny179 := Aside0.mk hy179
               clear hy179
               simp only [Option.some.injEq, Prod.mk.injEq] at H
               obtain ⟨rfl, rfl, rfl⟩ := H
               go_enter Try.func24, Try.ntmps24
               try go_wp2_with (first | ((with_reducible refine gate_dst (N := 3) rfl ?_); refine box_event ?hg (N := 3) ?hd (cs := #[.slice A0_0 l0_0.length c0_0, .slice A0_1 l0_1.length c0_1]) (t := 32) ?hr ?_; (case hd => rfl); (case hg => rfl); (case hr => first | (go_simp; done) | (go_simp; rfl)); intro gb151 hg w51 hbox hb; have n0_ := Aside0.mk (below_step (wz_ HB.out) hb); have n1_ := Aside0.mk (hbox); have n2_ := Aside0.mk ((by rw [hg]; exact (below_size (wz_ HB.out)) : w.heap.size ≤ gb151)); have n3_ := Aside0.mk ((by rw [hg]; exact (below_size (wz_ HB.out)) : w.heap.size ≤ gb151)); clear HB; have HB := n0_; have BK151 := n1_; have GW151 := n2_; have GE151 := n3_; clear n0_ n1_ n2_ n3_; clear hb hbox hg) | ((with_reducible refine gate_dst (N := 6) rfl ?_); refine box_event ?hg (N := 6) ?hd (cs := #[.slice none 0 0, .slice none 0 0]) (t := 32) ?hr ?_; (case hd => rfl); (case hg => rfl); (case hr => first | (go_simp; done) | (go_simp; rfl)); intro gb152 hg w52 hbox hb; have n0_ := Aside0.mk (blk_below (bz_ BK151.out) hb); have n1_ := Aside0.mk (below_step (by repeat (first | (with_reducible first | exact HB.out | apply below_alloc | apply pw_below_drewN | apply below_drew1 | refine below_set ?_ GE151.out) | exact HB.out)) hb); have n2_ := Aside0.mk (hbox); have n3_ := Aside0.mk ((by rw [hg]; exact (below_size (by repeat (first | (with_reducible first | exact HB.out | apply below_alloc | apply pw_below_drewN | apply below_drew1 | refine below_set ?_ GE151.out) | exact HB.out))) : w.heap.size ≤ gb152)); have n4_ := Aside0.mk ((by rw [hg]; exact (below_size (by repeat (first | (with_reducible first | exact HB.out | apply below_alloc | apply pw_below_drewN | apply below_drew1 | refine below_set ?_ GE151.out) | exact HB.out))) : w.heap.size ≤ gb152)); have n5_ := Aside0.mk ((by rw [hg]; exact Nat.ne_of_lt (blk_lt (g := gb151) (o := .cells #[.slice A0_0 l0_0.length c0_0, .slice A0_1 l0_1.length c0_1] 32 (0, 0)) (bz_ BK151.out)) : gb151 ≠ gb152)); have n6_ := Aside0.mk ((by rw [hg]; exact Nat.ne_of_gt (blk_lt (g := gb151) (o := .cells #[.slice A0_0 l0_0.length c0_0, .slice A0_1 l0_1.length c0_1] 32 (0, 0)) (bz_ BK151.out)) : gb152 ≠ gb151)); clear BK151; clear HB; have BK151 := n0_; have HB := n1_; have BK152 := n2_; have GW152 := n3_; have GE152 := n4_; have NB151_152 := n5_; have NB152_151 := n6_; clear n0_ n1_ n2_ n3_ n4_ n5_ n6_; clear hb hbox hg))
               have n0_ := Aside0.mk (blk_drew BK151.out)
               have n1_ := Aside0.mk (blk_drew BK152.out)
               have n2_ := Aside0.mk (below_drew1 HB.out)
               clear BK151
               clear BK152
               clear HB
               have BK151 := n0_
               have BK152 := n1_
               have HB := n2_
               clear n0_ n1_ n2_
               refine start_ (n := 8) (S := fun w' => w'.cell? ⟨gb151, 0, none⟩ = some (.slice A0_0 l0_0.length c0_0) ∧ w'.cell? ⟨gb151, 1, none⟩ = some (.slice A0_1 l0_1.length c0_1)) (ds := []) #[false, false, false, false, false, false, false, false] (by kernel_rfl) rfl rfl ⟨(blk_cell BK151.out 0).trans rfl, (blk_cell BK151.out 1).trans rfl⟩ (fun hHeld => ?_); refine with_tabW spec_EquateContexts.tab1 spec_EquateContexts.bits1 (fun HT_ HW_ => ?_)
               generalize w52.drew = w53 at BK151 BK152 HB hHeld ⊢
               refine pA_ 1 (some 12) #[false, true, false, false, false, false, false, false] HT_.out (h := ?_)
               refine pA_ 4 (some 15) #[false, true, false, false, true, false, false, false] HT_.out (h := ?_)
               refine tA_ 0 (some 11) #[true, true, false, false, true, false, false, false] HT_.out HW_.out hHeld (h := ?_)
               refine tA_ 3 (some 14) #[true, true, false, true, true, false, false, false] HT_.out HW_.out hHeld (h := ?_)
               refine one_ (i := 2) (N := some 13) (bl 5 8) rfl rfl (one_of HT_.out (by kernel_rfl)) (by decide) (fun K hK => ?_)
               refine goes_ Try.func51 (by kernel_rfl) rfl #[.agg #[.slice A0_0 l0_0.length c0_0, .slice A0_1 l0_1.length c0_1], .int .i64 a1] (by rfl) rfl rfl (by (try simp only [List.map_toArray, List.map_cons, List.map_nil]); first | done | rfl | (simp only [List.length_drop, List.length_take]; rfl)) ?_
               with_reducible refine (spec_l2Find.calls _ _ l0_0 _ _ l0_1 a1 t153 _ ?side1 ?side2 ?side3 ?side4 A4.out).mono ?_
               (case side1 => exact cz_ (Kd.C_below HR0_0.out HB.out))
               (case side2 => exact HC0_0.out)
               (case side3 => exact cz_ (Kd.C_below HR0_1.out HB.out))
               (case side4 => exact HC0_1.out)
               rintro e w54 ⟨rfl, hb⟩
               refine ⟨_, rfl, ?_⟩
               have n0_ := Aside0.mk (blk_below (bz_ BK151.out) hb)
               have n1_ := Aside0.mk (blk_below (bz_ BK152.out) hb)
               have n2_ := Aside0.mk (below_step (by repeat (first | (with_reducible first | exact HB.out | apply below_alloc | apply pw_below_drewN | apply below_drew1 | refine below_set ?_ GE151.out | refine below_set ?_ GE152.out) | exact HB.out)) hb)
               clear BK151
               clear BK152
               clear HB
               have BK151 := n0_
               have BK152 := n1_
               have HB := n2_
               clear n0_ n1_ n2_
               (try clear hb)
               (try clear hb2)
               (try clear hk)
               (try clear hi)
               refine hK.out _ _ ⟨(blk_cell BK151.out 0).trans rfl, (blk_cell BK151.out 1).trans rfl⟩ (fun hHeld => ?_)
               clear hK K
               refine norm_ (a' := ?_) ?_ ?_
               rotate_left
               ·show Act.put _ (some 13) _ = _
                simp only [Act.put, List.setIfInBounds_toArray, List.set_cons_zero, List.set_cons_succ, i64_w, i32_w]
                rfl
               refine one_ (i := 5) (N := some 16) (bl 6 8) rfl rfl (one_of HT_.out (by kernel_rfl)) (by decide) (fun K hK => ?_)
               refine goes_ Try.func51 (by kernel_rfl) rfl #[.agg #[.slice A0_0 l0_0.length c0_0, .slice A0_1 l0_1.length c0_1], .int .i64 a2] (by rfl) rfl rfl (by (try simp only [List.map_toArray, List.map_cons, List.map_nil]); first | done | rfl | (simp only [List.length_drop, List.length_take]; rfl)) ?_
               with_reducible refine (spec_l2Find.calls _ _ l0_0 _ _ l0_1 a2 t154 _ ?side1 ?side2 ?side3 ?side4 A5.out).mono ?_
               (case side1 => exact cz_ (Kd.C_below HR0_0.out HB.out))
               (case side2 => exact HC0_0.out)
               (case side3 => exact cz_ (Kd.C_below HR0_1.out HB.out))
               (case side4 => exact HC0_1.out)
               rintro e w55 ⟨rfl, hb⟩
               refine ⟨_, rfl, ?_⟩
               have n0_ := Aside0.mk (blk_below (bz_ BK151.out) hb)
               have n1_ := Aside0.mk (blk_below (bz_ BK152.out) hb)
               have n2_ := Aside0.mk (below_step (by repeat (first | (with_reducible first | exact HB.out | apply below_alloc | apply pw_below_drewN | apply below_drew1 | refine below_set ?_ GE151.out | refine below_set ?_ GE152.out) | exact HB.out)) hb)
               clear BK151
               clear BK152
               clear HB
               have BK151 := n0_
               have BK152 := n1_
               have HB := n2_
               clear n0_ n1_ n2_
               (try clear hb)
               (try clear hb2)
               (try clear hk)
               (try clear hi)
               refine hK.out _ _ ⟨(blk_cell BK151.out 0).trans rfl, (blk_cell BK151.out 1).trans rfl⟩ (fun hHeld => ?_)
               clear hK K
               refine norm_ (a' := ?_) ?_ ?_
               rotate_left
               ·show Act.put _ (some 16) _ = _
                simp only [Act.put, List.setIfInBounds_toArray, List.set_cons_zero, List.set_cons_succ, i64_w, i32_w]
                rfl
               refine pA_ 6 (some 8) (bl 7 8) HT_.out (h := ?_)
               refine pA_ 7 (some 9) (bl 8 8) HT_.out (h := ?_)
               refine done_ (done_of HT_.out (by kernel_rfl)) ?_
               try go_wp2
               have n0_ := Aside0.mk (blk_drew BK151.out)
               have n1_ := Aside0.mk (blk_drew BK152.out)
               have n2_ := Aside0.mk (below_drew1 HB.out)
               clear BK151
               clear BK152
               clear HB
               have BK151 := n0_
               have BK152 := n1_
               have HB := n2_
               clear n0_ n1_ n2_
               have p156 : 0 ≤ (t153 : Int) := of_decide_eq_true (by first | (with_reducible assumption) | assumption)
               have q156 : t153 < (l0_0.length : Int) := of_decide_eq_true (by first | (with_reducible assumption) | assumption)
               obtain ⟨ad156, e156, hx156_0, hx156_1⟩ := at_T44 HR0_0.out t153 p156 q156
               have hw156_1 := hx156_1
               have hw156_0 := hx156_0
               cases e156
               replace hx156_0 := (HB.out.cell (World.block_lt_of_cell? w _ hx156_0)).trans hx156_0
               replace hx156_1 := (HB.out.cell (World.block_lt_of_cell? w _ hx156_1)).trans hx156_1
               replace p156 := eq_true p156
               replace q156 := eq_true q156
               have p157 : 0 ≤ (t154 : Int) := of_decide_eq_true (by first | (with_reducible assumption) | assumption)
               have q157 : t154 < (l0_0.length : Int) := of_decide_eq_true (by first | (with_reducible assumption) | assumption)
               obtain ⟨ad157, e157, hx157_0, hx157_1⟩ := at_T44 HR0_0.out t154 p157 q157
               have hw157_1 := hx157_1
               have hw157_0 := hx157_0
               obtain rfl : ad156 = ad157 := (by injection e157)
               replace hx157_0 := (HB.out.cell (World.block_lt_of_cell? w _ hx157_0)).trans hx157_0
               replace hx157_1 := (HB.out.cell (World.block_lt_of_cell? w _ hx157_1)).trans hx157_1
               replace p157 := eq_true p157
               replace q157 := eq_true q157
               refine start_ (n := 31) (S := fun w' => w'.cell? ⟨gb151, 0, none⟩ = some (.slice (some ad156) l0_0.length c0_0) ∧ w'.cell? ⟨gb151, 1, none⟩ = some (.slice A0_1 l0_1.length c0_1) ∧ w'.cell? (ad156.add ((t153).toNat * 2)) = some (.int .i64 ((rd_T44 l0_0 t153).f0)) ∧ w'.cell? ⟨(ad156.add ((t153).toNat * 2)).block, (ad156.add ((t153).toNat * 2)).off + 1, none⟩ = some (.int .i64 ((rd_T44 l0_0 t153).f1)) ∧ w'.cell? (ad156.add ((t154).toNat * 2)) = some (.int .i64 ((rd_T44 l0_0 t154).f0)) ∧ w'.cell? ⟨(ad156.add ((t154).toNat * 2)).block, (ad156.add ((t154).toNat * 2)).off + 1, none⟩ = some (.int .i64 ((rd_T44 l0_0 t154).f1))) (ds := []) #[false, false, false, false, false, false, false, false, false, false, false, false, false, false, false, false, false, false, false, false, false, false, false, false, false, false, false, false, false, false, false] (by kernel_rfl) rfl rfl ⟨(blk_cell BK151.out 0).trans rfl, (blk_cell BK151.out 1).trans rfl, ((HB.out.cell (World.block_lt_of_cell? w _ hw156_0)).trans hw156_0), ((HB.out.cell (World.block_lt_of_cell? w _ hw156_1)).trans hw156_1), ((HB.out.cell (World.block_lt_of_cell? w _ hw157_0)).trans hw157_0), ((HB.out.cell (World.block_lt_of_cell? w _ hw157_1)).trans hw157_1)⟩ (fun hHeld => ?_); refine with_tabW spec_EquateContexts.tab2 spec_EquateContexts.bits2 (fun HT_ HW_ => ?_)
               generalize w55.drew = w56 at BK151 BK152 HB hx156_0 hx156_1 hx157_0 hx157_1 hHeld ⊢
               refine tA_ 0 (some 17) (bl 1 31) HT_.out HW_.out hHeld (h := ?_)
               refine one_ (i := 1) (N := some 18) (bl 2 31) rfl rfl (one_of HT_.out (by kernel_rfl)) (by decide) (fun K hK => ?_)
               refine goes_ Try.func33 (by kernel_rfl) rfl #[.agg #[.slice (some ad156) l0_0.length c0_0, .slice A0_1 l0_1.length c0_1]] (by rfl) rfl rfl (by (try simp only [List.map_toArray, List.map_cons, List.map_nil]); first | done | rfl | (simp only [List.length_drop, List.length_take]; rfl)) ?_
               with_reducible refine (spec_l2Good.calls _ _ l0_0 _ _ l0_1 true _ ?side1 ?side2 ?side3 ?side4 A6.out).mono ?_
               (case side1 => exact cz_ (Kd.C_below HR0_0.out HB.out))
               (case side2 => exact HC0_0.out)
               (case side3 => exact cz_ (Kd.C_below HR0_1.out HB.out))
               (case side4 => exact HC0_1.out)
               rintro e w57 ⟨rfl, hb⟩
               refine ⟨_, rfl, ?_⟩
               have n0_ := Aside0.mk (blk_below (bz_ BK151.out) hb)
               have n1_ := Aside0.mk (blk_below (bz_ BK152.out) hb)
               have n2_ := Aside0.mk (below_step (by repeat (first | (with_reducible first | exact HB.out | apply below_alloc | apply pw_below_drewN | apply below_drew1 | refine below_set ?_ GE151.out | refine below_set ?_ GE152.out) | exact HB.out)) hb)
               clear BK151
               clear BK152
               clear HB
               have BK151 := n0_
               have BK152 := n1_
               have HB := n2_
               clear n0_ n1_ n2_
               (try clear hb)
               (try clear hb2)
               (try clear hk)
               (try clear hi)
               refine hK.out _ _ ⟨(blk_cell BK151.out 0).trans rfl, (blk_cell BK151.out 1).trans rfl, ((HB.out.cell (World.block_lt_of_cell? w _ hw156_0)).trans hw156_0), ((HB.out.cell (World.block_lt_of_cell? w _ hw156_1)).trans hw156_1), ((HB.out.cell (World.block_lt_of_cell? w _ hw157_0)).trans hw157_0), ((HB.out.cell (World.block_lt_of_cell? w _ hw157_1)).trans hw157_1)⟩ (fun hHeld => ?_)
               clear hK K
               refine norm_ (a' := ?_) ?_ ?_
               rotate_left
               ·show Act.put _ (some 18) _ = _
                simp only [Act.put, List.setIfInBounds_toArray, List.set_cons_zero, List.set_cons_succ, i64_w, i32_w]
                rfl
               refine pA_ 2 (some 19) (bl 3 31) HT_.out (h := ?_)
               refine pA_ 3 (some 20) (bl 4 31) HT_.out (h := ?_)
               refine pA_ 4 (some 21) (bl 5 31) HT_.out (h := ?_)
               refine pA_ 5 (some 22) (bl 6 31) HT_.out (h := ?_)
               refine pA_ 6 (some 23) (bl 7 31) HT_.out (h := ?_)
               refine pA_ 7 (some 24) (bl 8 31) HT_.out (h := ?_)
               refine pA_ 8 (some 25) (bl 9 31) HT_.out (h := ?_)
               refine pA_ 9 (some 26) (bl 10 31) HT_.out (h := ?_)
               refine pA_ 10 (some 27) (bl 11 31) HT_.out (h := ?_)
               refine pA_ 11 (some 28) (bl 12 31) HT_.out (h := ?_)
               refine pA_ 12 (some 29) (bl 13 31) HT_.out (h := ?_)
               refine pA_ 13 (some 30) (bl 14 31) HT_.out (h := ?_)
               refine pA_ 14 (some 31) (bl 15 31) HT_.out (h := ?_)
               refine pA_ 15 (some 32) (bl 16 31) HT_.out (h := ?_)
               refine pA_ 16 (some 33) (bl 17 31) HT_.out (h := ?_)
               refine pA_ 17 (some 34) (bl 18 31) HT_.out (h := ?_)
               refine pA_ 19 (some 36) #[true, true, true, true, true, true, true, true, true, true, true, true, true, true, true, true, true, true, false, true, false, false, false, false, false, false, false, false, false, false, false] HT_.out (h := ?_)
               refine pA_ 23 (some 40) #[true, true, true, true, true, true, true, true, true, true, true, true, true, true, true, true, true, true, false, true, false, false, false, true, false, false, false, false, false, false, false] HT_.out (h := ?_)
               refine pA_ 25 (some 42) #[true, true, true, true, true, true, true, true, true, true, true, true, true, true, true, true, true, true, false, true, false, false, false, true, false, true, false, false, false, false, false] HT_.out (h := ?_)
               refine tA_ 18 (some 35) #[true, true, true, true, true, true, true, true, true, true, true, true, true, true, true, true, true, true, true, true, false, false, false, true, false, true, false, false, false, false, false] HT_.out HW_.out hHeld (h := ?_)
               refine pA_ 20 (some 37) #[true, true, true, true, true, true, true, true, true, true, true, true, true, true, true, true, true, true, true, true, true, false, false, true, false, true, false, false, false, false, false] HT_.out (h := ?_)
               refine pA_ 21 (some 38) #[true, true, true, true, true, true, true, true, true, true, true, true, true, true, true, true, true, true, true, true, true, true, false, true, false, true, false, false, false, false, false] HT_.out (h := ?_)
               refine tA_ 22 (some 39) #[true, true, true, true, true, true, true, true, true, true, true, true, true, true, true, true, true, true, true, true, true, true, true, true, false, true, false, false, false, false, false] HT_.out HW_.out hHeld (h := ?_)
               refine tA_ 24 (some 41) (bl 26 31) HT_.out HW_.out hHeld (h := ?_)
               refine pA_ 26 (some 43) (bl 27 31) HT_.out (h := ?_)
               refine pA_ 27 (some 44) (bl 28 31) HT_.out (h := ?_)
               refine tA_ 28 (some 45) (bl 29 31) HT_.out HW_.out hHeld (h := ?_)
               refine pA_ 29 (some 46) (bl 30 31) HT_.out (h := ?_)
               refine pA_ 30 (some 47) (bl 31 31) HT_.out (h := ?_)
               refine done_ (done_of HT_.out (by kernel_rfl)) ?_
               have hnb58 := NB151_152.out
               have hnc58 := NB152_151.out
               have hcz59_0 : w57.cell? ⟨gb151, 0, none⟩ = some (.slice (some ad156) l0_0.length c0_0) := (blk_cell BK151.out 0).trans rfl
               have hcz59_1 : w57.cell? ⟨gb151, 1, none⟩ = some (.slice A0_1 l0_1.length c0_1) := (blk_cell BK151.out 1).trans rfl
               have hfz59_0 := blk_frozen BK151.out 0
               have hfz59_1 := blk_frozen BK151.out 1
               try go_wp2_with (first | ((with_reducible refine gate_callee (f := 53) rfl ?_); refine goesL_ (some 52) rfl rfl Try.func53 (by kernel_rfl) rfl #[.agg #[.slice (some ad156) l0_0.length c0_0, .slice A0_1 l0_1.length c0_1], .int .i64 a2, .int .i64 a1] rfl (by (try simp only [List.map_toArray, List.map_cons, List.map_nil]); first | done | rfl | (simp only [List.length_drop, List.length_take]; rfl)) ?_; (with_reducible refine (spec_l2Swap.calls k _ _ l0_0 _ _ l0_1 a2 a1 t158 t161 _ ?side1 ?side2 ?side3 ?side4 A43.out).mono ?_); (case side1 => exact cz_ (Kd.C_below HR0_0.out HB.out)); (case side2 => exact HC0_0.out); (case side3 => exact cz_ (Kd.C_below HR0_1.out HB.out)); (case side4 => exact HC0_1.out); rintro e w60 ⟨v159, v162, rfl, ho0, ho1, hb⟩; refine ⟨_, rfl, ?_⟩; have n0_ := Aside0.mk (Kd.R_lower ho0 (below_size (by repeat (first | (with_reducible first | exact HB.out | apply below_alloc | apply pw_below_drewN | apply below_drew1 | refine below_set ?_ GE151.out | refine below_set ?_ GE152.out) | exact HB.out)))); have n1_ := Aside0.mk (Kd.R_lower ho1 (below_size (by repeat (first | (with_reducible first | exact HB.out | apply below_alloc | apply pw_below_drewN | apply below_drew1 | refine below_set ?_ GE151.out | refine below_set ?_ GE152.out) | exact HB.out)))); have n2_ := Aside0.mk (blk_below (bz_ BK151.out) hb); have n3_ := Aside0.mk (blk_below (bz_ BK152.out) hb); have n4_ := Aside0.mk (below_step (by repeat (first | (with_reducible first | exact HB.out | apply below_alloc | apply pw_below_drewN | apply below_drew1 | refine below_set ?_ GE151.out | refine below_set ?_ GE152.out) | exact HB.out)) hb); clear BK151; clear BK152; clear HB; have HO160 := n0_; have HO163 := n1_; have BK151 := n2_; have BK152 := n3_; have HB := n4_; clear n0_ n1_ n2_ n3_ n4_; (try clear hb); (try clear hb2); (try clear hk); (try clear hi); (try clear ho0); (try clear ho1)) | ((with_reducible refine gate_dst (N := 10) rfl ?_); refine box_event ?hg (N := 10) ?hd (cs := #[.slice none 0 0, .slice none 0 0]) (t := 32) ?hr ?_; (case hd => rfl); (case hg => rfl); (case hr => first | (go_simp; done) | (go_simp; rfl)); intro gb164 hg w61 hbox hb; have n0_ := Aside0.mk (Kd.R_below (rz_ HO160.out) hb); have n1_ := Aside0.mk (Kd.R_below (rz_ HO163.out) hb); have n2_ := Aside0.mk (blk_below (bz_ BK151.out) hb); have n3_ := Aside0.mk (blk_below (bz_ BK152.out) hb); have n4_ := Aside0.mk (below_step (by repeat (first | (with_reducible first | exact HB.out | apply below_alloc | apply pw_below_drewN | apply below_drew1 | refine below_set ?_ GE151.out | refine below_set ?_ GE152.out) | exact HB.out)) hb); have n5_ := Aside0.mk (hbox); have n6_ := Aside0.mk ((by rw [hg]; exact (below_size (by repeat (first | (with_reducible first | exact HB.out | apply below_alloc | apply pw_below_drewN | apply below_drew1 | refine below_set ?_ GE151.out | refine below_set ?_ GE152.out) | exact HB.out))) : w.heap.size ≤ gb164)); have n7_ := Aside0.mk ((by rw [hg]; exact (below_size (by repeat (first | (with_reducible first | exact HB.out | apply below_alloc | apply pw_below_drewN | apply below_drew1 | refine below_set ?_ GE151.out | refine below_set ?_ GE152.out) | exact HB.out))) : w.heap.size ≤ gb164)); have n8_ := Aside0.mk ((by rw [hg]; exact Nat.ne_of_lt (blk_lt (g := gb151) (o := .cells #[.slice (some ad156) l0_0.length c0_0, .slice A0_1 l0_1.length c0_1] 32 (0, 0)) (bz_ BK151.out)) : gb151 ≠ gb164)); have n9_ := Aside0.mk ((by rw [hg]; exact Nat.ne_of_gt (blk_lt (g := gb151) (o := .cells #[.slice (some ad156) l0_0.length c0_0, .slice A0_1 l0_1.length c0_1] 32 (0, 0)) (bz_ BK151.out)) : gb164 ≠ gb151)); have n10_ := Aside0.mk ((by rw [hg]; exact Nat.ne_of_lt (blk_lt (g := gb152) (o := .cells #[.slice none 0 0, .slice none 0 0] 32 (0, 0)) (bz_ BK152.out)) : gb152 ≠ gb164)); have n11_ := Aside0.mk ((by rw [hg]; exact Nat.ne_of_gt (blk_lt (g := gb152) (o := .cells #[.slice none 0 0, .slice none 0 0] 32 (0, 0)) (bz_ BK152.out)) : gb164 ≠ gb152)); clear HO160; clear HO163; clear BK151; clear BK152; clear HB; have HO160 := n0_; have HO163 := n1_; have BK151 := n2_; have BK152 := n3_; have HB := n4_; have BK164 := n5_; have GW164 := n6_; have GE164 := n7_; have NB151_164 := n8_; have NB164_151 := n9_; have NB152_164 := n10_; have NB164_152 := n11_; clear n0_ n1_ n2_ n3_ n4_ n5_ n6_ n7_ n8_ n9_ n10_ n11_; clear hb hbox hg; obtain ⟨Ao62, co62, eo62⟩ := Kd.R_slice HO160.out; subst eo62; have hnb63 := NB164_151.out; have hnc63 := NB151_164.out; have hnb64 := NB164_152.out; have hnc64 := NB152_164.out; have hcz65_0 : w61.cell? ⟨gb164, 0, none⟩ = some (.slice none 0 0) := (blk_cell BK164.out 0).trans rfl; have hcz65_1 : w61.cell? ⟨gb164, 1, none⟩ = some (.slice none 0 0) := (blk_cell BK164.out 1).trans rfl; have hfz65_0 := blk_frozen BK164.out 0; have hfz65_1 := blk_frozen BK164.out 1; obtain ⟨Ao66, co66, eo66⟩ := Kd.R_slice HO163.out; subst eo66))
               have n0_ : Aside0 (Kd.R k44 44 ((w61.setCell ⟨gb164, 0, none⟩ (.slice Ao62 t158.length co62)).setCell ⟨gb164, 1, none⟩ (.slice Ao66 t161.length co66)) w.heap.size (fun _ => True) (.slice Ao62 t158.length co62) t158) := ⟨rz_ (Kd.R_mono (Kd.R_far (p := ⟨gb164, 1, none⟩) (Kd.R_far (p := ⟨gb164, 0, none⟩) (Kd.R_types HO160.out BK164.out (by decide)) (fun _ hk => hk.2) (.slice Ao62 t158.length co62)) (fun _ hk => hk.2) (.slice Ao66 t161.length co66)) (fun _ hk => trivial))⟩
               have n1_ : Aside0 (Kd.R k36 36 ((w61.setCell ⟨gb164, 0, none⟩ (.slice Ao62 t158.length co62)).setCell ⟨gb164, 1, none⟩ (.slice Ao66 t161.length co66)) w.heap.size (fun _ => True) (.slice Ao66 t161.length co66) t161) := ⟨rz_ (Kd.R_mono (Kd.R_far (p := ⟨gb164, 1, none⟩) (Kd.R_far (p := ⟨gb164, 0, none⟩) (Kd.R_types HO163.out BK164.out (by decide)) (fun _ hk => hk.2) (.slice Ao62 t158.length co62)) (fun _ hk => hk.2) (.slice Ao66 t161.length co66)) (fun _ hk => trivial))⟩
               have n2_ : Aside0 (((w61.setCell ⟨gb164, 0, none⟩ (.slice Ao62 t158.length co62)).setCell ⟨gb164, 1, none⟩ (.slice Ao66 t161.length co66)).heap[gb151]? = some (.cells #[.slice (some ad156) l0_0.length c0_0, .slice A0_1 l0_1.length c0_1] 32 (0, 0))) := ⟨by (with_reducible repeat (first | refine blk_drewN ?_ _ | refine blk_drew ?_ | refine blk_alloc ?_ _)); refine blk_far ?_ NB151_164.out _; (with_reducible repeat (first | refine blk_drewN ?_ _ | refine blk_drew ?_ | refine blk_alloc ?_ _)); refine blk_far ?_ NB151_164.out _; (with_reducible repeat (first | refine blk_drewN ?_ _ | refine blk_drew ?_ | refine blk_alloc ?_ _)); exact BK151.out⟩
               have n3_ : Aside0 (((w61.setCell ⟨gb164, 0, none⟩ (.slice Ao62 t158.length co62)).setCell ⟨gb164, 1, none⟩ (.slice Ao66 t161.length co66)).heap[gb152]? = some (.cells #[.slice none 0 0, .slice none 0 0] 32 (0, 0))) := ⟨by (with_reducible repeat (first | refine blk_drewN ?_ _ | refine blk_drew ?_ | refine blk_alloc ?_ _)); refine blk_far ?_ NB152_164.out _; (with_reducible repeat (first | refine blk_drewN ?_ _ | refine blk_drew ?_ | refine blk_alloc ?_ _)); refine blk_far ?_ NB152_164.out _; (with_reducible repeat (first | refine blk_drewN ?_ _ | refine blk_drew ?_ | refine blk_alloc ?_ _)); exact BK152.out⟩
               have n4_ : Aside0 (((w61.setCell ⟨gb164, 0, none⟩ (.slice Ao62 t158.length co62)).setCell ⟨gb164, 1, none⟩ (.slice Ao66 t161.length co66)).heap[gb164]? = some (.cells #[.slice Ao62 t158.length co62, .slice Ao66 t161.length co66] 32 (0, 0))) := ⟨by (with_reducible repeat (first | refine blk_drewN ?_ _ | refine blk_drew ?_ | refine blk_alloc ?_ _)); refine blk_put (cs := #[.slice Ao62 t158.length co62, .slice none 0 0]) ?_ 1 _ rfl; (with_reducible repeat (first | refine blk_drewN ?_ _ | refine blk_drew ?_ | refine blk_alloc ?_ _)); refine blk_put (cs := #[.slice none 0 0, .slice none 0 0]) ?_ 0 _ rfl; (with_reducible repeat (first | refine blk_drewN ?_ _ | refine blk_drew ?_ | refine blk_alloc ?_ _)); exact BK164.out⟩
               have n5_ : Aside0 (Below w.heap.size w ((w61.setCell ⟨gb164, 0, none⟩ (.slice Ao62 t158.length co62)).setCell ⟨gb164, 1, none⟩ (.slice Ao66 t161.length co66))) := ⟨by repeat (first | (with_reducible first | exact HB.out | apply below_alloc | apply pw_below_drewN | apply below_drew1 | refine below_set ?_ GE151.out | refine below_set ?_ GE152.out | refine below_set ?_ GE164.out) | exact HB.out)⟩
               (try clear HO160)
               (try clear HO163)
               (try clear BK151)
               (try clear BK152)
               (try clear BK164)
               (try clear HB)
               generalize ((w61.setCell ⟨gb164, 0, none⟩ (.slice Ao62 t158.length co62)).setCell ⟨gb164, 1, none⟩ (.slice Ao66 t161.length co66)) = w67 at n0_ n1_ n2_ n3_ n4_ n5_ ⊢
               have HO160 := n0_
               have HO163 := n1_
               have BK151 := n2_
               have BK152 := n3_
               have BK164 := n4_
               have HB := n5_
               clear n0_ n1_ n2_ n3_ n4_ n5_
               have n0_ := Aside0.mk (Kd.R_drew HO160.out)
               have n1_ := Aside0.mk (Kd.R_drew HO163.out)
               have n2_ := Aside0.mk (blk_drew BK151.out)
               have n3_ := Aside0.mk (blk_drew BK152.out)
               have n4_ := Aside0.mk (blk_drew BK164.out)
               have n5_ := Aside0.mk (below_drew1 HB.out)
               clear HO160
               clear HO163
               clear BK151
               clear BK152
               clear BK164
               clear HB
               have HO160 := n0_
               have HO163 := n1_
               have BK151 := n2_
               have BK152 := n3_
               have BK164 := n4_
               have HB := n5_
               clear n0_ n1_ n2_ n3_ n4_ n5_
               have q69 : (t154 : Int) ≤ ((l0_0.length : Int) : Int) := of_decide_eq_true (by first | (with_reducible assumption) | assumption)
               obtain ⟨i069, hi069, _, hsz69, _⟩ := info_parts info44
               have hroom69 : l0_0.length ≤ c0_0 := HC0_0.out
               have hC69 : Kd.C k44 _ (some ad156) l0_0.length l0_0 := HR0_0.out
               have hcut69 := cut_to (P := Try.prog) 29 44 .i64 Try.underlying29 hi069 (some ad156) l0_0.length c0_0 t154 (of_decide_eq_true (by first | (with_reducible assumption) | assumption)) q69 hroom69
               have hr69 := Kd.C_take (m := (t154 : Int).toNat) hC69 (by omega)
               have hy69 : y168.length = (t154 : Int).toNat := (by rw [Ny168.out, List.length_take]; omega)
               rw [← Ny168.out] at hr69
               rw [← hy69] at hcut69
               have HR171 := Aside0.mk hr69
               have HC171 := Aside0.mk (show y168.length ≤ c0_0 from by omega)
               clear hr69 hC69 hroom69 hi069 hsz69
               have KY69 := Aside0.mk hy69
               clear hy69
               replace q69 := eq_true q69
               have q70 : ((ji47) : Int) ≤ ((l0_0.length : Int) : Int) := of_decide_eq_true (by first | (with_reducible assumption) | assumption)
               obtain ⟨i070, hi070, _, hsz70, _⟩ := info_parts info44
               have hroom70 : l0_0.length ≤ c0_0 := HC0_0.out
               have hC70 : Kd.C k44 _ (some ad156) l0_0.length l0_0 := HR0_0.out
               have q070 : (0 : Int) ≤ ((ji47) : Int) := of_decide_eq_true (by first | (with_reducible assumption) | assumption)
               have hcut70 := cut_from (P := Try.prog) 29 44 .i64 Try.underlying29 hi070 2 hsz70 (some ad156) l0_0.length c0_0 (ji47) q070 q70
               have hr70 := Kd.C_drop (m := ((ji47) : Int).toNat) (c := c0_0) hC70 (by omega) hroom70
               obtain ⟨A70, hA70⟩ : ∃ A1, A1 = (if c0_0 = ((ji47) : Int).toNat then (some ad156) else ((some ad156) : Option Addr).map (·.add (((ji47) : Int).toNat * 2))) := ⟨_, rfl⟩
               obtain ⟨c70, hc70⟩ : ∃ c1, c1 = c0_0 - ((ji47) : Int).toNat := ⟨_, rfl⟩
               have hy70 : y175.length = l0_0.length - ((ji47) : Int).toNat := (by rw [Ny175.out, List.length_drop] <;> omega)
               rw [show (l0_0).drop ((ji47) : Int).toNat = y175 from Ny175.out.symm] at hr70
               replace hr70 : Kd.C k44 _ A70 y175.length y175 := (by rw [hA70]; exact hr70)
               rw [← hy70, ← hA70, ← hc70] at hcut70
               have HR178 := Aside0.mk hr70
               have HC178 := Aside0.mk (show y175.length ≤ c70 from by rw [hy70, hc70]; exact Nat.sub_le_sub_right hroom70 _)
               clear hr70 hC70 hroom70 hi070 hsz70 hc70
               have KY70 := Aside0.mk hy70
               have KA70 := Aside0.mk hA70
               clear hy70 hA70
               replace q70 := eq_true q70
               refine start_ (n := 14) (S := fun w' => w'.cell? ⟨gb151, 0, none⟩ = some (.slice (some ad156) l0_0.length c0_0) ∧ w'.cell? ⟨gb151, 1, none⟩ = some (.slice A0_1 l0_1.length c0_1)) (ds := []) #[false, false, false, false, false, false, false, false, false, false, false, false, false, false] (by kernel_rfl) rfl rfl ⟨(blk_cell BK151.out 0).trans rfl, (blk_cell BK151.out 1).trans rfl⟩ (fun hHeld => ?_); refine with_tabW spec_EquateContexts.tab5 spec_EquateContexts.bits5 (fun HT_ HW_ => ?_)
               generalize w67.drew = w68 at HO160 HO163 BK151 BK152 BK164 HB HR171 HR178 hHeld ⊢
               refine pA_ 1 (some 54) #[false, true, false, false, false, false, false, false, false, false, false, false, false, false] HT_.out (h := ?_)
               refine pA_ 3 (some 56) #[false, true, false, true, false, false, false, false, false, false, false, false, false, false] HT_.out (h := ?_)
               refine pA_ 6 (some 59) #[false, true, false, true, false, false, true, false, false, false, false, false, false, false] HT_.out (h := ?_)
               refine pA_ 8 (some 61) #[false, true, false, true, false, false, true, false, true, false, false, false, false, false] HT_.out (h := ?_)
               refine pA_ 9 (some 62) #[false, true, false, true, false, false, true, false, true, true, false, false, false, false] HT_.out (h := ?_)
               refine tA_ 2 (some 55) #[false, true, true, true, false, false, true, false, true, true, false, false, false, false] HT_.out HW_.out hHeld (h := ?_)
               refine pA_ 4 (some 57) #[false, true, true, true, true, false, true, false, true, true, false, false, false, false] HT_.out (h := ?_)
               refine tA_ 7 (some 60) #[false, true, true, true, true, false, true, true, true, true, false, false, false, false] HT_.out HW_.out hHeld (h := ?_)
               refine pA_ 10 (some 63) #[false, true, true, true, true, false, true, true, true, true, true, false, false, false] HT_.out (h := ?_)
               refine one_ (i := 0) (N := some 53) #[true, true, true, true, true, false, true, true, true, true, true, false, false, false] rfl rfl (one_of HT_.out (by kernel_rfl)) (by decide) (fun K hK => ?_)
               refine Kd.R_lit_step k44 _ 44 ?hg (N := 53) ?hd (xs := ([] : List (S44))) (inner := []) (ok := fun _ => True) (okp := fun _ => True) ?hr ?hp (fun _ hk => hk) trivial (Below.refl _ _) (Nat.le_refl _) (by simp) ?_; (case hd => rfl); (case hg => rfl); (case hr => first | (go_simp; done) | (go_simp; rfl)); (case hp => exact (Reps.none _ _))
               intro v166 w71 ho72 hb hg_ hnew_
               clear hg_ hnew_
               (first | rw [← Ny165.out] at ho72 | (simp only [Int.reduceToNat] at ho72; rw [← Ny165.out] at ho72))
               have n0_ := Aside0.mk (Kd.R_elder' (rz_ HO160.out) (Kd.R_base ho72) hb)
               have n1_ := Aside0.mk (Kd.R_below (rz_ HO163.out) hb)
               have n2_ := Aside0.mk (Kd.R_lower (Kd.R_new' ho72 (Kd.R_lt (rz_ HO160.out))) (below_size (by repeat (first | (with_reducible first | exact HB.out | apply below_alloc | apply pw_below_drewN | apply below_drew1 | refine below_set ?_ GE151.out | refine below_set ?_ GE152.out | refine below_set ?_ GE164.out) | exact HB.out))))
               have n3_ := Aside0.mk (blk_below (bz_ BK151.out) hb)
               have n4_ := Aside0.mk (blk_below (bz_ BK152.out) hb)
               have n5_ := Aside0.mk (blk_below (bz_ BK164.out) hb)
               have n6_ := Aside0.mk (below_step (by repeat (first | (with_reducible first | exact HB.out | apply below_alloc | apply pw_below_drewN | apply below_drew1 | refine below_set ?_ GE151.out | refine below_set ?_ GE152.out | refine below_set ?_ GE164.out) | exact HB.out)) hb)
               clear HO160
               clear HO163
               clear BK151
               clear BK152
               clear BK164
               clear HB
               have HO160 := n0_
               have HO163 := n1_
               have HO167 := n2_
               have BK151 := n3_
               have BK152 := n4_
               have BK164 := n5_
               have HB := n6_
               clear n0_ n1_ n2_ n3_ n4_ n5_ n6_
               clear hb ho72
               refine hK.out _ _ ⟨(blk_cell BK151.out 0).trans rfl, (blk_cell BK151.out 1).trans rfl⟩ (fun hHeld => ?_)
               clear hK K
               refine norm_ (a' := ?_) ?_ ?_
               rotate_left
               ·show Act.put _ (some 53) _ = _
                simp only [Act.put, List.setIfInBounds_toArray, List.set_cons_zero, List.set_cons_succ, i64_w, i32_w]
                rfl
               refine one_ (i := 5) (N := some 58) (bl 11 14) rfl rfl (one_of HT_.out (by kernel_rfl)) (by decide) (fun K hK => ?_)
               refine Kd.R_append_rows_step k44 (w0 := w) w.heap.size (by rfl) (.tmp 53) (.tmp 57) 29 44 (.agg #[(.int .i64 0), (.int .i64 0)]) 16 rfl Try.underlying29 info44 rfl (by decide) (by omega) v166 y165 y168 _ _ _ (fun k_ => some k_ ≠ (.slice Ao62 t158.length co62 : Value).ownBlock) (fun _ => False) rfl rfl ?aO ?aR (fun _ _ h => h) (fun _ h => h.elim) ?aF ?aB ?aS ?aL ?_
               (case aR => exact cz_ (Kd.C_below HR171.out HB.out))
               (case aB => exact (by repeat (first | (with_reducible first | exact HB.out | apply below_alloc | apply pw_below_drewN | apply below_drew1 | refine below_set ?_ GE151.out | refine below_set ?_ GE152.out | refine below_set ?_ GE164.out) | exact HB.out)))
               (case aF => exact (fun k_ hk => Kd.fresh' (Kd.R_lt (rz_ HO160.out)) k_ hk))
               (case aO => exact (rz_ (Kd.R_mono HO167.out (fun _ hk => hk.2))))
               (case aS => exact (below_size (by repeat (first | (with_reducible first | exact HB.out | apply below_alloc | apply pw_below_drewN | apply below_drew1 | refine below_set ?_ GE151.out | refine below_set ?_ GE152.out | refine below_set ?_ GE164.out) | exact HB.out))))
               (case aL => have := LMc46.out; omega)
               intro v173 w73 ho hb hg hat
               rw [← Ny172.out] at ho
               have n0_ := Aside0.mk (blk_grown (g := gb151) (o := .cells #[.slice (some ad156) l0_0.length c0_0, .slice A0_1 l0_1.length c0_1] 32 (0, 0)) (bz_ BK151.out) hg (Kd.R_ne HO167.out BK151.out (by decide)))
               have n1_ := Aside0.mk (blk_grown (g := gb152) (o := .cells #[.slice none 0 0, .slice none 0 0] 32 (0, 0)) (bz_ BK152.out) hg (Kd.R_ne HO167.out BK152.out (by decide)))
               have n2_ := Aside0.mk (Kd.R_after (ok := (fun _ => True)) (rz_ HO160.out) hg hat)
               have n3_ := Aside0.mk (Kd.R_over' (rz_ HO163.out) (Kd.R_typed (rz_ HO167.out)) (by decide) hg)
               have n4_ := Aside0.mk (blk_grown (g := gb164) (o := .cells #[.slice Ao62 t158.length co62, .slice Ao66 t161.length co66] 32 (0, 0)) (bz_ BK164.out) hg (Kd.R_ne HO167.out BK164.out (by decide)))
               have n5_ := Aside0.mk (hb)
               have n6_ := Aside0.mk (ho)
               clear BK151
               clear BK152
               clear HO160
               clear HO163
               clear BK164
               clear HB
               clear HO167
               have BK151 := n0_
               have BK152 := n1_
               have HO160 := n2_
               have HO163 := n3_
               have BK164 := n4_
               have HB := n5_
               have HO174 := n6_
               clear n0_ n1_ n2_ n3_ n4_ n5_ n6_
               clear ho hb hg hat
               refine hK.out _ _ ⟨(blk_cell BK151.out 0).trans rfl, (blk_cell BK151.out 1).trans rfl⟩ (fun hHeld => ?_)
               clear hK K
               refine norm_ (a' := ?_) ?_ ?_
               rotate_left
               ·show Act.put _ (some 58) _ = _
                simp only [Act.put, List.setIfInBounds_toArray, List.set_cons_zero, List.set_cons_succ, i64_w, i32_w]
                rfl
               refine one_ (i := 11) (N := some 64) (bl 12 14) rfl rfl (one_of HT_.out (by kernel_rfl)) (by decide) (fun K hK => ?_)
               refine Kd.R_append_rows_step k44 (w0 := w) w.heap.size (by rfl) (.tmp 58) (.tmp 63) 29 44 (.agg #[(.int .i64 0), (.int .i64 0)]) 16 rfl Try.underlying29 info44 rfl (by decide) (by omega) v173 y172 y175 _ _ _ (fun k_ => some k_ ≠ (.slice Ao62 t158.length co62 : Value).ownBlock) (fun _ => False) rfl rfl ?aO ?aR (fun _ _ h => h) (fun _ h => h.elim) ?aF ?aB ?aS ?aL ?_
               (case aR => exact cz_ (Kd.C_below HR178.out HB.out))
               (case aB => exact (by repeat (first | (with_reducible first | exact HB.out | apply below_alloc | apply pw_below_drewN | apply below_drew1 | refine below_set ?_ GE151.out | refine below_set ?_ GE152.out | refine below_set ?_ GE164.out) | exact HB.out)))
               (case aF => exact (fun k_ hk => Kd.fresh' (Kd.R_lt (rz_ HO160.out)) k_ hk))
               (case aO => exact (rz_ HO174.out))
               (case aS => exact (below_size (by repeat (first | (with_reducible first | exact HB.out | apply below_alloc | apply pw_below_drewN | apply below_drew1 | refine below_set ?_ GE151.out | refine below_set ?_ GE152.out | refine below_set ?_ GE164.out) | exact HB.out))))
               (case aL => have := LMc50.out; omega)
               intro v180 w74 ho hb hg hat
               rw [← Ny179.out] at ho
               have n0_ := Aside0.mk (blk_grown (g := gb151) (o := .cells #[.slice (some ad156) l0_0.length c0_0, .slice A0_1 l0_1.length c0_1] 32 (0, 0)) (bz_ BK151.out) hg (Kd.R_ne HO174.out BK151.out (by decide)))
               have n1_ := Aside0.mk (blk_grown (g := gb152) (o := .cells #[.slice none 0 0, .slice none 0 0] 32 (0, 0)) (bz_ BK152.out) hg (Kd.R_ne HO174.out BK152.out (by decide)))
               have n2_ := Aside0.mk (Kd.R_after (ok := (fun _ => True)) (rz_ HO160.out) hg hat)
               have n3_ := Aside0.mk (Kd.R_over' (rz_ HO163.out) (Kd.R_typed (rz_ HO174.out)) (by decide) hg)
               have n4_ := Aside0.mk (blk_grown (g := gb164) (o := .cells #[.slice Ao62 t158.length co62, .slice Ao66 t161.length co66] 32 (0, 0)) (bz_ BK164.out) hg (Kd.R_ne HO174.out BK164.out (by decide)))
               have n5_ := Aside0.mk (hb)
               have n6_ := Aside0.mk (ho)
               clear BK151
               clear BK152
               clear HO160
               clear HO163
               clear BK164
               clear HB
               clear HO174
               have BK151 := n0_
               have BK152 := n1_
               have HO160 := n2_
               have HO163 := n3_
               have BK164 := n4_
               have HB := n5_
               have HO181 := n6_
               clear n0_ n1_ n2_ n3_ n4_ n5_ n6_
               clear ho hb hg hat
               obtain ⟨Ao75, co75, eo75⟩ := Kd.R_slice HO181.out
               (first | subst eo75 | (injection eo75 with f1_ f2_ f3_; have f4_ := f1_.symm; have f5_ := f3_.symm; clear f1_ f2_ f3_; subst f4_; subst f5_))
               refine hK.out _ _ ⟨(blk_cell BK151.out 0).trans rfl, (blk_cell BK151.out 1).trans rfl⟩ (fun hHeld => ?_)
               clear hK K
               refine norm_ (a' := ?_) ?_ ?_
               rotate_left
               ·show Act.put _ (some 64) _ = _
                simp only [Act.put, List.setIfInBounds_toArray, List.set_cons_zero, List.set_cons_succ, i64_w, i32_w]
                rfl
               refine pA_ 12 (some 65) (bl 13 14) HT_.out (h := ?_)
               refine one_ (i := 13) (N := none) (bl 14 14) rfl rfl (one_of HT_.out (by kernel_rfl)) (by decide) (fun K hK => ?_)
               have hs76 : w74.cell? ⟨gb164, 0, none⟩ = some (.slice Ao62 t158.length co62) := (blk_cell BK164.out 0).trans rfl
               have hfs76 := blk_frozen BK164.out 0
               have hns76_0 := NB151_164.out
               have hns76_1 := NB152_164.out
               have hms76_0 := NB164_151.out
               have hms76_1 := NB164_152.out
               refine skip_ (w1 := ?_) (by rfl) rfl ?_ ?_
               rotate_left
               ·go_simp
                rfl
               refine hK.out _ _ ⟨((cell_far (p := ⟨gb164, _, none⟩) NB151_164.out _).trans (hHeld.1)), ((cell_far (p := ⟨gb164, _, none⟩) NB151_164.out _).trans (hHeld.2))⟩ (fun hHeld => ?_)
               clear hK K
               refine done_ (done_of HT_.out (by kernel_rfl)) ?_
               have hcz77_0 : w74.cell? ⟨gb164, 0, none⟩ = some (.slice Ao62 t158.length co62) := (blk_cell BK164.out 0).trans rfl
               have hcz77_1 : w74.cell? ⟨gb164, 1, none⟩ = some (.slice Ao66 t161.length co66) := (blk_cell BK164.out 1).trans rfl
               have hfz77_0 := blk_frozen BK164.out 0
               have hfz77_1 := blk_frozen BK164.out 1
               have hcz78_0 : w74.cell? ⟨gb152, 0, none⟩ = some (.slice none 0 0) := (blk_cell BK152.out 0).trans rfl
               have hcz78_1 : w74.cell? ⟨gb152, 1, none⟩ = some (.slice none 0 0) := (blk_cell BK152.out 1).trans rfl
               have hfz78_0 := blk_frozen BK152.out 0
               have hfz78_1 := blk_frozen BK152.out 1
               try go_wp2
               refine bodyPost_ret (results_ct rfl _ _ gb152 32 #[.slice Ao75 y179.length co75, .slice Ao66 t161.length co66] (0, 0) _ rfl (by (with_reducible repeat (first | refine blk_drewN ?_ _ | refine blk_drew ?_ | refine blk_alloc ?_ _)); refine blk_put (cs := #[.slice Ao75 y179.length co75, .slice none 0 0]) ?_ 1 _ rfl; (with_reducible repeat (first | refine blk_drewN ?_ _ | refine blk_drew ?_ | refine blk_alloc ?_ _)); refine blk_put (cs := #[.slice none 0 0, .slice none 0 0]) ?_ 0 _ rfl; (with_reducible repeat (first | refine blk_drewN ?_ _ | refine blk_drew ?_ | refine blk_alloc ?_ _)); refine blk_far ?_ NB152_164.out _; (with_reducible repeat (first | refine blk_drewN ?_ _ | refine blk_drew ?_ | refine blk_alloc ?_ _)); exact BK152.out) Try.underlying32 rfl (by kernel_rfl)) rfl ?_
               exact ⟨_, _, by first | rfl | (simp [errW_none, errW_some] <;> rfl) | (simp only [← hji47]; first | rfl | (simp [errW_none, errW_some] <;> rfl)) | (simp [*, errW_none, errW_some] <;> rfl), rz_ (Kd.R_mono (Kd.R_far (p := ⟨gb152, 1, none⟩) (Kd.R_far (p := ⟨gb152, 0, none⟩) (Kd.R_far (p := ⟨gb164, 0, none⟩) (Kd.R_types (Kd.R_types HO181.out BK164.out (by decide)) BK152.out (by decide)) (fun _ hk => hk.1.2) (.slice Ao75 y179.length co75)) (fun _ hk => hk.2) (.slice Ao75 y179.length co75)) (fun _ hk => hk.2) (.slice Ao66 t161.length co66)) (fun _ hk => trivial)), rz_ (Kd.R_mono (Kd.R_far (p := ⟨gb152, 1, none⟩) (Kd.R_far (p := ⟨gb152, 0, none⟩) (Kd.R_far (p := ⟨gb164, 0, none⟩) (Kd.R_types (Kd.R_types HO163.out BK164.out (by decide)) BK152.out (by decide)) (fun _ hk => hk.1.2) (.slice Ao75 y179.length co75)) (fun _ hk => hk.2) (.slice Ao75 y179.length co75)) (fun _ hk => hk.2) (.slice Ao66 t161.length co66)) (fun _ hk => trivial)), by repeat (first | (with_reducible first | exact HB.out | apply below_alloc | apply pw_below_drewN | apply below_drew1 | refine below_set ?_ GE151.out | refine below_set ?_ GE152.out | refine below_set ?_ GE164.out) | exact HB.out)⟩
              ·rw [if_neg c50] at H
               exact absurd H (by simp)
             ·rw [if_neg c49] at H
              exact absurd H (by simp)
            ·rw [if_neg c48] at H
             exact absurd H (by simp)
           ·rw [if_neg c46] at H
            exact absurd H (by simp)
          ·rw [if_neg c45] at H
           exact absurd H (by simp)
         ·rw [if_neg c42] at H
          have c42b0 : (((rd_T44 l0_0 t153).f1) == ((rd_T44 l0_0 t154).f1)) = false := beq_eq_false_iff_ne.mpr c42
          have c42b1 : (((rd_T44 l0_0 t153).f1) != ((rd_T44 l0_0 t154).f1)) = true := bne_iff_ne.mpr c42
          simp only [Option.some.injEq, Prod.mk.injEq] at H
          obtain ⟨rfl, rfl, rfl⟩ := H
          go_enter Try.func24, Try.ntmps24
          try go_wp2_with (first | ((with_reducible refine gate_dst (N := 3) rfl ?_); refine box_event ?hg (N := 3) ?hd (cs := #[.slice A0_0 l0_0.length c0_0, .slice A0_1 l0_1.length c0_1]) (t := 32) ?hr ?_; (case hd => rfl); (case hg => rfl); (case hr => first | (go_simp; done) | (go_simp; rfl)); intro gb151 hg w79 hbox hb; have n0_ := Aside0.mk (below_step (wz_ HB.out) hb); have n1_ := Aside0.mk (hbox); have n2_ := Aside0.mk ((by rw [hg]; exact (below_size (wz_ HB.out)) : w.heap.size ≤ gb151)); have n3_ := Aside0.mk ((by rw [hg]; exact (below_size (wz_ HB.out)) : w.heap.size ≤ gb151)); clear HB; have HB := n0_; have BK151 := n1_; have GW151 := n2_; have GE151 := n3_; clear n0_ n1_ n2_ n3_; clear hb hbox hg) | ((with_reducible refine gate_dst (N := 6) rfl ?_); refine box_event ?hg (N := 6) ?hd (cs := #[.slice none 0 0, .slice none 0 0]) (t := 32) ?hr ?_; (case hd => rfl); (case hg => rfl); (case hr => first | (go_simp; done) | (go_simp; rfl)); intro gb152 hg w80 hbox hb; have n0_ := Aside0.mk (blk_below (bz_ BK151.out) hb); have n1_ := Aside0.mk (below_step (by repeat (first | (with_reducible first | exact HB.out | apply below_alloc | apply pw_below_drewN | apply below_drew1 | refine below_set ?_ GE151.out) | exact HB.out)) hb); have n2_ := Aside0.mk (hbox); have n3_ := Aside0.mk ((by rw [hg]; exact (below_size (by repeat (first | (with_reducible first | exact HB.out | apply below_alloc | apply pw_below_drewN | apply below_drew1 | refine below_set ?_ GE151.out) | exact HB.out))) : w.heap.size ≤ gb152)); have n4_ := Aside0.mk ((by rw [hg]; exact (below_size (by repeat (first | (with_reducible first | exact HB.out | apply below_alloc | apply pw_below_drewN | apply below_drew1 | refine below_set ?_ GE151.out) | exact HB.out))) : w.heap.size ≤ gb152)); have n5_ := Aside0.mk ((by rw [hg]; exact Nat.ne_of_lt (blk_lt (g := gb151) (o := .cells #[.slice A0_0 l0_0.length c0_0, .slice A0_1 l0_1.length c0_1] 32 (0, 0)) (bz_ BK151.out)) : gb151 ≠ gb152)); have n6_ := Aside0.mk ((by rw [hg]; exact Nat.ne_of_gt (blk_lt (g := gb151) (o := .cells #[.slice A0_0 l0_0.length c0_0, .slice A0_1 l0_1.length c0_1] 32 (0, 0)) (bz_ BK151.out)) : gb152 ≠ gb151)); clear BK151; clear HB; have BK151 := n0_; have HB := n1_; have BK152 := n2_; have GW152 := n3_; have GE152 := n4_; have NB151_152 := n5_; have NB152_151 := n6_; clear n0_ n1_ n2_ n3_ n4_ n5_ n6_; clear hb hbox hg))
          have n0_ := Aside0.mk (blk_drew BK151.out)
          have n1_ := Aside0.mk (blk_drew BK152.out)
          have n2_ := Aside0.mk (below_drew1 HB.out)
          clear BK151
          clear BK152
          clear HB
          have BK151 := n0_
          have BK152 := n1_
          have HB := n2_
          clear n0_ n1_ n2_
          refine start_ (n := 8) (S := fun w' => w'.cell? ⟨gb151, 0, none⟩ = some (.slice A0_0 l0_0.length c0_0) ∧ w'.cell? ⟨gb151, 1, none⟩ = some (.slice A0_1 l0_1.length c0_1)) (ds := []) #[false, false, false, false, false, false, false, false] (by kernel_rfl) rfl rfl ⟨(blk_cell BK151.out 0).trans rfl, (blk_cell BK151.out 1).trans rfl⟩ (fun hHeld => ?_); refine with_tabW spec_EquateContexts.tab1 spec_EquateContexts.bits1 (fun HT_ HW_ => ?_)
          generalize w80.drew = w81 at BK151 BK152 HB hHeld ⊢
          refine pA_ 1 (some 12) #[false, true, false, false, false, false, false, false] HT_.out (h := ?_)
          refine pA_ 4 (some 15) #[false, true, false, false, true, false, false, false] HT_.out (h := ?_)
          refine tA_ 0 (some 11) #[true, true, false, false, true, false, false, false] HT_.out HW_.out hHeld (h := ?_)
          refine tA_ 3 (some 14) #[true, true, false, true, true, false, false, false] HT_.out HW_.out hHeld (h := ?_)
          refine one_ (i := 2) (N := some 13) (bl 5 8) rfl rfl (one_of HT_.out (by kernel_rfl)) (by decide) (fun K hK => ?_)
          refine goes_ Try.func51 (by kernel_rfl) rfl #[.agg #[.slice A0_0 l0_0.length c0_0, .slice A0_1 l0_1.length c0_1], .int .i64 a1] (by rfl) rfl rfl (by (try simp only [List.map_toArray, List.map_cons, List.map_nil]); first | done | rfl | (simp only [List.length_drop, List.length_take]; rfl)) ?_
          with_reducible refine (spec_l2Find.calls _ _ l0_0 _ _ l0_1 a1 t153 _ ?side1 ?side2 ?side3 ?side4 A4.out).mono ?_
          (case side1 => exact cz_ (Kd.C_below HR0_0.out HB.out))
          (case side2 => exact HC0_0.out)
          (case side3 => exact cz_ (Kd.C_below HR0_1.out HB.out))
          (case side4 => exact HC0_1.out)
          rintro e w82 ⟨rfl, hb⟩
          refine ⟨_, rfl, ?_⟩
          have n0_ := Aside0.mk (blk_below (bz_ BK151.out) hb)
          have n1_ := Aside0.mk (blk_below (bz_ BK152.out) hb)
          have n2_ := Aside0.mk (below_step (by repeat (first | (with_reducible first | exact HB.out | apply below_alloc | apply pw_below_drewN | apply below_drew1 | refine below_set ?_ GE151.out | refine below_set ?_ GE152.out) | exact HB.out)) hb)
          clear BK151
          clear BK152
          clear HB
          have BK151 := n0_
          have BK152 := n1_
          have HB := n2_
          clear n0_ n1_ n2_
          (try clear hb)
          (try clear hb2)
          (try clear hk)
          (try clear hi)
          refine hK.out _ _ ⟨(blk_cell BK151.out 0).trans rfl, (blk_cell BK151.out 1).trans rfl⟩ (fun hHeld => ?_)
          clear hK K
          refine norm_ (a' := ?_) ?_ ?_
          rotate_left
          ·show Act.put _ (some 13) _ = _
           simp only [Act.put, List.setIfInBounds_toArray, List.set_cons_zero, List.set_cons_succ, i64_w, i32_w]
           rfl
          refine one_ (i := 5) (N := some 16) (bl 6 8) rfl rfl (one_of HT_.out (by kernel_rfl)) (by decide) (fun K hK => ?_)
          refine goes_ Try.func51 (by kernel_rfl) rfl #[.agg #[.slice A0_0 l0_0.length c0_0, .slice A0_1 l0_1.length c0_1], .int .i64 a2] (by rfl) rfl rfl (by (try simp only [List.map_toArray, List.map_cons, List.map_nil]); first | done | rfl | (simp only [List.length_drop, List.length_take]; rfl)) ?_
          with_reducible refine (spec_l2Find.calls _ _ l0_0 _ _ l0_1 a2 t154 _ ?side1 ?side2 ?side3 ?side4 A5.out).mono ?_
          (case side1 => exact cz_ (Kd.C_below HR0_0.out HB.out))
          (case side2 => exact HC0_0.out)
          (case side3 => exact cz_ (Kd.C_below HR0_1.out HB.out))
          (case side4 => exact HC0_1.out)
          rintro e w83 ⟨rfl, hb⟩
          refine ⟨_, rfl, ?_⟩
          have n0_ := Aside0.mk (blk_below (bz_ BK151.out) hb)
          have n1_ := Aside0.mk (blk_below (bz_ BK152.out) hb)
          have n2_ := Aside0.mk (below_step (by repeat (first | (with_reducible first | exact HB.out | apply below_alloc | apply pw_below_drewN | apply below_drew1 | refine below_set ?_ GE151.out | refine below_set ?_ GE152.out) | exact HB.out)) hb)
          clear BK151
          clear BK152
          clear HB
          have BK151 := n0_
          have BK152 := n1_
          have HB := n2_
          clear n0_ n1_ n2_
          (try clear hb)
          (try clear hb2)
          (try clear hk)
          (try clear hi)
          refine hK.out _ _ ⟨(blk_cell BK151.out 0).trans rfl, (blk_cell BK151.out 1).trans rfl⟩ (fun hHeld => ?_)
          clear hK K
          refine norm_ (a' := ?_) ?_ ?_
          rotate_left
          ·show Act.put _ (some 16) _ = _
           simp only [Act.put, List.setIfInBounds_toArray, List.set_cons_zero, List.set_cons_succ, i64_w, i32_w]
           rfl
          refine pA_ 6 (some 8) (bl 7 8) HT_.out (h := ?_)
          refine pA_ 7 (some 9) (bl 8 8) HT_.out (h := ?_)
          refine done_ (done_of HT_.out (by kernel_rfl)) ?_
          try go_wp2
          have n0_ := Aside0.mk (blk_drew BK151.out)
          have n1_ := Aside0.mk (blk_drew BK152.out)
          have n2_ := Aside0.mk (below_drew1 HB.out)
          clear BK151
          clear BK152
          clear HB
          have BK151 := n0_
          have BK152 := n1_
          have HB := n2_
          clear n0_ n1_ n2_
          have p156 : 0 ≤ (t153 : Int) := of_decide_eq_true (by first | (with_reducible assumption) | assumption)
          have q156 : t153 < (l0_0.length : Int) := of_decide_eq_true (by first | (with_reducible assumption) | assumption)
          obtain ⟨ad156, e156, hx156_0, hx156_1⟩ := at_T44 HR0_0.out t153 p156 q156
          have hw156_1 := hx156_1
          have hw156_0 := hx156_0
          cases e156
          replace hx156_0 := (HB.out.cell (World.block_lt_of_cell? w _ hx156_0)).trans hx156_0
          replace hx156_1 := (HB.out.cell (World.block_lt_of_cell? w _ hx156_1)).trans hx156_1
          replace p156 := eq_true p156
          replace q156 := eq_true q156
          have p157 : 0 ≤ (t154 : Int) := of_decide_eq_true (by first | (with_reducible assumption) | assumption)
          have q157 : t154 < (l0_0.length : Int) := of_decide_eq_true (by first | (with_reducible assumption) | assumption)
          obtain ⟨ad157, e157, hx157_0, hx157_1⟩ := at_T44 HR0_0.out t154 p157 q157
          have hw157_1 := hx157_1
          have hw157_0 := hx157_0
          obtain rfl : ad156 = ad157 := (by injection e157)
          replace hx157_0 := (HB.out.cell (World.block_lt_of_cell? w _ hx157_0)).trans hx157_0
          replace hx157_1 := (HB.out.cell (World.block_lt_of_cell? w _ hx157_1)).trans hx157_1
          replace p157 := eq_true p157
          replace q157 := eq_true q157
          refine start_ (n := 31) (S := fun w' => w'.cell? ⟨gb151, 0, none⟩ = some (.slice (some ad156) l0_0.length c0_0) ∧ w'.cell? ⟨gb151, 1, none⟩ = some (.slice A0_1 l0_1.length c0_1) ∧ w'.cell? (ad156.add ((t153).toNat * 2)) = some (.int .i64 ((rd_T44 l0_0 t153).f0)) ∧ w'.cell? ⟨(ad156.add ((t153).toNat * 2)).block, (ad156.add ((t153).toNat * 2)).off + 1, none⟩ = some (.int .i64 ((rd_T44 l0_0 t153).f1)) ∧ w'.cell? (ad156.add ((t154).toNat * 2)) = some (.int .i64 ((rd_T44 l0_0 t154).f0)) ∧ w'.cell? ⟨(ad156.add ((t154).toNat * 2)).block, (ad156.add ((t154).toNat * 2)).off + 1, none⟩ = some (.int .i64 ((rd_T44 l0_0 t154).f1))) (ds := []) #[false, false, false, false, false, false, false, false, false, false, false, false, false, false, false, false, false, false, false, false, false, false, false, false, false, false, false, false, false, false, false] (by kernel_rfl) rfl rfl ⟨(blk_cell BK151.out 0).trans rfl, (blk_cell BK151.out 1).trans rfl, ((HB.out.cell (World.block_lt_of_cell? w _ hw156_0)).trans hw156_0), ((HB.out.cell (World.block_lt_of_cell? w _ hw156_1)).trans hw156_1), ((HB.out.cell (World.block_lt_of_cell? w _ hw157_0)).trans hw157_0), ((HB.out.cell (World.block_lt_of_cell? w _ hw157_1)).trans hw157_1)⟩ (fun hHeld => ?_); refine with_tabW spec_EquateContexts.tab2 spec_EquateContexts.bits2 (fun HT_ HW_ => ?_)
          generalize w83.drew = w84 at BK151 BK152 HB hx156_0 hx156_1 hx157_0 hx157_1 hHeld ⊢
          refine tA_ 0 (some 17) (bl 1 31) HT_.out HW_.out hHeld (h := ?_)
          refine one_ (i := 1) (N := some 18) (bl 2 31) rfl rfl (one_of HT_.out (by kernel_rfl)) (by decide) (fun K hK => ?_)
          refine goes_ Try.func33 (by kernel_rfl) rfl #[.agg #[.slice (some ad156) l0_0.length c0_0, .slice A0_1 l0_1.length c0_1]] (by rfl) rfl rfl (by (try simp only [List.map_toArray, List.map_cons, List.map_nil]); first | done | rfl | (simp only [List.length_drop, List.length_take]; rfl)) ?_
          with_reducible refine (spec_l2Good.calls _ _ l0_0 _ _ l0_1 true _ ?side1 ?side2 ?side3 ?side4 A6.out).mono ?_
          (case side1 => exact cz_ (Kd.C_below HR0_0.out HB.out))
          (case side2 => exact HC0_0.out)
          (case side3 => exact cz_ (Kd.C_below HR0_1.out HB.out))
          (case side4 => exact HC0_1.out)
          rintro e w85 ⟨rfl, hb⟩
          refine ⟨_, rfl, ?_⟩
          have n0_ := Aside0.mk (blk_below (bz_ BK151.out) hb)
          have n1_ := Aside0.mk (blk_below (bz_ BK152.out) hb)
          have n2_ := Aside0.mk (below_step (by repeat (first | (with_reducible first | exact HB.out | apply below_alloc | apply pw_below_drewN | apply below_drew1 | refine below_set ?_ GE151.out | refine below_set ?_ GE152.out) | exact HB.out)) hb)
          clear BK151
          clear BK152
          clear HB
          have BK151 := n0_
          have BK152 := n1_
          have HB := n2_
          clear n0_ n1_ n2_
          (try clear hb)
          (try clear hb2)
          (try clear hk)
          (try clear hi)
          refine hK.out _ _ ⟨(blk_cell BK151.out 0).trans rfl, (blk_cell BK151.out 1).trans rfl, ((HB.out.cell (World.block_lt_of_cell? w _ hw156_0)).trans hw156_0), ((HB.out.cell (World.block_lt_of_cell? w _ hw156_1)).trans hw156_1), ((HB.out.cell (World.block_lt_of_cell? w _ hw157_0)).trans hw157_0), ((HB.out.cell (World.block_lt_of_cell? w _ hw157_1)).trans hw157_1)⟩ (fun hHeld => ?_)
          clear hK K
          refine norm_ (a' := ?_) ?_ ?_
          rotate_left
          ·show Act.put _ (some 18) _ = _
           simp only [Act.put, List.setIfInBounds_toArray, List.set_cons_zero, List.set_cons_succ, i64_w, i32_w]
           rfl
          refine pA_ 2 (some 19) (bl 3 31) HT_.out (h := ?_)
          refine pA_ 3 (some 20) (bl 4 31) HT_.out (h := ?_)
          refine pA_ 4 (some 21) (bl 5 31) HT_.out (h := ?_)
          refine pA_ 5 (some 22) (bl 6 31) HT_.out (h := ?_)
          refine pA_ 6 (some 23) (bl 7 31) HT_.out (h := ?_)
          refine pA_ 7 (some 24) (bl 8 31) HT_.out (h := ?_)
          refine pA_ 8 (some 25) (bl 9 31) HT_.out (h := ?_)
          refine pA_ 9 (some 26) (bl 10 31) HT_.out (h := ?_)
          refine pA_ 10 (some 27) (bl 11 31) HT_.out (h := ?_)
          refine pA_ 11 (some 28) (bl 12 31) HT_.out (h := ?_)
          refine pA_ 12 (some 29) (bl 13 31) HT_.out (h := ?_)
          refine pA_ 13 (some 30) (bl 14 31) HT_.out (h := ?_)
          refine pA_ 14 (some 31) (bl 15 31) HT_.out (h := ?_)
          refine pA_ 15 (some 32) (bl 16 31) HT_.out (h := ?_)
          refine pA_ 16 (some 33) (bl 17 31) HT_.out (h := ?_)
          refine pA_ 17 (some 34) (bl 18 31) HT_.out (h := ?_)
          refine pA_ 19 (some 36) #[true, true, true, true, true, true, true, true, true, true, true, true, true, true, true, true, true, true, false, true, false, false, false, false, false, false, false, false, false, false, false] HT_.out (h := ?_)
          refine pA_ 23 (some 40) #[true, true, true, true, true, true, true, true, true, true, true, true, true, true, true, true, true, true, false, true, false, false, false, true, false, false, false, false, false, false, false] HT_.out (h := ?_)
          refine pA_ 25 (some 42) #[true, true, true, true, true, true, true, true, true, true, true, true, true, true, true, true, true, true, false, true, false, false, false, true, false, true, false, false, false, false, false] HT_.out (h := ?_)
          refine tA_ 18 (some 35) #[true, true, true, true, true, true, true, true, true, true, true, true, true, true, true, true, true, true, true, true, false, false, false, true, false, true, false, false, false, false, false] HT_.out HW_.out hHeld (h := ?_)
          refine pA_ 20 (some 37) #[true, true, true, true, true, true, true, true, true, true, true, true, true, true, true, true, true, true, true, true, true, false, false, true, false, true, false, false, false, false, false] HT_.out (h := ?_)
          refine pA_ 21 (some 38) #[true, true, true, true, true, true, true, true, true, true, true, true, true, true, true, true, true, true, true, true, true, true, false, true, false, true, false, false, false, false, false] HT_.out (h := ?_)
          refine tA_ 22 (some 39) #[true, true, true, true, true, true, true, true, true, true, true, true, true, true, true, true, true, true, true, true, true, true, true, true, false, true, false, false, false, false, false] HT_.out HW_.out hHeld (h := ?_)
          refine tA_ 24 (some 41) (bl 26 31) HT_.out HW_.out hHeld (h := ?_)
          refine pA_ 26 (some 43) (bl 27 31) HT_.out (h := ?_)
          refine pA_ 27 (some 44) (bl 28 31) HT_.out (h := ?_)
          refine tA_ 28 (some 45) (bl 29 31) HT_.out HW_.out hHeld (h := ?_)
          refine pA_ 29 (some 46) (bl 30 31) HT_.out (h := ?_)
          refine pA_ 30 (some 47) (bl 31 31) HT_.out (h := ?_)
          refine done_ (done_of HT_.out (by kernel_rfl)) ?_
          have hnb86 := NB152_151.out
          have hnc86 := NB151_152.out
          have hcz87_0 : w85.cell? ⟨gb152, 0, none⟩ = some (.slice none 0 0) := (blk_cell BK152.out 0).trans rfl
          have hcz87_1 : w85.cell? ⟨gb152, 1, none⟩ = some (.slice none 0 0) := (blk_cell BK152.out 1).trans rfl
          have hfz87_0 := blk_frozen BK152.out 0
          have hfz87_1 := blk_frozen BK152.out 1
          try go_wp2
          refine bodyPost_ret (results_ct rfl _ _ gb152 32 #[.slice none 0 0, .slice none 0 0] (0, 0) _ rfl (by (with_reducible repeat (first | refine blk_drewN ?_ _ | refine blk_drew ?_ | refine blk_alloc ?_ _)); refine blk_put (cs := #[.slice none 0 0, .slice none 0 0]) ?_ 1 _ rfl; (with_reducible repeat (first | refine blk_drewN ?_ _ | refine blk_drew ?_ | refine blk_alloc ?_ _)); refine blk_put (cs := #[.slice none 0 0, .slice none 0 0]) ?_ 0 _ rfl; (with_reducible repeat (first | refine blk_drewN ?_ _ | refine blk_drew ?_ | refine blk_alloc ?_ _)); exact BK152.out) Try.underlying32 rfl (by kernel_rfl)) rfl ?_
          exact ⟨_, _, by first | rfl | (simp [errW_none, errW_some] <;> rfl) | (simp [*, errW_none, errW_some] <;> rfl), by first | exact Kd.R_nil _ _ _ _ _ | exact Kd.N_nil _ _ _ _ _ | exact Kd.V_nil _ _ _ _ _ | exact Kd.Q_nil _ _ _ _ _ | exact Kd.S_nil _ _ _ _ _, by first | exact Kd.R_nil _ _ _ _ _ | exact Kd.N_nil _ _ _ _ _ | exact Kd.V_nil _ _ _ _ _ | exact Kd.Q_nil _ _ _ _ _ | exact Kd.S_nil _ _ _ _ _, by repeat (first | (with_reducible first | exact HB.out | apply below_alloc | apply pw_below_drewN | apply below_drew1 | refine below_set ?_ GE151.out | refine below_set ?_ GE152.out) | exact HB.out)⟩
        ·rw [if_neg c41] at H
         exact absurd H (by simp)
       ·rw [if_neg c40] at H
        exact absurd H (by simp)
      ·rw [if_neg c39] at H
       exact absurd H (by simp)
     ·rw [if_neg c38] at H
      exact absurd H (by simp)
 ·replace c7 := Bool.eq_false_iff.mpr c7
  subst c7
  have H1 : (some (([] : List (S44)), ([] : List (S36)), false)) = some (r1, r2, r3) := by rw [if_neg (show ¬ (false = true) by decide)] at H; exact H
  clear H
  have H := H1
  clear H1
  simp only [Option.some.injEq, Prod.mk.injEq] at H
  obtain ⟨rfl, rfl, rfl⟩ := H
  go_enter Try.func24, Try.ntmps24
  try go_wp2_with (first | ((with_reducible refine gate_dst (N := 3) rfl ?_); refine box_event ?hg (N := 3) ?hd (cs := #[.slice A0_0 l0_0.length c0_0, .slice A0_1 l0_1.length c0_1]) (t := 32) ?hr ?_; (case hd => rfl); (case hg => rfl); (case hr => first | (go_simp; done) | (go_simp; rfl)); intro gb151 hg w88 hbox hb; have n0_ := Aside0.mk (below_step (wz_ HB.out) hb); have n1_ := Aside0.mk (hbox); have n2_ := Aside0.mk ((by rw [hg]; exact (below_size (wz_ HB.out)) : w.heap.size ≤ gb151)); have n3_ := Aside0.mk ((by rw [hg]; exact (below_size (wz_ HB.out)) : w.heap.size ≤ gb151)); clear HB; have HB := n0_; have BK151 := n1_; have GW151 := n2_; have GE151 := n3_; clear n0_ n1_ n2_ n3_; clear hb hbox hg) | ((with_reducible refine gate_dst (N := 6) rfl ?_); refine box_event ?hg (N := 6) ?hd (cs := #[.slice none 0 0, .slice none 0 0]) (t := 32) ?hr ?_; (case hd => rfl); (case hg => rfl); (case hr => first | (go_simp; done) | (go_simp; rfl)); intro gb152 hg w89 hbox hb; have n0_ := Aside0.mk (blk_below (bz_ BK151.out) hb); have n1_ := Aside0.mk (below_step (by repeat (first | (with_reducible first | exact HB.out | apply below_alloc | apply pw_below_drewN | apply below_drew1 | refine below_set ?_ GE151.out) | exact HB.out)) hb); have n2_ := Aside0.mk (hbox); have n3_ := Aside0.mk ((by rw [hg]; exact (below_size (by repeat (first | (with_reducible first | exact HB.out | apply below_alloc | apply pw_below_drewN | apply below_drew1 | refine below_set ?_ GE151.out) | exact HB.out))) : w.heap.size ≤ gb152)); have n4_ := Aside0.mk ((by rw [hg]; exact (below_size (by repeat (first | (with_reducible first | exact HB.out | apply below_alloc | apply pw_below_drewN | apply below_drew1 | refine below_set ?_ GE151.out) | exact HB.out))) : w.heap.size ≤ gb152)); have n5_ := Aside0.mk ((by rw [hg]; exact Nat.ne_of_lt (blk_lt (g := gb151) (o := .cells #[.slice A0_0 l0_0.length c0_0, .slice A0_1 l0_1.length c0_1] 32 (0, 0)) (bz_ BK151.out)) : gb151 ≠ gb152)); have n6_ := Aside0.mk ((by rw [hg]; exact Nat.ne_of_gt (blk_lt (g := gb151) (o := .cells #[.slice A0_0 l0_0.length c0_0, .slice A0_1 l0_1.length c0_1] 32 (0, 0)) (bz_ BK151.out)) : gb152 ≠ gb151)); clear BK151; clear HB; have BK151 := n0_; have HB := n1_; have BK152 := n2_; have GW152 := n3_; have GE152 := n4_; have NB151_152 := n5_; have NB152_151 := n6_; clear n0_ n1_ n2_ n3_ n4_ n5_ n6_; clear hb hbox hg))
  have n0_ := Aside0.mk (blk_drew BK151.out)
  have n1_ := Aside0.mk (blk_drew BK152.out)
  have n2_ := Aside0.mk (below_drew1 HB.out)
  clear BK151
  clear BK152
  clear HB
  have BK151 := n0_
  have BK152 := n1_
  have HB := n2_
  clear n0_ n1_ n2_
  refine start_ (n := 8) (S := fun w' => w'.cell? ⟨gb151, 0, none⟩ = some (.slice A0_0 l0_0.length c0_0) ∧ w'.cell? ⟨gb151, 1, none⟩ = some (.slice A0_1 l0_1.length c0_1)) (ds := []) #[false, false, false, false, false, false, false, false] (by kernel_rfl) rfl rfl ⟨(blk_cell BK151.out 0).trans rfl, (blk_cell BK151.out 1).trans rfl⟩ (fun hHeld => ?_); refine with_tabW spec_EquateContexts.tab1 spec_EquateContexts.bits1 (fun HT_ HW_ => ?_)
  generalize w89.drew = w90 at BK151 BK152 HB hHeld ⊢
  refine pA_ 1 (some 12) #[false, true, false, false, false, false, false, false] HT_.out (h := ?_)
  refine pA_ 4 (some 15) #[false, true, false, false, true, false, false, false] HT_.out (h := ?_)
  refine tA_ 0 (some 11) #[true, true, false, false, true, false, false, false] HT_.out HW_.out hHeld (h := ?_)
  refine tA_ 3 (some 14) #[true, true, false, true, true, false, false, false] HT_.out HW_.out hHeld (h := ?_)
  refine one_ (i := 2) (N := some 13) (bl 5 8) rfl rfl (one_of HT_.out (by kernel_rfl)) (by decide) (fun K hK => ?_)
  refine goes_ Try.func51 (by kernel_rfl) rfl #[.agg #[.slice A0_0 l0_0.length c0_0, .slice A0_1 l0_1.length c0_1], .int .i64 a1] (by rfl) rfl rfl (by (try simp only [List.map_toArray, List.map_cons, List.map_nil]); first | done | rfl | (simp only [List.length_drop, List.length_take]; rfl)) ?_
  with_reducible refine (spec_l2Find.calls _ _ l0_0 _ _ l0_1 a1 t153 _ ?side1 ?side2 ?side3 ?side4 A4.out).mono ?_
  (case side1 => exact cz_ (Kd.C_below HR0_0.out HB.out))
  (case side2 => exact HC0_0.out)
  (case side3 => exact cz_ (Kd.C_below HR0_1.out HB.out))
  (case side4 => exact HC0_1.out)
  rintro e w91 ⟨rfl, hb⟩
  refine ⟨_, rfl, ?_⟩
  have n0_ := Aside0.mk (blk_below (bz_ BK151.out) hb)
  have n1_ := Aside0.mk (blk_below (bz_ BK152.out) hb)
  have n2_ := Aside0.mk (below_step (by repeat (first | (with_reducible first | exact HB.out | apply below_alloc | apply pw_below_drewN | apply below_drew1 | refine below_set ?_ GE151.out | refine below_set ?_ GE152.out) | exact HB.out)) hb)
  clear BK151
  clear BK152
  clear HB
  have BK151 := n0_
  have BK152 := n1_
  have HB := n2_
  clear n0_ n1_ n2_
  (try clear hb)
  (try clear hb2)
  (try clear hk)
  (try clear hi)
  refine hK.out _ _ ⟨(blk_cell BK151.out 0).trans rfl, (blk_cell BK151.out 1).trans rfl⟩ (fun hHeld => ?_)
  clear hK K
  refine norm_ (a' := ?_) ?_ ?_
  rotate_left
  ·show Act.put _ (some 13) _ = _
   simp only [Act.put, List.setIfInBounds_toArray, List.set_cons_zero, List.set_cons_succ, i64_w, i32_w]
   rfl
  refine one_ (i := 5) (N := some 16) (bl 6 8) rfl rfl (one_of HT_.out (by kernel_rfl)) (by decide) (fun K hK => ?_)
  refine goes_ Try.func51 (by kernel_rfl) rfl #[.agg #[.slice A0_0 l0_0.length c0_0, .slice A0_1 l0_1.length c0_1], .int .i64 a2] (by rfl) rfl rfl (by (try simp only [List.map_toArray, List.map_cons, List.map_nil]); first | done | rfl | (simp only [List.length_drop, List.length_take]; rfl)) ?_
  with_reducible refine (spec_l2Find.calls _ _ l0_0 _ _ l0_1 a2 t154 _ ?side1 ?side2 ?side3 ?side4 A5.out).mono ?_
  (case side1 => exact cz_ (Kd.C_below HR0_0.out HB.out))
  (case side2 => exact HC0_0.out)
  (case side3 => exact cz_ (Kd.C_below HR0_1.out HB.out))
  (case side4 => exact HC0_1.out)
  rintro e w92 ⟨rfl, hb⟩
  refine ⟨_, rfl, ?_⟩
  have n0_ := Aside0.mk (blk_below (bz_ BK151.out) hb)
  have n1_ := Aside0.mk (blk_below (bz_ BK152.out) hb)
  have n2_ := Aside0.mk (below_step (by repeat (first | (with_reducible first | exact HB.out | apply below_alloc | apply pw_below_drewN | apply below_drew1 | refine below_set ?_ GE151.out | refine below_set ?_ GE152.out) | exact HB.out)) hb)
  clear BK151
  clear BK152
  clear HB
  have BK151 := n0_
  have BK152 := n1_
  have HB := n2_
  clear n0_ n1_ n2_
  (try clear hb)
  (try clear hb2)
  (try clear hk)
  (try clear hi)
  refine hK.out _ _ ⟨(blk_cell BK151.out 0).trans rfl, (blk_cell BK151.out 1).trans rfl⟩ (fun hHeld => ?_)
  clear hK K
  refine norm_ (a' := ?_) ?_ ?_
  rotate_left
  ·show Act.put _ (some 16) _ = _
   simp only [Act.put, List.setIfInBounds_toArray, List.set_cons_zero, List.set_cons_succ, i64_w, i32_w]
   rfl
  refine pA_ 6 (some 8) (bl 7 8) HT_.out (h := ?_)
  refine pA_ 7 (some 9) (bl 8 8) HT_.out (h := ?_)
  refine done_ (done_of HT_.out (by kernel_rfl)) ?_
  try go_wp2
  have n0_ := Aside0.mk (blk_drew BK151.out)
  have n1_ := Aside0.mk (blk_drew BK152.out)
  have n2_ := Aside0.mk (below_drew1 HB.out)
  clear BK151
  clear BK152
  clear HB
  have BK151 := n0_
  have BK152 := n1_
  have HB := n2_
  clear n0_ n1_ n2_
  refine start_ (n := 31) (S := fun w' => w'.cell? ⟨gb151, 0, none⟩ = some (.slice A0_0 l0_0.length c0_0) ∧ w'.cell? ⟨gb151, 1, none⟩ = some (.slice A0_1 l0_1.length c0_1)) (ds := []) #[false, false, false, false, false, false, false, false, false, false, false, false, false, false, false, false, false, false, false, false, false, false, false, false, false, false, false, false, false, false, false] (by kernel_rfl) rfl rfl ⟨(blk_cell BK151.out 0).trans rfl, (blk_cell BK151.out 1).trans rfl⟩ (fun hHeld => ?_); refine with_tabW spec_EquateContexts.tab2 spec_EquateContexts.bits2 (fun HT_ HW_ => ?_)
  generalize w92.drew = w93 at BK151 BK152 HB hHeld ⊢
  refine tA_ 0 (some 17) (bl 1 31) HT_.out HW_.out hHeld (h := ?_)
  refine one_ (i := 1) (N := some 18) (bl 2 31) rfl rfl (one_of HT_.out (by kernel_rfl)) (by decide) (fun K hK => ?_)
  refine goes_ Try.func33 (by kernel_rfl) rfl #[.agg #[.slice A0_0 l0_0.length c0_0, .slice A0_1 l0_1.length c0_1]] (by rfl) rfl rfl (by (try simp only [List.map_toArray, List.map_cons, List.map_nil]); first | done | rfl | (simp only [List.length_drop, List.length_take]; rfl)) ?_
  with_reducible refine (spec_l2Good.calls _ _ l0_0 _ _ l0_1 false _ ?side1 ?side2 ?side3 ?side4 A6.out).mono ?_
  (case side1 => exact cz_ (Kd.C_below HR0_0.out HB.out))
  (case side2 => exact HC0_0.out)
  (case side3 => exact cz_ (Kd.C_below HR0_1.out HB.out))
  (case side4 => exact HC0_1.out)
  rintro e w94 ⟨rfl, hb⟩
  refine ⟨_, rfl, ?_⟩
  have n0_ := Aside0.mk (blk_below (bz_ BK151.out) hb)
  have n1_ := Aside0.mk (blk_below (bz_ BK152.out) hb)
  have n2_ := Aside0.mk (below_step (by repeat (first | (with_reducible first | exact HB.out | apply below_alloc | apply pw_below_drewN | apply below_drew1 | refine below_set ?_ GE151.out | refine below_set ?_ GE152.out) | exact HB.out)) hb)
  clear BK151
  clear BK152
  clear HB
  have BK151 := n0_
  have BK152 := n1_
  have HB := n2_
  clear n0_ n1_ n2_
  (try clear hb)
  (try clear hb2)
  (try clear hk)
  (try clear hi)
  refine hK.out _ _ ⟨(blk_cell BK151.out 0).trans rfl, (blk_cell BK151.out 1).trans rfl⟩ (fun hHeld => ?_)
  clear hK K
  refine norm_ (a' := ?_) ?_ ?_
  rotate_left
  ·show Act.put _ (some 18) _ = _
   simp only [Act.put, List.setIfInBounds_toArray, List.set_cons_zero, List.set_cons_succ, i64_w, i32_w]
   rfl
  refine pA_ 2 (some 19) (bl 3 31) HT_.out (h := ?_)
  refine pA_ 3 (some 20) (bl 4 31) HT_.out (h := ?_)
  refine pO_ 4 (some 21) (bl 5 31) HT_.out (h := ?_)
  refine pO_ 5 (some 22) (bl 6 31) HT_.out (h := ?_)
  refine pA_ 6 (some 23) (bl 7 31) HT_.out (h := ?_)
  refine pA_ 7 (some 24) (bl 8 31) HT_.out (h := ?_)
  refine pO_ 8 (some 25) (bl 9 31) HT_.out (h := ?_)
  refine pO_ 9 (some 26) (bl 10 31) HT_.out (h := ?_)
  refine pA_ 10 (some 27) (bl 11 31) HT_.out (h := ?_)
  refine pA_ 11 (some 28) (bl 12 31) HT_.out (h := ?_)
  refine pO_ 12 (some 29) (bl 13 31) HT_.out (h := ?_)
  refine pO_ 13 (some 30) (bl 14 31) HT_.out (h := ?_)
  refine pO_ 14 (some 31) (bl 15 31) HT_.out (h := ?_)
  refine pA_ 15 (some 32) (bl 16 31) HT_.out (h := ?_)
  refine pA_ 16 (some 33) (bl 17 31) HT_.out (h := ?_)
  refine pO_ 17 (some 34) (bl 18 31) HT_.out (h := ?_)
  refine pO_ 18 (some 35) (bl 19 31) HT_.out (h := ?_)
  refine pO_ 19 (some 36) (bl 20 31) HT_.out (h := ?_)
  refine pO_ 20 (some 37) (bl 21 31) HT_.out (h := ?_)
  refine pO_ 21 (some 38) (bl 22 31) HT_.out (h := ?_)
  refine pO_ 22 (some 39) (bl 23 31) HT_.out (h := ?_)
  refine pO_ 23 (some 40) (bl 24 31) HT_.out (h := ?_)
  refine pO_ 24 (some 41) (bl 25 31) HT_.out (h := ?_)
  refine pO_ 25 (some 42) (bl 26 31) HT_.out (h := ?_)
  refine pO_ 26 (some 43) (bl 27 31) HT_.out (h := ?_)
  refine pO_ 27 (some 44) (bl 28 31) HT_.out (h := ?_)
  refine pO_ 28 (some 45) (bl 29 31) HT_.out (h := ?_)
  refine pO_ 29 (some 46) (bl 30 31) HT_.out (h := ?_)
  refine pA_ 30 (some 47) (bl 31 31) HT_.out (h := ?_)
  refine done_ (done_of HT_.out (by kernel_rfl)) ?_
  have hnb95 := NB152_151.out
  have hnc95 := NB151_152.out
  have hcz96_0 : w94.cell? ⟨gb152, 0, none⟩ = some (.slice none 0 0) := (blk_cell BK152.out 0).trans rfl
  have hcz96_1 : w94.cell? ⟨gb152, 1, none⟩ = some (.slice none 0 0) := (blk_cell BK152.out 1).trans rfl
  have hfz96_0 := blk_frozen BK152.out 0
  have hfz96_1 := blk_frozen BK152.out 1
  try go_wp2
  refine bodyPost_ret (results_ct rfl _ _ gb152 32 #[.slice none 0 0, .slice none 0 0] (0, 0) _ rfl (by (with_reducible repeat (first | refine blk_drewN ?_ _ | refine blk_drew ?_ | refine blk_alloc ?_ _)); refine blk_put (cs := #[.slice none 0 0, .slice none 0 0]) ?_ 1 _ rfl; (with_reducible repeat (first | refine blk_drewN ?_ _ | refine blk_drew ?_ | refine blk_alloc ?_ _)); refine blk_put (cs := #[.slice none 0 0, .slice none 0 0]) ?_ 0 _ rfl; (with_reducible repeat (first | refine blk_drewN ?_ _ | refine blk_drew ?_ | refine blk_alloc ?_ _)); exact BK152.out) Try.underlying32 rfl (by kernel_rfl)) rfl ?_
  exact ⟨_, _, by first | rfl | (simp [errW_none, errW_some] <;> rfl) | (simp [*, errW_none, errW_some] <;> rfl), by first | exact Kd.R_nil _ _ _ _ _ | exact Kd.N_nil _ _ _ _ _ | exact Kd.V_nil _ _ _ _ _ | exact Kd.Q_nil _ _ _ _ _ | exact Kd.S_nil _ _ _ _ _, by first | exact Kd.R_nil _ _ _ _ _ | exact Kd.N_nil _ _ _ _ _ | exact Kd.V_nil _ _ _ _ _ | exact Kd.Q_nil _ _ _ _ _ | exact Kd.S_nil _ _ _ _ _, by repeat (first | (with_reducible first | exact HB.out | apply below_alloc | apply pw_below_drewN | apply below_drew1 | refine below_set ?_ GE151.out | refine below_set ?_ GE152.out) | exact HB.out)⟩

end Go.Proofs.Ytlmdmnenljmdgaa.Q

-- Written by a program of this session (wip/xprint.py over the kit's printer).
import Derived.Test.YtlmdmnenljmdgaaQ0
import Derived.Test.YtlmdmnenljmdgaaQF72
namespace Go.Proofs.Ytlmdmnenljmdgaa.Q
open Go.RowKit Go.Proofs.YtlmdmnenljmdgaaW.PrintWords Go.Proofs.YtlmdmnenljmdgaaW.PrintLast
set_option linter.unusedVariables false
set_option linter.unusedSimpArgs false

/-! ### spec_l2Put: function 47 -/
def spec_l2Put.l0 : Nat → Int → List (S44) → List (S36) → Int → Int → Option ((List (S44)) × (List (S36)))
 | 0, _, _, _, _, _ => none
 | k + 1, x5, x152000, x152001, x153000, x153001 => if x5 < (x152000.length : Int) then (if 0 ≤ x5 then (if ((rd_T44 x152000 x5).f0) < x153000 then (spec_l2Put.l0 k (wrap64 (x5 + 1)) x152000 x152001 x153000 x153001) else ((spec_l2Own.f x152000 x152001).bind fun bt155 => ((some (([] : List (S44)) : List (S44))).bind fun y162 => (if x5 ≤ (x152000.length : Int) then ((some (x152000.take (x5 : Int).toNat : List (S44))).bind fun y165 => (if y162.length + y165.length < 8796093022208 then ((some (y162 ++ y165 : List (S44))).bind fun y169 => ((some (([(⟨x153000, x153001⟩ : S44)] : List (S44)) : List (S44))).bind fun y172 => (if y169.length + y172.length < 8796093022208 then ((some (y169 ++ y172 : List (S44))).bind fun y175 => ((some (x152000.drop (x5 : Int).toNat : List (S44))).bind fun y178 => (if y175.length + y178.length < 8796093022208 then (some ((y175 ++ y178), bt155.2)) else (none)))) else (none)))) else (none))) else (none))))) else (none)) else ((spec_l2Own.f x152000 x152001).bind fun bt185 => ((some (([] : List (S44)) : List (S44))).bind fun y192 => (if 0 ≤ x5 then (if x5 ≤ (x152000.length : Int) then ((some (x152000.take (x5 : Int).toNat : List (S44))).bind fun y195 => (if y192.length + y195.length < 8796093022208 then ((some (y192 ++ y195 : List (S44))).bind fun y199 => ((some (([(⟨x153000, x153001⟩ : S44)] : List (S44)) : List (S44))).bind fun y202 => (if y199.length + y202.length < 8796093022208 then ((some (y199 ++ y202 : List (S44))).bind fun y205 => ((some (x152000.drop (x5 : Int).toNat : List (S44))).bind fun y208 => (if y205.length + y208.length < 8796093022208 then (some ((y205 ++ y208), bt185.2)) else (none)))) else (none)))) else (none))) else (none)) else (none))))
def spec_l2Put.f (k : Nat) (l0_0 : List (S44)) (l0_1 : List (S36)) (a1_0 : Int) (a1_1 : Int) : Option ((List (S44)) × (List (S36))) := spec_l2Put.l0 k 0 l0_0 l0_1 a1_0 a1_1
theorem spec_l2Put.mono_l : ∀ k, (∀ y0 y1 y2 y3 y4, LeO (spec_l2Put.l0 k y0 y1 y2 y3 y4) (spec_l2Put.l0 (k + 1) y0 y1 y2 y3 y4))
 | 0 => fun _ _ _ _ _ r h => by simp [spec_l2Put.l0] at h
 | k + 1 => by
  have ih0 := spec_l2Put.mono_l k
  ·intro y0 y1 y2 y3 y4
   unfold spec_l2Put.l0
   repeat' first
   | (with_reducible exact ih0 _ _ _ _ _)
   | (with_reducible exact LeO.refl _)
   | (with_reducible exact LeO.none _)
   | (with_reducible refine LeO.ite ?_ ?_)
   | (with_reducible refine LeO.bind ?_ (fun _ => ?_))
   | exact ih0 _ _ _ _ _
   | exact LeO.none _
   | refine LeO.ite ?_ ?_
   | refine LeO.bind ?_ (fun _ => ?_)
theorem spec_l2Put.mono : ∀ a0 a1 a2 a3 k, LeO (spec_l2Put.f k a0 a1 a2 a3) (spec_l2Put.f (k + 1) a0 a1 a2 a3) := by
 intro a0 a1 a2 a3 k
 have ih0 := spec_l2Put.mono_l k
 unfold spec_l2Put.f
 repeat' first
   | (with_reducible exact ih0 _ _ _ _ _)
   | (with_reducible exact LeO.refl _)
   | (with_reducible exact LeO.none _)
   | (with_reducible refine LeO.ite ?_ ?_)
   | (with_reducible refine LeO.bind ?_ (fun _ => ?_))
   | exact ih0 _ _ _ _ _
   | exact LeO.none _
   | refine LeO.ite ?_ ?_
   | refine LeO.bind ?_ (fun _ => ?_)
def spec_l2Put.T2 : Bool × List (List Nat × List Nat) := (true, [([], []), ([], []), ([1], [1]), ([2], [2]), ([0, 3], [0, 3]), ([4], [4]), ([5], [5]), ([6, 5], [5, 6]), ([5], [5]), ([7, 8, 5], [5, 7, 8]), ([9, 5], [5, 9]), ([10, 5], [5, 10]), ([5], [5]), ([12, 5], [5, 12]), ([11, 13, 5], [5, 11, 13]), ([5, 14], [5, 14])])
def spec_l2Put.B2 : List Nat := [0, 0, 2, 6, 15, 31, 63, 127, 63, 511, 1023, 2047, 63, 4159, 16383, 32767]
theorem spec_l2Put.tab2 : rtab .any (opsOf Try.f47 2) = spec_l2Put.T2 := by kernel_rfl
theorem spec_l2Put.bits2 : waitsOk spec_l2Put.T2.2 spec_l2Put.B2 = true := by kernel_rfl
def spec_l2Put.T5 : Bool × List (List Nat × List Nat) := (true, [([], []), ([], []), ([1], [1]), ([], []), ([2, 3], [2, 3]), ([0, 4], [0, 4]), ([], []), ([6], [6]), ([5, 7, 5], [5, 7]), ([], []), ([9], [9]), ([], []), ([10, 11], [10, 11]), ([8, 12, 8], [8, 12]), ([0, 1, 2, 3, 4, 5, 6, 7, 8, 9, 10, 11, 12, 13], []), ([14, 13, 13, 0, 1, 2, 3, 4, 5, 6, 7, 8, 9, 10, 11, 12, 13], [13, 14])])
def spec_l2Put.B5 : List Nat := [0, 0, 2, 0, 14, 31, 0, 64, 255, 0, 512, 0, 3584, 8191, 16383, 32767]
theorem spec_l2Put.tab5 : rtab .any (opsOf Try.f47 5) = spec_l2Put.T5 := by kernel_rfl
theorem spec_l2Put.bits5 : waitsOk spec_l2Put.T5.2 spec_l2Put.B5 = true := by kernel_rfl
set_option maxHeartbeats 8000000 in
set_option maxRecDepth 100000 in
theorem spec_l2Put.calls (k : Nat) (A0_0 : Option Addr) (c0_0 : Nat) (l0_0 : List (S44)) (A0_1 : Option Addr) (c0_1 : Nat) (l0_1 : List (S36)) (a1_0 : Int) (a1_1 : Int) (r1 : List (S44)) (r2 : List (S36)) (w : World) (hr0_0 : Kd.C k44 w A0_0 l0_0.length l0_0) (hc0_0 : l0_0.length ≤ c0_0) (hr0_1 : Kd.C k36 w A0_1 l0_1.length l0_1) (hc0_1 : l0_1.length ≤ c0_1) (h : spec_l2Put.f k l0_0 l0_1 a1_0 a1_1 = some (r1, r2)) :
  Calls Try.prog 47 #[.agg #[.slice A0_0 l0_0.length c0_0, .slice A0_1 l0_1.length c0_1], .agg #[.int .i64 a1_0, .int .i64 a1_1]] w fun e w' => ∃ v0_ v1_ : Value, e = .returned (.agg #[v0_, v1_]) ∧ Kd.R k44 44 w' w.heap.size (fun _ => True) v0_ r1 ∧ Kd.R k36 36 w' w.heap.size (fun _ => True) v1_ r2 ∧ Below w.heap.size w w' := by
 have hu32 := Try.underlying32
 have hu44 := Try.underlying44
 have HR0_0 := Aside0.mk hr0_0
 have HC0_0 := Aside0.mk hc0_0
 clear hr0_0 hc0_0
 have HR0_1 := Aside0.mk hr0_1
 have HC0_1 := Aside0.mk hc0_1
 clear hr0_1 hc0_1
 have HB := Aside0.mk (Below.refl w.heap.size w)
 have H : (spec_l2Put.l0 k 0 l0_0 l0_1 a1_0 a1_1) = some (r1, r2) := h
 clear h
 have H' := Aside0.mk H
 clear H
 go_enter Try.func47, Try.ntmps47
 go_wp2_with (first | ((with_reducible refine gate_dst (N := 2) rfl ?_); refine box_event ?hg (N := 2) ?hd (cs := #[.slice A0_0 l0_0.length c0_0, .slice A0_1 l0_1.length c0_1]) (t := 32) ?hr ?_; (case hd => rfl); (case hg => rfl); (case hr => first | (go_simp; done) | (go_simp; rfl)); intro gb151 hg w3 hbox hb; have n0_ := Aside0.mk (below_step (wz_ HB.out) hb); have n1_ := Aside0.mk (hbox); have n2_ := Aside0.mk ((by rw [hg]; exact (below_size (wz_ HB.out)) : w.heap.size ≤ gb151)); have n3_ := Aside0.mk ((by rw [hg]; exact (below_size (wz_ HB.out)) : w.heap.size ≤ gb151)); clear HB; have HB := n0_; have BK151 := n1_; have GW151 := n2_; have GE151 := n3_; clear n0_ n1_ n2_ n3_; clear hb hbox hg) | ((with_reducible refine gate_dst (N := 3) rfl ?_); refine box_event ?hg (N := 3) ?hd (cs := #[.int .i64 a1_0, .int .i64 a1_1]) (t := 44) ?hr ?_; (case hd => rfl); (case hg => rfl); (case hr => first | (go_simp; done) | (go_simp; rfl)); intro gb152 hg w4 hbox hb; have n0_ := Aside0.mk (blk_below (bz_ BK151.out) hb); have n1_ := Aside0.mk (below_step (by repeat (first | (with_reducible first | exact HB.out | apply below_alloc | apply pw_below_drewN | apply below_drew1 | refine below_set ?_ GE151.out) | exact HB.out)) hb); have n2_ := Aside0.mk (hbox); have n3_ := Aside0.mk ((by rw [hg]; exact (below_size (by repeat (first | (with_reducible first | exact HB.out | apply below_alloc | apply pw_below_drewN | apply below_drew1 | refine below_set ?_ GE151.out) | exact HB.out))) : w.heap.size ≤ gb152)); have n4_ := Aside0.mk ((by rw [hg]; exact (below_size (by repeat (first | (with_reducible first | exact HB.out | apply below_alloc | apply pw_below_drewN | apply below_drew1 | refine below_set ?_ GE151.out) | exact HB.out))) : w.heap.size ≤ gb152)); have n5_ := Aside0.mk ((by rw [hg]; exact Nat.ne_of_lt (blk_lt (g := gb151) (o := .cells #[.slice A0_0 l0_0.length c0_0, .slice A0_1 l0_1.length c0_1] 32 (0, 0)) (bz_ BK151.out)) : gb151 ≠ gb152)); have n6_ := Aside0.mk ((by rw [hg]; exact Nat.ne_of_gt (blk_lt (g := gb151) (o := .cells #[.slice A0_0 l0_0.length c0_0, .slice A0_1 l0_1.length c0_1] 32 (0, 0)) (bz_ BK151.out)) : gb152 ≠ gb151)); clear BK151; clear HB; have BK151 := n0_; have HB := n1_; have BK152 := n2_; have GW152 := n3_; have GE152 := n4_; have NB151_152 := n5_; have NB152_151 := n6_; clear n0_ n1_ n2_ n3_ n4_ n5_ n6_; clear hb hbox hg) | ((with_reducible refine gate_dst (N := 4) rfl ?_); refine box_event ?hg (N := 4) ?hd (cs := #[.slice none 0 0, .slice none 0 0]) (t := 32) ?hr ?_; (case hd => rfl); (case hg => rfl); (case hr => first | (go_simp; done) | (go_simp; rfl)); intro gb153 hg w5 hbox hb; have n0_ := Aside0.mk (blk_below (bz_ BK151.out) hb); have n1_ := Aside0.mk (blk_below (bz_ BK152.out) hb); have n2_ := Aside0.mk (below_step (by repeat (first | (with_reducible first | exact HB.out | apply below_alloc | apply pw_below_drewN | apply below_drew1 | refine below_set ?_ GE151.out | refine below_set ?_ GE152.out) | exact HB.out)) hb); have n3_ := Aside0.mk (hbox); have n4_ := Aside0.mk ((by rw [hg]; exact (below_size (by repeat (first | (with_reducible first | exact HB.out | apply below_alloc | apply pw_below_drewN | apply below_drew1 | refine below_set ?_ GE151.out | refine below_set ?_ GE152.out) | exact HB.out))) : w.heap.size ≤ gb153)); have n5_ := Aside0.mk ((by rw [hg]; exact (below_size (by repeat (first | (with_reducible first | exact HB.out | apply below_alloc | apply pw_below_drewN | apply below_drew1 | refine below_set ?_ GE151.out | refine below_set ?_ GE152.out) | exact HB.out))) : w.heap.size ≤ gb153)); have n6_ := Aside0.mk ((by rw [hg]; exact Nat.ne_of_lt (blk_lt (g := gb151) (o := .cells #[.slice A0_0 l0_0.length c0_0, .slice A0_1 l0_1.length c0_1] 32 (0, 0)) (bz_ BK151.out)) : gb151 ≠ gb153)); have n7_ := Aside0.mk ((by rw [hg]; exact Nat.ne_of_gt (blk_lt (g := gb151) (o := .cells #[.slice A0_0 l0_0.length c0_0, .slice A0_1 l0_1.length c0_1] 32 (0, 0)) (bz_ BK151.out)) : gb153 ≠ gb151)); have n8_ := Aside0.mk ((by rw [hg]; exact Nat.ne_of_lt (blk_lt (g := gb152) (o := .cells #[.int .i64 a1_0, .int .i64 a1_1] 44 (0, 0)) (bz_ BK152.out)) : gb152 ≠ gb153)); have n9_ := Aside0.mk ((by rw [hg]; exact Nat.ne_of_gt (blk_lt (g := gb152) (o := .cells #[.int .i64 a1_0, .int .i64 a1_1] 44 (0, 0)) (bz_ BK152.out)) : gb153 ≠ gb152)); clear BK151; clear BK152; clear HB; have BK151 := n0_; have BK152 := n1_; have HB := n2_; have BK153 := n3_; have GW153 := n4_; have GE153 := n5_; have NB151_153 := n6_; have NB153_151 := n7_; have NB152_153 := n8_; have NB153_152 := n9_; clear n0_ n1_ n2_ n3_ n4_ n5_ n6_ n7_ n8_ n9_; clear hb hbox hg))
 go_loopg [5] k (fun kq v5 w' => ∃ (x5_1 : Int), v5 = .int .i64 x5_1 ∧ Aside0 (spec_l2Put.l0 kq x5_1 l0_0 l0_1 a1_0 a1_1 = some (r1, r2)) ∧ Aside0 (kq ≤ k) ∧ Aside0 (w'.heap[gb151]? = some (.cells #[(.slice A0_0 l0_0.length c0_0), (.slice A0_1 l0_1.length c0_1)] 32 (0, 0))) ∧ Aside0 (w'.heap[gb152]? = some (.cells #[.int .i64 a1_0, .int .i64 a1_1] 44 (0, 0))) ∧ Aside0 (w'.heap[gb153]? = some (.cells #[(.slice none 0 0), (.slice none 0 0)] 32 (0, 0))) ∧ Aside0 (Below w.heap.size w w'))
 case atStart => exact ⟨(0), (by first | rfl | (simp; done) | (simp [*]; done)), H', ⟨Nat.le_refl _⟩, ⟨bz_ BK151.out⟩, ⟨bz_ BK152.out⟩, ⟨bz_ BK153.out⟩, ⟨by repeat (first | (with_reducible first | exact HB.out | apply below_alloc | apply pw_below_drewN | apply below_drew1 | refine below_set ?_ GE151.out | refine below_set ?_ GE152.out | refine below_set ?_ GE153.out) | exact HB.out)⟩⟩
 case round =>
  clear H'
  try clear p2
  try clear c4
  obtain ⟨x5_1, rfl, HA, HK1, BK151, BK152, BK153, HB⟩ := hrel
  cases gk with
  | zero => exact absurd HA.out (by simp [spec_l2Put.l0])
  | succ k1 =>
   have H := HA.out
   clear HA
   simp only [spec_l2Put.l0] at H
   by_cases c6 : x5_1 < (l0_0.length : Int)
   ·rw [if_pos c6] at H
    have c6b0 : decide (x5_1 < (l0_0.length : Int)) = true := decide_eq_true c6
    clear c6
    by_cases c7 : 0 ≤ x5_1
    ·rw [if_pos c7] at H
     have c7b0 : decide (0 ≤ x5_1) = true := decide_eq_true c7
     clear c7
     by_cases c8 : ((rd_T44 l0_0 x5_1).f0) < a1_0
     ·rw [if_pos c8] at H
      have c8b0 : decide (((rd_T44 l0_0 x5_1).f0) < a1_0) = true := decide_eq_true c8
      clear c8
      have H' := Aside0.mk H
      clear H
      try go_wp2
      have n0_ := Aside0.mk (blk_drew BK151.out)
      have n1_ := Aside0.mk (blk_drew BK152.out)
      have n2_ := Aside0.mk (blk_drew BK153.out)
      have n3_ := Aside0.mk (below_drew1 HB.out)
      clear BK151
      clear BK152
      clear BK153
      clear HB
      have BK151 := n0_
      have BK152 := n1_
      have BK153 := n2_
      have HB := n3_
      clear n0_ n1_ n2_ n3_
      have p154 : 0 ≤ (x5_1 : Int) := of_decide_eq_true (by first | (with_reducible assumption) | assumption)
      have q154 : x5_1 < (l0_0.length : Int) := of_decide_eq_true (by first | (with_reducible assumption) | assumption)
      obtain ⟨ad154, e154, hx154_0, hx154_1⟩ := at_T44 HR0_0.out x5_1 p154 q154
      have hw154_1 := hx154_1
      have hw154_0 := hx154_0
      cases e154
      replace hx154_0 := (HB.out.cell (World.block_lt_of_cell? w _ hx154_0)).trans hx154_0
      replace hx154_1 := (HB.out.cell (World.block_lt_of_cell? w _ hx154_1)).trans hx154_1
      replace p154 := eq_true p154
      replace q154 := eq_true q154
      refine start_ (n := 16) (S := fun w' => w'.cell? ⟨gb151, 0, none⟩ = some (.slice (some ad154) l0_0.length c0_0) ∧ w'.cell? ⟨gb151, 1, none⟩ = some (.slice A0_1 l0_1.length c0_1) ∧ w'.cell? ⟨gb152, 0, none⟩ = some (.int .i64 a1_0) ∧ w'.cell? ⟨gb152, 1, none⟩ = some (.int .i64 a1_1) ∧ w'.cell? (ad154.add ((x5_1).toNat * 2)) = some (.int .i64 ((rd_T44 l0_0 x5_1).f0)) ∧ w'.cell? ⟨(ad154.add ((x5_1).toNat * 2)).block, (ad154.add ((x5_1).toNat * 2)).off + 1, none⟩ = some (.int .i64 ((rd_T44 l0_0 x5_1).f1))) (ds := []) #[false, false, false, false, false, false, false, false, false, false, false, false, false, false, false, false] (by kernel_rfl) rfl rfl ⟨(blk_cell BK151.out 0).trans rfl, (blk_cell BK151.out 1).trans rfl, (blk_cell BK152.out 0).trans rfl, (blk_cell BK152.out 1).trans rfl, ((HB.out.cell (World.block_lt_of_cell? w _ hw154_0)).trans hw154_0), ((HB.out.cell (World.block_lt_of_cell? w _ hw154_1)).trans hw154_1)⟩ (fun hHeld => ?_); refine with_tabW spec_l2Put.tab2 spec_l2Put.bits2 (fun HT_ HW_ => ?_)
      generalize wr.drew = w9 at BK151 BK152 BK153 HB hx154_0 hx154_1 hHeld ⊢
      refine pA_ 0 (some 7) (bl 1 16) HT_.out (h := ?_)
      refine pA_ 1 (some 8) (bl 2 16) HT_.out (h := ?_)
      refine tA_ 2 (some 9) (bl 3 16) HT_.out HW_.out hHeld (h := ?_)
      refine pA_ 3 (some 10) (bl 4 16) HT_.out (h := ?_)
      refine pA_ 4 (some 11) (bl 5 16) HT_.out (h := ?_)
      refine pA_ 5 (some 12) (bl 6 16) HT_.out (h := ?_)
      refine pA_ 6 (some 13) (bl 7 16) HT_.out (h := ?_)
      refine pA_ 8 (some 15) #[true, true, true, true, true, true, true, false, true, false, false, false, false, false, false, false] HT_.out (h := ?_)
      refine pA_ 12 (some 19) #[true, true, true, true, true, true, true, false, true, false, false, false, true, false, false, false] HT_.out (h := ?_)
      refine tA_ 7 (some 14) #[true, true, true, true, true, true, true, true, true, false, false, false, true, false, false, false] HT_.out HW_.out hHeld (h := ?_)
      refine pA_ 9 (some 16) #[true, true, true, true, true, true, true, true, true, true, false, false, true, false, false, false] HT_.out (h := ?_)
      refine pA_ 10 (some 17) #[true, true, true, true, true, true, true, true, true, true, true, false, true, false, false, false] HT_.out (h := ?_)
      refine tA_ 11 (some 18) (bl 13 16) HT_.out HW_.out hHeld (h := ?_)
      refine tA_ 13 (some 20) (bl 14 16) HT_.out HW_.out hHeld (h := ?_)
      refine pA_ 14 (some 21) (bl 15 16) HT_.out (h := ?_)
      refine pA_ 15 (some 22) (bl 16 16) HT_.out (h := ?_)
      refine done_ (done_of HT_.out (by kernel_rfl)) ?_
      try go_wp2
      go_roundg k1
      case measure => have := HK1.out; omega
      case rel => exact ⟨(wrap64 (x5_1 + 1)), (by first | rfl | (simp; done) | (simp [*]; done)), H', ⟨by have := HK1.out; omega⟩, ⟨bz_ BK151.out⟩, ⟨bz_ BK152.out⟩, ⟨bz_ BK153.out⟩, ⟨by repeat (first | (with_reducible first | exact HB.out | apply below_alloc | apply pw_below_drewN | apply below_drew1 | refine below_set ?_ GE151.out | refine below_set ?_ GE152.out | refine below_set ?_ GE153.out) | exact HB.out)⟩⟩
     ·rw [if_neg c8] at H
      have c8b0 : decide (((rd_T44 l0_0 x5_1).f0) < a1_0) = false := decide_eq_false c8
      clear c8
      replace H := Option.bind_eq_some_iff.mp H
      obtain ⟨⟨t155, t158⟩, A100, H⟩ := H
      replace H : ((some (([] : List (S44)) : List (S44))).bind fun y162 => (if x5_1 ≤ (l0_0.length : Int) then ((some (l0_0.take (x5_1 : Int).toNat : List (S44))).bind fun y165 => (if y162.length + y165.length < 8796093022208 then ((some (y162 ++ y165 : List (S44))).bind fun y169 => ((some (([(⟨a1_0, a1_1⟩ : S44)] : List (S44)) : List (S44))).bind fun y172 => (if y169.length + y172.length < 8796093022208 then ((some (y169 ++ y172 : List (S44))).bind fun y175 => ((some (l0_0.drop (x5_1 : Int).toNat : List (S44))).bind fun y178 => (if y175.length + y178.length < 8796093022208 then (some ((y175 ++ y178), t158)) else (none)))) else (none)))) else (none))) else (none))) = some (r1, r2) := H
      have A10 := Aside0.mk A100
      clear A100
      obtain ⟨y162, hy162⟩ : ∃ y_ : List (S44), y_ = (([] : List (S44))) := ⟨_, rfl⟩
      replace H : (if x5_1 ≤ (l0_0.length : Int) then ((some (l0_0.take (x5_1 : Int).toNat : List (S44))).bind fun y165 => (if y162.length + y165.length < 8796093022208 then ((some (y162 ++ y165 : List (S44))).bind fun y169 => ((some (([(⟨a1_0, a1_1⟩ : S44)] : List (S44)) : List (S44))).bind fun y172 => (if y169.length + y172.length < 8796093022208 then ((some (y169 ++ y172 : List (S44))).bind fun y175 => ((some (l0_0.drop (x5_1 : Int).toNat : List (S44))).bind fun y178 => (if y175.length + y178.length < 8796093022208 then (some ((y175 ++ y178), t158)) else (none)))) else (none)))) else (none))) else (none)) = some (r1, r2) := by first | (rw [hy162]; with_reducible exact H) | (have H2_ := (Option.bind_some _ _).symm.trans H; rw [hy162]; with_reducible exact H2_) | (have H2_ := (Option.bind_some _ _).symm.trans H; with_reducible exact H2_) | with_reducible exact H | (rw [hy162]; exact H) | exact H
      have Ny162 := Aside0.mk hy162
      clear hy162
      have c11b0 := eq_true (of_decide_eq_true (by first | (with_reducible assumption) | assumption) : 0 ≤ x5_1)
      by_cases c12 : x5_1 ≤ (l0_0.length : Int)
      ·rw [if_pos c12] at H
       have c12b0 := eq_true c12
       have c12b1 : decide (x5_1 ≤ (l0_0.length : Int)) = true := decide_eq_true c12
       clear c12
       obtain ⟨y165, hy165⟩ : ∃ y_ : List (S44), y_ = (l0_0.take (x5_1 : Int).toNat) := ⟨_, rfl⟩
       replace H : (if y162.length + y165.length < 8796093022208 then ((some (y162 ++ y165 : List (S44))).bind fun y169 => ((some (([(⟨a1_0, a1_1⟩ : S44)] : List (S44)) : List (S44))).bind fun y172 => (if y169.length + y172.length < 8796093022208 then ((some (y169 ++ y172 : List (S44))).bind fun y175 => ((some (l0_0.drop (x5_1 : Int).toNat : List (S44))).bind fun y178 => (if y175.length + y178.length < 8796093022208 then (some ((y175 ++ y178), t158)) else (none)))) else (none)))) else (none)) = some (r1, r2) := by first | (rw [hy165]; with_reducible exact H) | (have H2_ := (Option.bind_some _ _).symm.trans H; rw [hy165]; with_reducible exact H2_) | (have H2_ := (Option.bind_some _ _).symm.trans H; with_reducible exact H2_) | with_reducible exact H | (rw [hy165]; exact H) | exact H
       have Ny165 := Aside0.mk hy165
       clear hy165
       by_cases c13 : y162.length + y165.length < 8796093022208
       ·rw [if_pos c13] at H
        have LMc13 := Aside0.mk c13
        clear c13
        obtain ⟨y169, hy169⟩ : ∃ y_ : List (S44), y_ = (y162 ++ y165) := ⟨_, rfl⟩
        replace H : ((some (([(⟨a1_0, a1_1⟩ : S44)] : List (S44)) : List (S44))).bind fun y172 => (if y169.length + y172.length < 8796093022208 then ((some (y169 ++ y172 : List (S44))).bind fun y175 => ((some (l0_0.drop (x5_1 : Int).toNat : List (S44))).bind fun y178 => (if y175.length + y178.length < 8796093022208 then (some ((y175 ++ y178), t158)) else (none)))) else (none))) = some (r1, r2) := by first | (rw [hy169]; with_reducible exact H) | (have H2_ := (Option.bind_some _ _).symm.trans H; rw [hy169]; with_reducible exact H2_) | (have H2_ := (Option.bind_some _ _).symm.trans H; with_reducible exact H2_) | with_reducible exact H | (rw [hy169]; exact H) | exact H
        have Ny169 := Aside0.mk hy169
        clear hy169
        obtain ⟨y172, hy172⟩ : ∃ y_ : List (S44), y_ = (([(⟨a1_0, a1_1⟩ : S44)] : List (S44))) := ⟨_, rfl⟩
        replace H : (if y169.length + y172.length < 8796093022208 then ((some (y169 ++ y172 : List (S44))).bind fun y175 => ((some (l0_0.drop (x5_1 : Int).toNat : List (S44))).bind fun y178 => (if y175.length + y178.length < 8796093022208 then (some ((y175 ++ y178), t158)) else (none)))) else (none)) = some (r1, r2) := by first | (rw [hy172]; with_reducible exact H) | (have H2_ := (Option.bind_some _ _).symm.trans H; rw [hy172]; with_reducible exact H2_) | (have H2_ := (Option.bind_some _ _).symm.trans H; with_reducible exact H2_) | with_reducible exact H | (rw [hy172]; exact H) | exact H
        have Ny172 := Aside0.mk hy172
        clear hy172
        by_cases c14 : y169.length + y172.length < 8796093022208
        ·rw [if_pos c14] at H
         have LMc14 := Aside0.mk c14
         clear c14
         obtain ⟨y175, hy175⟩ : ∃ y_ : List (S44), y_ = (y169 ++ y172) := ⟨_, rfl⟩
         replace H : ((some (l0_0.drop (x5_1 : Int).toNat : List (S44))).bind fun y178 => (if y175.length + y178.length < 8796093022208 then (some ((y175 ++ y178), t158)) else (none))) = some (r1, r2) := by first | (rw [hy175]; with_reducible exact H) | (have H2_ := (Option.bind_some _ _).symm.trans H; rw [hy175]; with_reducible exact H2_) | (have H2_ := (Option.bind_some _ _).symm.trans H; with_reducible exact H2_) | with_reducible exact H | (rw [hy175]; exact H) | exact H
         have Ny175 := Aside0.mk hy175
         clear hy175
         have c15b0 := eq_true (of_decide_eq_true (by first | (with_reducible assumption) | assumption) : 0 ≤ x5_1)
         have c16b0 := eq_true (of_decide_eq_true (by first | (with_reducible assumption) | assumption) : x5_1 ≤ (l0_0.length : Int))
         obtain ⟨y178, hy178⟩ : ∃ y_ : List (S44), y_ = (l0_0.drop (x5_1 : Int).toNat) := ⟨_, rfl⟩
         replace H : (if y175.length + y178.length < 8796093022208 then (some ((y175 ++ y178), t158)) else (none)) = some (r1, r2) := by first | (rw [hy178]; with_reducible exact H) | (have H2_ := (Option.bind_some _ _).symm.trans H; rw [hy178]; with_reducible exact H2_) | (have H2_ := (Option.bind_some _ _).symm.trans H; with_reducible exact H2_) | with_reducible exact H | (rw [hy178]; exact H) | exact H
         have Ny178 := Aside0.mk hy178
         clear hy178
         by_cases c17 : y175.length + y178.length < 8796093022208
         ·rw [if_pos c17] at H
          have LMc17 := Aside0.mk c17
          clear c17
          obtain ⟨y182, hy182⟩ : ∃ y_ : List (S44), y_ = (y175 ++ y178) := ⟨_, rfl⟩
          replace H : (some (y182, t158)) = some (r1, r2) := by first | (rw [hy182]; with_reducible exact H) | (have H2_ := (Option.bind_some _ _).symm.trans H; rw [hy182]; with_reducible exact H2_) | (have H2_ := (Option.bind_some _ _).symm.trans H; with_reducible exact H2_) | with_reducible exact H | (rw [hy182]; exact H) | exact H
          have Ny182 := Aside0.mk hy182
          clear hy182
          simp only [Option.some.injEq, Prod.mk.injEq] at H
          obtain ⟨rfl, rfl⟩ := H
          try go_wp2
          have n0_ := Aside0.mk (blk_drew BK151.out)
          have n1_ := Aside0.mk (blk_drew BK152.out)
          have n2_ := Aside0.mk (blk_drew BK153.out)
          have n3_ := Aside0.mk (below_drew1 HB.out)
          clear BK151
          clear BK152
          clear BK153
          clear HB
          have BK151 := n0_
          have BK152 := n1_
          have BK153 := n2_
          have HB := n3_
          clear n0_ n1_ n2_ n3_
          have p154 : 0 ≤ (x5_1 : Int) := of_decide_eq_true (by first | (with_reducible assumption) | assumption)
          have q154 : x5_1 < (l0_0.length : Int) := of_decide_eq_true (by first | (with_reducible assumption) | assumption)
          obtain ⟨ad154, e154, hx154_0, hx154_1⟩ := at_T44 HR0_0.out x5_1 p154 q154
          have hw154_1 := hx154_1
          have hw154_0 := hx154_0
          cases e154
          replace hx154_0 := (HB.out.cell (World.block_lt_of_cell? w _ hx154_0)).trans hx154_0
          replace hx154_1 := (HB.out.cell (World.block_lt_of_cell? w _ hx154_1)).trans hx154_1
          replace p154 := eq_true p154
          replace q154 := eq_true q154
          refine start_ (n := 16) (S := fun w' => w'.cell? ⟨gb151, 0, none⟩ = some (.slice (some ad154) l0_0.length c0_0) ∧ w'.cell? ⟨gb151, 1, none⟩ = some (.slice A0_1 l0_1.length c0_1) ∧ w'.cell? ⟨gb152, 0, none⟩ = some (.int .i64 a1_0) ∧ w'.cell? ⟨gb152, 1, none⟩ = some (.int .i64 a1_1) ∧ w'.cell? (ad154.add ((x5_1).toNat * 2)) = some (.int .i64 ((rd_T44 l0_0 x5_1).f0)) ∧ w'.cell? ⟨(ad154.add ((x5_1).toNat * 2)).block, (ad154.add ((x5_1).toNat * 2)).off + 1, none⟩ = some (.int .i64 ((rd_T44 l0_0 x5_1).f1))) (ds := []) #[false, false, false, false, false, false, false, false, false, false, false, false, false, false, false, false] (by kernel_rfl) rfl rfl ⟨(blk_cell BK151.out 0).trans rfl, (blk_cell BK151.out 1).trans rfl, (blk_cell BK152.out 0).trans rfl, (blk_cell BK152.out 1).trans rfl, ((HB.out.cell (World.block_lt_of_cell? w _ hw154_0)).trans hw154_0), ((HB.out.cell (World.block_lt_of_cell? w _ hw154_1)).trans hw154_1)⟩ (fun hHeld => ?_); refine with_tabW spec_l2Put.tab2 spec_l2Put.bits2 (fun HT_ HW_ => ?_)
          generalize wr.drew = w18 at BK151 BK152 BK153 HB hx154_0 hx154_1 hHeld ⊢
          refine pA_ 0 (some 7) (bl 1 16) HT_.out (h := ?_)
          refine pA_ 1 (some 8) (bl 2 16) HT_.out (h := ?_)
          refine tA_ 2 (some 9) (bl 3 16) HT_.out HW_.out hHeld (h := ?_)
          refine pA_ 3 (some 10) (bl 4 16) HT_.out (h := ?_)
          refine pA_ 4 (some 11) (bl 5 16) HT_.out (h := ?_)
          refine pA_ 5 (some 12) (bl 6 16) HT_.out (h := ?_)
          refine pA_ 6 (some 13) (bl 7 16) HT_.out (h := ?_)
          refine pA_ 8 (some 15) #[true, true, true, true, true, true, true, false, true, false, false, false, false, false, false, false] HT_.out (h := ?_)
          refine pA_ 12 (some 19) #[true, true, true, true, true, true, true, false, true, false, false, false, true, false, false, false] HT_.out (h := ?_)
          refine tA_ 7 (some 14) #[true, true, true, true, true, true, true, true, true, false, false, false, true, false, false, false] HT_.out HW_.out hHeld (h := ?_)
          refine pA_ 9 (some 16) #[true, true, true, true, true, true, true, true, true, true, false, false, true, false, false, false] HT_.out (h := ?_)
          refine pA_ 10 (some 17) #[true, true, true, true, true, true, true, true, true, true, true, false, true, false, false, false] HT_.out (h := ?_)
          refine tA_ 11 (some 18) (bl 13 16) HT_.out HW_.out hHeld (h := ?_)
          refine tA_ 13 (some 20) (bl 14 16) HT_.out HW_.out hHeld (h := ?_)
          refine pA_ 14 (some 21) (bl 15 16) HT_.out (h := ?_)
          refine pA_ 15 (some 22) (bl 16 16) HT_.out (h := ?_)
          refine done_ (done_of HT_.out (by kernel_rfl)) ?_
          have hnb19 := NB151_152.out
          have hnc19 := NB152_151.out
          have hnb20 := NB151_153.out
          have hnc20 := NB153_151.out
          have hcz21_0 : w18.cell? ⟨gb151, 0, none⟩ = some (.slice (some ad154) l0_0.length c0_0) := (blk_cell BK151.out 0).trans rfl
          have hcz21_1 : w18.cell? ⟨gb151, 1, none⟩ = some (.slice A0_1 l0_1.length c0_1) := (blk_cell BK151.out 1).trans rfl
          have hfz21_0 := blk_frozen BK151.out 0
          have hfz21_1 := blk_frozen BK151.out 1
          try go_wp2_with (first | ((with_reducible refine gate_callee (f := 72) rfl ?_); refine goesL_ (some 26) rfl rfl Try.func72 (by kernel_rfl) rfl #[.agg #[.slice (some ad154) l0_0.length c0_0, .slice A0_1 l0_1.length c0_1]] rfl (by (try simp only [List.map_toArray, List.map_cons, List.map_nil]); first | done | rfl | (simp only [List.length_drop, List.length_take]; rfl)) ?_; (with_reducible refine (spec_l2Own.calls _ _ l0_0 _ _ l0_1 t155 t158 _ ?side1 ?side2 ?side3 ?side4 A10.out).mono ?_); (case side1 => exact cz_ (Kd.C_below HR0_0.out HB.out)); (case side2 => exact HC0_0.out); (case side3 => exact cz_ (Kd.C_below HR0_1.out HB.out)); (case side4 => exact HC0_1.out); rintro e w22 ⟨v156, v159, rfl, ho0, ho1, hb⟩; refine ⟨_, rfl, ?_⟩; have n0_ := Aside0.mk (Kd.R_lower (Kd.R_newB ho0 (g := gb152) (o := .cells #[.int .i64 a1_0, .int .i64 a1_1] 44 (0, 0)) (bz_ BK152.out)) (below_size (by repeat (first | (with_reducible first | exact HB.out | apply below_alloc | apply pw_below_drewN | apply below_drew1 | refine below_set ?_ GE151.out | refine below_set ?_ GE152.out | refine below_set ?_ GE153.out) | exact HB.out)))); have n1_ := Aside0.mk (Kd.R_lower ho1 (below_size (by repeat (first | (with_reducible first | exact HB.out | apply below_alloc | apply pw_below_drewN | apply below_drew1 | refine below_set ?_ GE151.out | refine below_set ?_ GE152.out | refine below_set ?_ GE153.out) | exact HB.out)))); have n2_ := Aside0.mk (blk_below (bz_ BK151.out) hb); have n3_ := Aside0.mk (blk_below (bz_ BK152.out) hb); have n4_ := Aside0.mk (blk_below (bz_ BK153.out) hb); have n5_ := Aside0.mk (below_step (by repeat (first | (with_reducible first | exact HB.out | apply below_alloc | apply pw_below_drewN | apply below_drew1 | refine below_set ?_ GE151.out | refine below_set ?_ GE152.out | refine below_set ?_ GE153.out) | exact HB.out)) hb); clear BK151; clear BK152; clear BK153; clear HB; have HO157 := n0_; have HO160 := n1_; have BK151 := n2_; have BK152 := n3_; have BK153 := n4_; have HB := n5_; clear n0_ n1_ n2_ n3_ n4_ n5_; (try clear hb); (try clear hb2); (try clear hk); (try clear hi); (try clear ho0); (try clear ho1)) | ((with_reducible refine gate_dst (N := 6) rfl ?_); refine box_event ?hg (N := 6) ?hd (cs := #[.slice none 0 0, .slice none 0 0]) (t := 32) ?hr ?_; (case hd => rfl); (case hg => rfl); (case hr => first | (go_simp; done) | (go_simp; rfl)); intro gb161 hg w23 hbox hb; have n0_ := Aside0.mk (Kd.R_below (rz_ HO157.out) hb); have n1_ := Aside0.mk (Kd.R_below (rz_ HO160.out) hb); have n2_ := Aside0.mk (blk_below (bz_ BK151.out) hb); have n3_ := Aside0.mk (blk_below (bz_ BK152.out) hb); have n4_ := Aside0.mk (blk_below (bz_ BK153.out) hb); have n5_ := Aside0.mk (below_step (by repeat (first | (with_reducible first | exact HB.out | apply below_alloc | apply pw_below_drewN | apply below_drew1 | refine below_set ?_ GE151.out | refine below_set ?_ GE152.out | refine below_set ?_ GE153.out) | exact HB.out)) hb); have n6_ := Aside0.mk (hbox); have n7_ := Aside0.mk ((by rw [hg]; exact (below_size (by repeat (first | (with_reducible first | exact HB.out | apply below_alloc | apply pw_below_drewN | apply below_drew1 | refine below_set ?_ GE151.out | refine below_set ?_ GE152.out | refine below_set ?_ GE153.out) | exact HB.out))) : w.heap.size ≤ gb161)); have n8_ := Aside0.mk ((by rw [hg]; exact (below_size (by repeat (first | (with_reducible first | exact HB.out | apply below_alloc | apply pw_below_drewN | apply below_drew1 | refine below_set ?_ GE151.out | refine below_set ?_ GE152.out | refine below_set ?_ GE153.out) | exact HB.out))) : w.heap.size ≤ gb161)); have n9_ := Aside0.mk ((by rw [hg]; exact Nat.ne_of_lt (blk_lt (g := gb151) (o := .cells #[.slice (some ad154) l0_0.length c0_0, .slice A0_1 l0_1.length c0_1] 32 (0, 0)) (bz_ BK151.out)) : gb151 ≠ gb161)); have n10_ := Aside0.mk ((by rw [hg]; exact Nat.ne_of_gt (blk_lt (g := gb151) (o := .cells #[.slice (some ad154) l0_0.length c0_0, .slice A0_1 l0_1.length c0_1] 32 (0, 0)) (bz_ BK151.out)) : gb161 ≠ gb151)); have n11_ := Aside0.mk ((by rw [hg]; exact Nat.ne_of_lt (blk_lt (g := gb152) (o := .cells #[.int .i64 a1_0, .int .i64 a1_1] 44 (0, 0)) (bz_ BK152.out)) : gb152 ≠ gb161)); have n12_ := Aside0.mk ((by rw [hg]; exact Nat.ne_of_gt (blk_lt (g := gb152) (o := .cells #[.int .i64 a1_0, .int .i64 a1_1] 44 (0, 0)) (bz_ BK152.out)) : gb161 ≠ gb152)); have n13_ := Aside0.mk ((by rw [hg]; exact Nat.ne_of_lt (blk_lt (g := gb153) (o := .cells #[.slice none 0 0, .slice none 0 0] 32 (0, 0)) (bz_ BK153.out)) : gb153 ≠ gb161)); have n14_ := Aside0.mk ((by rw [hg]; exact Nat.ne_of_gt (blk_lt (g := gb153) (o := .cells #[.slice none 0 0, .slice none 0 0] 32 (0, 0)) (bz_ BK153.out)) : gb161 ≠ gb153)); clear HO157; clear HO160; clear BK151; clear BK152; clear BK153; clear HB; have HO157 := n0_; have HO160 := n1_; have BK151 := n2_; have BK152 := n3_; have BK153 := n4_; have HB := n5_; have BK161 := n6_; have GW161 := n7_; have GE161 := n8_; have NB151_161 := n9_; have NB161_151 := n10_; have NB152_161 := n11_; have NB161_152 := n12_; have NB153_161 := n13_; have NB161_153 := n14_; clear n0_ n1_ n2_ n3_ n4_ n5_ n6_ n7_ n8_ n9_ n10_ n11_ n12_ n13_ n14_; clear hb hbox hg; obtain ⟨Ao24, co24, eo24⟩ := Kd.R_slice HO157.out; subst eo24; have hnb25 := NB161_151.out; have hnc25 := NB151_161.out; have hnb26 := NB161_152.out; have hnc26 := NB152_161.out; have hnb27 := NB161_153.out; have hnc27 := NB153_161.out; have hcz28_0 : w23.cell? ⟨gb161, 0, none⟩ = some (.slice none 0 0) := (blk_cell BK161.out 0).trans rfl; have hcz28_1 : w23.cell? ⟨gb161, 1, none⟩ = some (.slice none 0 0) := (blk_cell BK161.out 1).trans rfl; have hfz28_0 := blk_frozen BK161.out 0; have hfz28_1 := blk_frozen BK161.out 1; obtain ⟨Ao29, co29, eo29⟩ := Kd.R_slice HO160.out; subst eo29))
          have n0_ : Aside0 (Kd.R k44 44 ((w23.setCell ⟨gb161, 0, none⟩ (.slice Ao24 t155.length co24)).setCell ⟨gb161, 1, none⟩ (.slice Ao29 t158.length co29)) w.heap.size (fun k_ => k_ ≠ gb152) (.slice Ao24 t155.length co24) t155) := ⟨rz_ (Kd.R_mono (Kd.R_far (p := ⟨gb161, 1, none⟩) (Kd.R_far (p := ⟨gb161, 0, none⟩) (Kd.R_types HO157.out BK161.out (by decide)) (fun _ hk => hk.2) (.slice Ao24 t155.length co24)) (fun _ hk => hk.2) (.slice Ao29 t158.length co29)) (fun _ hk => hk.1.2))⟩
          have n1_ : Aside0 (Kd.R k36 36 ((w23.setCell ⟨gb161, 0, none⟩ (.slice Ao24 t155.length co24)).setCell ⟨gb161, 1, none⟩ (.slice Ao29 t158.length co29)) w.heap.size (fun _ => True) (.slice Ao29 t158.length co29) t158) := ⟨rz_ (Kd.R_mono (Kd.R_far (p := ⟨gb161, 1, none⟩) (Kd.R_far (p := ⟨gb161, 0, none⟩) (Kd.R_types HO160.out BK161.out (by decide)) (fun _ hk => hk.2) (.slice Ao24 t155.length co24)) (fun _ hk => hk.2) (.slice Ao29 t158.length co29)) (fun _ hk => trivial))⟩
          have n2_ : Aside0 (((w23.setCell ⟨gb161, 0, none⟩ (.slice Ao24 t155.length co24)).setCell ⟨gb161, 1, none⟩ (.slice Ao29 t158.length co29)).heap[gb151]? = some (.cells #[.slice (some ad154) l0_0.length c0_0, .slice A0_1 l0_1.length c0_1] 32 (0, 0))) := ⟨by (with_reducible repeat (first | refine blk_drewN ?_ _ | refine blk_drew ?_ | refine blk_alloc ?_ _)); refine blk_far ?_ NB151_161.out _; (with_reducible repeat (first | refine blk_drewN ?_ _ | refine blk_drew ?_ | refine blk_alloc ?_ _)); refine blk_far ?_ NB151_161.out _; (with_reducible repeat (first | refine blk_drewN ?_ _ | refine blk_drew ?_ | refine blk_alloc ?_ _)); exact BK151.out⟩
          have n3_ : Aside0 (((w23.setCell ⟨gb161, 0, none⟩ (.slice Ao24 t155.length co24)).setCell ⟨gb161, 1, none⟩ (.slice Ao29 t158.length co29)).heap[gb152]? = some (.cells #[.int .i64 a1_0, .int .i64 a1_1] 44 (0, 0))) := ⟨by (with_reducible repeat (first | refine blk_drewN ?_ _ | refine blk_drew ?_ | refine blk_alloc ?_ _)); refine blk_far ?_ NB152_161.out _; (with_reducible repeat (first | refine blk_drewN ?_ _ | refine blk_drew ?_ | refine blk_alloc ?_ _)); refine blk_far ?_ NB152_161.out _; (with_reducible repeat (first | refine blk_drewN ?_ _ | refine blk_drew ?_ | refine blk_alloc ?_ _)); exact BK152.out⟩
          have n4_ : Aside0 (((w23.setCell ⟨gb161, 0, none⟩ (.slice Ao24 t155.length co24)).setCell ⟨gb161, 1, none⟩ (.slice Ao29 t158.length co29)).heap[gb153]? = some (.cells #[.slice none 0 0, .slice none 0 0] 32 (0, 0))) := ⟨by (with_reducible repeat (first | refine blk_drewN ?_ _ | refine blk_drew ?_ | refine blk_alloc ?_ _)); refine blk_far ?_ NB153_161.out _; (with_reducible repeat (first | refine blk_drewN ?_ _ | refine blk_drew ?_ | refine blk_alloc ?_ _)); refine blk_far ?_ NB153_161.out _; (with_reducible repeat (first | refine blk_drewN ?_ _ | refine blk_drew ?_ | refine blk_alloc ?_ _)); exact BK153.out⟩
          have n5_ : Aside0 (((w23.setCell ⟨gb161, 0, none⟩ (.slice Ao24 t155.length co24)).setCell ⟨gb161, 1, none⟩ (.slice Ao29 t158.length co29)).heap[gb161]? = some (.cells #[.slice Ao24 t155.length co24, .slice Ao29 t158.length co29] 32 (0, 0))) := ⟨by (with_reducible repeat (first | refine blk_drewN ?_ _ | refine blk_drew ?_ | refine blk_alloc ?_ _)); refine blk_put (cs := #[.slice Ao24 t155.length co24, .slice none 0 0]) ?_ 1 _ rfl; (with_reducible repeat (first | refine blk_drewN ?_ _ | refine blk_drew ?_ | refine blk_alloc ?_ _)); refine blk_put (cs := #[.slice none 0 0, .slice none 0 0]) ?_ 0 _ rfl; (with_reducible repeat (first | refine blk_drewN ?_ _ | refine blk_drew ?_ | refine blk_alloc ?_ _)); exact BK161.out⟩
          have n6_ : Aside0 (Below w.heap.size w ((w23.setCell ⟨gb161, 0, none⟩ (.slice Ao24 t155.length co24)).setCell ⟨gb161, 1, none⟩ (.slice Ao29 t158.length co29))) := ⟨by repeat (first | (with_reducible first | exact HB.out | apply below_alloc | apply pw_below_drewN | apply below_drew1 | refine below_set ?_ GE151.out | refine below_set ?_ GE152.out | refine below_set ?_ GE153.out | refine below_set ?_ GE161.out) | exact HB.out)⟩
          (try clear HO157)
          (try clear HO160)
          (try clear BK151)
          (try clear BK152)
          (try clear BK153)
          (try clear BK161)
          (try clear HB)
          generalize ((w23.setCell ⟨gb161, 0, none⟩ (.slice Ao24 t155.length co24)).setCell ⟨gb161, 1, none⟩ (.slice Ao29 t158.length co29)) = w30 at n0_ n1_ n2_ n3_ n4_ n5_ n6_ ⊢
          have HO157 := n0_
          have HO160 := n1_
          have BK151 := n2_
          have BK152 := n3_
          have BK153 := n4_
          have BK161 := n5_
          have HB := n6_
          clear n0_ n1_ n2_ n3_ n4_ n5_ n6_
          have n0_ := Aside0.mk (Kd.R_drew HO157.out)
          have n1_ := Aside0.mk (Kd.R_drew HO160.out)
          have n2_ := Aside0.mk (blk_drew BK151.out)
          have n3_ := Aside0.mk (blk_drew BK152.out)
          have n4_ := Aside0.mk (blk_drew BK153.out)
          have n5_ := Aside0.mk (blk_drew BK161.out)
          have n6_ := Aside0.mk (below_drew1 HB.out)
          clear HO157
          clear HO160
          clear BK151
          clear BK152
          clear BK153
          clear BK161
          clear HB
          have HO157 := n0_
          have HO160 := n1_
          have BK151 := n2_
          have BK152 := n3_
          have BK153 := n4_
          have BK161 := n5_
          have HB := n6_
          clear n0_ n1_ n2_ n3_ n4_ n5_ n6_
          have q32 : (x5_1 : Int) ≤ ((l0_0.length : Int) : Int) := of_decide_eq_true (by first | (with_reducible assumption) | assumption)
          obtain ⟨i032, hi032, _, hsz32, _⟩ := info_parts info44
          have hroom32 : l0_0.length ≤ c0_0 := HC0_0.out
          have hC32 : Kd.C k44 _ (some ad154) l0_0.length l0_0 := HR0_0.out
          have hcut32 := cut_to (P := Try.prog) 29 44 .i64 Try.underlying29 hi032 (some ad154) l0_0.length c0_0 x5_1 (of_decide_eq_true (by first | (with_reducible assumption) | assumption)) q32 hroom32
          have hr32 := Kd.C_take (m := (x5_1 : Int).toNat) hC32 (by omega)
          have hy32 : y165.length = (x5_1 : Int).toNat := (by rw [Ny165.out, List.length_take]; omega)
          rw [← Ny165.out] at hr32
          rw [← hy32] at hcut32
          have HR168 := Aside0.mk hr32
          have HC168 := Aside0.mk (show y165.length ≤ c0_0 from by omega)
          clear hr32 hC32 hroom32 hi032 hsz32
          have KY32 := Aside0.mk hy32
          clear hy32
          replace q32 := eq_true q32
          have q33 : (x5_1 : Int) ≤ ((l0_0.length : Int) : Int) := of_decide_eq_true (by first | (with_reducible assumption) | assumption)
          obtain ⟨i033, hi033, _, hsz33, _⟩ := info_parts info44
          have hroom33 : l0_0.length ≤ c0_0 := HC0_0.out
          have hC33 : Kd.C k44 _ (some ad154) l0_0.length l0_0 := HR0_0.out
          have q033 : (0 : Int) ≤ (x5_1 : Int) := of_decide_eq_true (by first | (with_reducible assumption) | assumption)
          have hcut33 := cut_from (P := Try.prog) 29 44 .i64 Try.underlying29 hi033 2 hsz33 (some ad154) l0_0.length c0_0 x5_1 q033 q33
          have hr33 := Kd.C_drop (m := (x5_1 : Int).toNat) (c := c0_0) hC33 (by omega) hroom33
          obtain ⟨A33, hA33⟩ : ∃ A1, A1 = (if c0_0 = (x5_1 : Int).toNat then (some ad154) else ((some ad154) : Option Addr).map (·.add ((x5_1 : Int).toNat * 2))) := ⟨_, rfl⟩
          obtain ⟨c33, hc33⟩ : ∃ c1, c1 = c0_0 - (x5_1 : Int).toNat := ⟨_, rfl⟩
          have hy33 : y178.length = l0_0.length - (x5_1 : Int).toNat := (by rw [Ny178.out, List.length_drop] <;> omega)
          rw [show (l0_0).drop (x5_1 : Int).toNat = y178 from Ny178.out.symm] at hr33
          replace hr33 : Kd.C k44 _ A33 y178.length y178 := (by rw [hA33]; exact hr33)
          rw [← hy33, ← hA33, ← hc33] at hcut33
          have HR181 := Aside0.mk hr33
          have HC181 := Aside0.mk (show y178.length ≤ c33 from by rw [hy33, hc33]; exact Nat.sub_le_sub_right hroom33 _)
          clear hr33 hC33 hroom33 hi033 hsz33 hc33
          have KY33 := Aside0.mk hy33
          have KA33 := Aside0.mk hA33
          clear hy33 hA33
          replace q33 := eq_true q33
          refine start_ (n := 16) (S := fun w' => w'.cell? ⟨gb151, 0, none⟩ = some (.slice (some ad154) l0_0.length c0_0) ∧ w'.cell? ⟨gb151, 1, none⟩ = some (.slice A0_1 l0_1.length c0_1) ∧ w'.cell? ⟨gb152, 0, none⟩ = some (.int .i64 a1_0) ∧ w'.cell? ⟨gb152, 1, none⟩ = some (.int .i64 a1_1)) (ds := []) #[false, false, false, false, false, false, false, false, false, false, false, false, false, false, false, false] (by kernel_rfl) rfl rfl ⟨(blk_cell BK151.out 0).trans rfl, (blk_cell BK151.out 1).trans rfl, (blk_cell BK152.out 0).trans rfl, (blk_cell BK152.out 1).trans rfl⟩ (fun hHeld => ?_); refine with_tabW spec_l2Put.tab5 spec_l2Put.bits5 (fun HT_ HW_ => ?_)
          generalize w30.drew = w31 at HO157 HO160 BK151 BK152 BK153 BK161 HB HR168 HR181 hHeld ⊢
          refine pA_ 1 (some 28) #[false, true, false, false, false, false, false, false, false, false, false, false, false, false, false, false] HT_.out (h := ?_)
          refine pA_ 3 (some 30) #[false, true, false, true, false, false, false, false, false, false, false, false, false, false, false, false] HT_.out (h := ?_)
          refine pA_ 9 (some 36) #[false, true, false, true, false, false, false, false, false, true, false, false, false, false, false, false] HT_.out (h := ?_)
          refine pA_ 11 (some 38) #[false, true, false, true, false, false, false, false, false, true, false, true, false, false, false, false] HT_.out (h := ?_)
          refine tA_ 2 (some 29) #[false, true, true, true, false, false, false, false, false, true, false, true, false, false, false, false] HT_.out HW_.out hHeld (h := ?_)
          refine pA_ 4 (some 31) #[false, true, true, true, true, false, false, false, false, true, false, true, false, false, false, false] HT_.out (h := ?_)
          refine tA_ 6 (some 33) #[false, true, true, true, true, false, true, false, false, true, false, true, false, false, false, false] HT_.out HW_.out hHeld (h := ?_)
          refine tA_ 10 (some 37) #[false, true, true, true, true, false, true, false, false, true, true, true, false, false, false, false] HT_.out HW_.out hHeld (h := ?_)
          refine pA_ 12 (some 39) #[false, true, true, true, true, false, true, false, false, true, true, true, true, false, false, false] HT_.out (h := ?_)
          refine join_ (σ := Value × Value × Value) 4 #[true, true, true, true, true, true, true, true, false, true, true, true, true, false, false, false] (fun s_ => [(27, s_.1), (32, s_.2.1), (34, s_.2.2)]) (fun s_ w' => (w'.cell? ⟨gb151, 0, none⟩ = some (.slice (some ad154) l0_0.length c0_0) ∧ w'.cell? ⟨gb151, 1, none⟩ = some (.slice A0_1 l0_1.length c0_1) ∧ w'.cell? ⟨gb152, 0, none⟩ = some (.int .i64 a1_0) ∧ w'.cell? ⟨gb152, 1, none⟩ = some (.int .i64 a1_1)) ∧ (Kd.R k44 44 w' w.heap.size (fun k_ => some k_ ≠ (s_.2.1 : Value).ownBlock ∧ some k_ ≠ (s_.2.2 : Value).ownBlock ∧ k_ ≠ gb152) (.slice Ao24 t155.length co24) t155) ∧ (Kd.R k36 36 w' w.heap.size (fun _ => True) (.slice Ao29 t158.length co29) t158) ∧ (Kd.R k44 44 w' w.heap.size (fun k_ => some k_ ≠ (.slice Ao24 t155.length co24 : Value).ownBlock ∧ some k_ ≠ (s_.2.2 : Value).ownBlock ∧ k_ ≠ gb152) s_.2.1 y169) ∧ (Kd.R k44 44 w' w.heap.size (fun k_ => some k_ ≠ (.slice Ao24 t155.length co24 : Value).ownBlock ∧ some k_ ≠ (s_.2.1 : Value).ownBlock ∧ k_ ≠ gb152) s_.2.2 y172) ∧ (w'.heap[gb151]? = some (.cells #[.slice (some ad154) l0_0.length c0_0, .slice A0_1 l0_1.length c0_1] 32 (0, 0))) ∧ (w'.heap[gb152]? = some (.cells #[.int .i64 a1_0, .int .i64 a1_1] 44 (0, 0))) ∧ (w'.heap[gb153]? = some (.cells #[.slice none 0 0, .slice none 0 0] 32 (0, 0))) ∧ (w'.heap[gb161]? = some (.cells #[.slice Ao24 t155.length co24, .slice Ao29 t158.length co29] 32 (0, 0))) ∧ (Below w.heap.size w w')) ?_ ?_
          rotate_left
          ·intro hCont
           refine two_ (i := 0) (j := 7) (Ni := some 27) (Nj := some 34) #[true, true, true, true, true, false, true, false, false, true, true, true, true, false, false, false] #[false, true, true, true, true, false, true, true, false, true, true, true, true, false, false, false] rfl rfl rfl rfl (two_of HT_.out (by kernel_rfl)) (by decide) (by decide) (fun K hK => ?_) (fun K hK => ?_)
           ·skip
            refine Kd.R_lit_step k44 _ 44 ?hg (N := 27) ?hd (xs := ([] : List (S44))) (inner := []) (ok := fun _ => True) (okp := fun _ => True) ?hr ?hp (fun _ hk => hk) trivial (Below.refl _ _) (Nat.le_refl _) (by simp) ?_; (case hd => rfl); (case hg => rfl); (case hr => first | (go_simp; done) | (go_simp; rfl)); (case hp => exact (Reps.none _ _))
            intro v163 w34 ho35 hb hg_ hnew_
            clear hg_ hnew_
            (first | rw [← Ny162.out] at ho35 | (simp only [Int.reduceToNat] at ho35; rw [← Ny162.out] at ho35))
            have n0_ := Aside0.mk (Kd.R_elder' (rz_ HO157.out) (Kd.R_base ho35) hb)
            have n1_ := Aside0.mk (Kd.R_below (rz_ HO160.out) hb)
            have n2_ := Aside0.mk (Kd.R_lower (Kd.R_newB (Kd.R_new' ho35 (Kd.R_lt (rz_ HO157.out))) (g := gb152) (o := .cells #[.int .i64 a1_0, .int .i64 a1_1] 44 (0, 0)) (bz_ BK152.out)) (below_size (by repeat (first | (with_reducible first | exact HB.out | apply below_alloc | apply pw_below_drewN | apply below_drew1 | refine below_set ?_ GE151.out | refine below_set ?_ GE152.out | refine below_set ?_ GE153.out | refine below_set ?_ GE161.out) | exact HB.out))))
            have n3_ := Aside0.mk (blk_below (bz_ BK151.out) hb)
            have n4_ := Aside0.mk (blk_below (bz_ BK152.out) hb)
            have n5_ := Aside0.mk (blk_below (bz_ BK153.out) hb)
            have n6_ := Aside0.mk (blk_below (bz_ BK161.out) hb)
            have n7_ := Aside0.mk (below_step (by repeat (first | (with_reducible first | exact HB.out | apply below_alloc | apply pw_below_drewN | apply below_drew1 | refine below_set ?_ GE151.out | refine below_set ?_ GE152.out | refine below_set ?_ GE153.out | refine below_set ?_ GE161.out) | exact HB.out)) hb)
            clear HO157
            clear HO160
            clear BK151
            clear BK152
            clear BK153
            clear BK161
            clear HB
            have HO157 := n0_
            have HO160 := n1_
            have HO164 := n2_
            have BK151 := n3_
            have BK152 := n4_
            have BK153 := n5_
            have BK161 := n6_
            have HB := n7_
            clear n0_ n1_ n2_ n3_ n4_ n5_ n6_ n7_
            clear hb ho35
            refine hK.out _ _ ⟨(blk_cell BK151.out 0).trans rfl, (blk_cell BK151.out 1).trans rfl, (blk_cell BK152.out 0).trans rfl, (blk_cell BK152.out 1).trans rfl⟩ (fun hHeld => ?_)
            clear hK K
            refine norm_ (a' := ?_) ?_ ?_
            rotate_left
            ·show Act.put _ (some 27) _ = _
             simp only [Act.put, List.setIfInBounds_toArray, List.set_cons_zero, List.set_cons_succ, i64_w, i32_w]
             rfl
            refine two_ (i := 5) (j := 7) (Ni := some 32) (Nj := some 34) #[true, true, true, true, true, true, true, false, false, true, true, true, true, false, false, false] #[true, true, true, true, true, false, true, true, false, true, true, true, true, false, false, false] rfl rfl rfl rfl (two_of HT_.out (by kernel_rfl)) (by decide) (by decide) (fun K hK => ?_) (fun K hK => ?_)
            ·skip
             refine Kd.R_append_rows_step k44 (w0 := w) w.heap.size (by rfl) (.tmp 27) (.tmp 31) 29 44 (.agg #[(.int .i64 0), (.int .i64 0)]) 16 rfl Try.underlying29 info44 rfl (by decide) (by omega) v163 y162 y165 _ _ _ (fun k_ => some k_ ≠ (.slice Ao24 t155.length co24 : Value).ownBlock ∧ k_ ≠ gb152) (fun _ => False) rfl rfl ?aO ?aR (fun _ _ h => h) (fun _ h => h.elim) ?aF ?aB ?aS ?aL ?_
             (case aR => exact cz_ (Kd.C_below HR168.out HB.out))
             (case aB => exact (by repeat (first | (with_reducible first | exact HB.out | apply below_alloc | apply pw_below_drewN | apply below_drew1 | refine below_set ?_ GE151.out | refine below_set ?_ GE152.out | refine below_set ?_ GE153.out | refine below_set ?_ GE161.out) | exact HB.out)))
             (case aF => exact (fun k_ hk => ⟨Kd.fresh' (Kd.R_lt (rz_ HO157.out)) k_ hk, Kd.freshB (g := gb152) (o := .cells #[.int .i64 a1_0, .int .i64 a1_1] 44 (0, 0)) (bz_ BK152.out) k_ hk⟩))
             (case aO => exact (rz_ (Kd.R_mono HO164.out (fun _ hk => ⟨hk.1.2, hk.2⟩))))
             (case aS => exact (below_size (by repeat (first | (with_reducible first | exact HB.out | apply below_alloc | apply pw_below_drewN | apply below_drew1 | refine below_set ?_ GE151.out | refine below_set ?_ GE152.out | refine below_set ?_ GE153.out | refine below_set ?_ GE161.out) | exact HB.out))))
             (case aL => have := LMc13.out; omega)
             intro v170 w36 ho hb hg hat
             rw [← Ny169.out] at ho
             have n0_ := Aside0.mk (blk_grown (g := gb151) (o := .cells #[.slice (some ad154) l0_0.length c0_0, .slice A0_1 l0_1.length c0_1] 32 (0, 0)) (bz_ BK151.out) hg (Kd.R_ne HO164.out BK151.out (by decide)))
             have n1_ := Aside0.mk (blk_grown (g := gb152) (o := .cells #[.int .i64 a1_0, .int .i64 a1_1] 44 (0, 0)) (bz_ BK152.out) hg (Kd.R_away HO164.out (fun _ hk => hk.2)))
             have n2_ := Aside0.mk (blk_grown (g := gb153) (o := .cells #[.slice none 0 0, .slice none 0 0] 32 (0, 0)) (bz_ BK153.out) hg (Kd.R_ne HO164.out BK153.out (by decide)))
             have n3_ := Aside0.mk (Kd.R_after (ok := (fun k_ => k_ ≠ gb152)) (rz_ HO157.out) hg hat)
             have n4_ := Aside0.mk (Kd.R_over' (rz_ HO160.out) (Kd.R_typed (rz_ HO164.out)) (by decide) hg)
             have n5_ := Aside0.mk (blk_grown (g := gb161) (o := .cells #[.slice Ao24 t155.length co24, .slice Ao29 t158.length co29] 32 (0, 0)) (bz_ BK161.out) hg (Kd.R_ne HO164.out BK161.out (by decide)))
             have n6_ := Aside0.mk (hb)
             have n7_ := Aside0.mk (ho)
             clear BK151
             clear BK152
             clear BK153
             clear HO157
             clear HO160
             clear BK161
             clear HB
             clear HO164
             have BK151 := n0_
             have BK152 := n1_
             have BK153 := n2_
             have HO157 := n3_
             have HO160 := n4_
             have BK161 := n5_
             have HB := n6_
             have HO171 := n7_
             clear n0_ n1_ n2_ n3_ n4_ n5_ n6_ n7_
             clear ho hb hg hat
             refine hK.out _ _ ⟨(blk_cell BK151.out 0).trans rfl, (blk_cell BK151.out 1).trans rfl, (blk_cell BK152.out 0).trans rfl, (blk_cell BK152.out 1).trans rfl⟩ (fun hHeld => ?_)
             clear hK K
             refine norm_ (a' := ?_) ?_ ?_
             rotate_left
             ·show Act.put _ (some 32) _ = _
              simp only [Act.put, List.setIfInBounds_toArray, List.set_cons_zero, List.set_cons_succ, i64_w, i32_w]
              rfl
             refine one_ (i := 7) (N := some 34) #[true, true, true, true, true, true, true, true, false, true, true, true, true, false, false, false] rfl rfl (one_of HT_.out (by kernel_rfl)) (by decide) (fun K hK => ?_)
             refine Kd.R_lit_step k44 _ 44 ?hg (N := 34) ?hd (xs := ([(⟨a1_0, a1_1⟩ : S44)] : List (S44))) (inner := [.int .i64 a1_0, .int .i64 a1_1]) (ok := fun _ => True) (okp := fun _ => True) ?hr ?hp (fun _ hk => hk) trivial (Below.refl _ _) (Nat.le_refl _) (by simp) ?_; (case hd => rfl); (case hg => rfl); (case hr => first | (go_simp; done) | (go_simp; rfl)); (case hp => exact (Reps.c2 (show Kd.M k44 _ _ _ (⟨a1_0, a1_1⟩ : S44) [.int .i64 a1_0, .int .i64 a1_1] from (k44_mkM _ _ _ (⟨a1_0, a1_1⟩ : S44) )) (Reps.none _ _)))
             intro v173 w37 ho38 hb hg_ hnew_
             clear hg_ hnew_
             (first | rw [← Ny172.out] at ho38 | (simp only [Int.reduceToNat] at ho38; rw [← Ny172.out] at ho38))
             have n0_ := Aside0.mk (Kd.R_elder' (rz_ HO157.out) (Kd.R_base ho38) hb)
             have n1_ := Aside0.mk (Kd.R_below (rz_ HO160.out) hb)
             have n2_ := Aside0.mk (Kd.R_elder' (rz_ HO171.out) (Kd.R_base ho38) hb)
             have n3_ := Aside0.mk (Kd.R_lower (Kd.R_newB (Kd.R_new' (Kd.R_new' ho38 (Kd.R_lt (rz_ HO157.out))) (Kd.R_lt (rz_ HO171.out))) (g := gb152) (o := .cells #[.int .i64 a1_0, .int .i64 a1_1] 44 (0, 0)) (bz_ BK152.out)) (below_size (by repeat (first | (with_reducible first | exact HB.out | apply below_alloc | apply pw_below_drewN | apply below_drew1 | refine below_set ?_ GE151.out | refine below_set ?_ GE152.out | refine below_set ?_ GE153.out | refine below_set ?_ GE161.out) | exact HB.out))))
             have n4_ := Aside0.mk (blk_below (bz_ BK151.out) hb)
             have n5_ := Aside0.mk (blk_below (bz_ BK152.out) hb)
             have n6_ := Aside0.mk (blk_below (bz_ BK153.out) hb)
             have n7_ := Aside0.mk (blk_below (bz_ BK161.out) hb)
             have n8_ := Aside0.mk (below_step (by repeat (first | (with_reducible first | exact HB.out | apply below_alloc | apply pw_below_drewN | apply below_drew1 | refine below_set ?_ GE151.out | refine below_set ?_ GE152.out | refine below_set ?_ GE153.out | refine below_set ?_ GE161.out) | exact HB.out)) hb)
             clear HO157
             clear HO160
             clear HO171
             clear BK151
             clear BK152
             clear BK153
             clear BK161
             clear HB
             have HO157 := n0_
             have HO160 := n1_
             have HO171 := n2_
             have HO174 := n3_
             have BK151 := n4_
             have BK152 := n5_
             have BK153 := n6_
             have BK161 := n7_
             have HB := n8_
             clear n0_ n1_ n2_ n3_ n4_ n5_ n6_ n7_ n8_
             clear hb ho38
             refine hK.out _ _ ⟨(blk_cell BK151.out 0).trans rfl, (blk_cell BK151.out 1).trans rfl, (blk_cell BK152.out 0).trans rfl, (blk_cell BK152.out 1).trans rfl⟩ (fun hHeld => ?_)
             clear hK K
             refine norm_ (a' := ?_) ?_ ?_
             rotate_left
             ·show Act.put _ (some 34) _ = _
              simp only [Act.put, List.setIfInBounds_toArray, List.set_cons_zero, List.set_cons_succ, i64_w, i32_w]
              rfl
             exact norm_ (by simp only [putAll, Act.put, List.setIfInBounds_toArray, List.set_cons_zero, List.set_cons_succ]) (hCont (v163, v170, v173) _ ⟨hHeld, (rz_ (Kd.R_mono HO157.out (fun _ hk => ⟨hk.1.2, ⟨hk.2, hk.1.1⟩⟩))), (rz_ HO160.out), (rz_ (Kd.R_mono HO171.out (fun _ hk => ⟨hk.1.1, ⟨hk.2, hk.1.2⟩⟩))), (rz_ (Kd.R_mono HO174.out (fun _ hk => ⟨hk.1.1.2, ⟨hk.1.2, hk.2⟩⟩))), (bz_ BK151.out), (bz_ BK152.out), (bz_ BK153.out), (bz_ BK161.out), (by repeat (first | (with_reducible first | exact HB.out | apply below_alloc | apply pw_below_drewN | apply below_drew1 | refine below_set ?_ GE151.out | refine below_set ?_ GE152.out | refine below_set ?_ GE153.out | refine below_set ?_ GE161.out) | exact HB.out))⟩)
            ·skip
             refine Kd.R_lit_step k44 _ 44 ?hg (N := 34) ?hd (xs := ([(⟨a1_0, a1_1⟩ : S44)] : List (S44))) (inner := [.int .i64 a1_0, .int .i64 a1_1]) (ok := fun _ => True) (okp := fun _ => True) ?hr ?hp (fun _ hk => hk) trivial (Below.refl _ _) (Nat.le_refl _) (by simp) ?_; (case hd => rfl); (case hg => rfl); (case hr => first | (go_simp; done) | (go_simp; rfl)); (case hp => exact (Reps.c2 (show Kd.M k44 _ _ _ (⟨a1_0, a1_1⟩ : S44) [.int .i64 a1_0, .int .i64 a1_1] from (k44_mkM _ _ _ (⟨a1_0, a1_1⟩ : S44) )) (Reps.none _ _)))
             intro v173 w36 ho37 hb hg_ hnew_
             clear hg_ hnew_
             (first | rw [← Ny172.out] at ho37 | (simp only [Int.reduceToNat] at ho37; rw [← Ny172.out] at ho37))
             have n0_ := Aside0.mk (Kd.R_elder' (rz_ HO157.out) (Kd.R_base ho37) hb)
             have n1_ := Aside0.mk (Kd.R_below (rz_ HO160.out) hb)
             have n2_ := Aside0.mk (Kd.R_elder' (rz_ HO164.out) (Kd.R_base ho37) hb)
             have n3_ := Aside0.mk (Kd.R_lower (Kd.R_newB (Kd.R_new' (Kd.R_new' ho37 (Kd.R_lt (rz_ HO157.out))) (Kd.R_lt (rz_ HO164.out))) (g := gb152) (o := .cells #[.int .i64 a1_0, .int .i64 a1_1] 44 (0, 0)) (bz_ BK152.out)) (below_size (by repeat (first | (with_reducible first | exact HB.out | apply below_alloc | apply pw_below_drewN | apply below_drew1 | refine below_set ?_ GE151.out | refine below_set ?_ GE152.out | refine below_set ?_ GE153.out | refine below_set ?_ GE161.out) | exact HB.out))))
             have n4_ := Aside0.mk (blk_below (bz_ BK151.out) hb)
             have n5_ := Aside0.mk (blk_below (bz_ BK152.out) hb)
             have n6_ := Aside0.mk (blk_below (bz_ BK153.out) hb)
             have n7_ := Aside0.mk (blk_below (bz_ BK161.out) hb)
             have n8_ := Aside0.mk (below_step (by repeat (first | (with_reducible first | exact HB.out | apply below_alloc | apply pw_below_drewN | apply below_drew1 | refine below_set ?_ GE151.out | refine below_set ?_ GE152.out | refine below_set ?_ GE153.out | refine below_set ?_ GE161.out) | exact HB.out)) hb)
             clear HO157
             clear HO160
             clear HO164
             clear BK151
             clear BK152
             clear BK153
             clear BK161
             clear HB
             have HO157 := n0_
             have HO160 := n1_
             have HO164 := n2_
             have HO174 := n3_
             have BK151 := n4_
             have BK152 := n5_
             have BK153 := n6_
             have BK161 := n7_
             have HB := n8_
             clear n0_ n1_ n2_ n3_ n4_ n5_ n6_ n7_ n8_
             clear hb ho37
             refine hK.out _ _ ⟨(blk_cell BK151.out 0).trans rfl, (blk_cell BK151.out 1).trans rfl, (blk_cell BK152.out 0).trans rfl, (blk_cell BK152.out 1).trans rfl⟩ (fun hHeld => ?_)
             clear hK K
             refine norm_ (a' := ?_) ?_ ?_
             rotate_left
             ·show Act.put _ (some 34) _ = _
              simp only [Act.put, List.setIfInBounds_toArray, List.set_cons_zero, List.set_cons_succ, i64_w, i32_w]
              rfl
             refine one_ (i := 5) (N := some 32) #[true, true, true, true, true, true, true, true, false, true, true, true, true, false, false, false] rfl rfl (one_of HT_.out (by kernel_rfl)) (by decide) (fun K hK => ?_)
             refine Kd.R_append_rows_step k44 (w0 := w) w.heap.size (by rfl) (.tmp 27) (.tmp 31) 29 44 (.agg #[(.int .i64 0), (.int .i64 0)]) 16 rfl Try.underlying29 info44 rfl (by decide) (by omega) v163 y162 y165 _ _ _ (fun k_ => some k_ ≠ (.slice Ao24 t155.length co24 : Value).ownBlock ∧ some k_ ≠ (v173 : Value).ownBlock ∧ k_ ≠ gb152) (fun _ => False) rfl rfl ?aO ?aR (fun _ _ h => h) (fun _ h => h.elim) ?aF ?aB ?aS ?aL ?_
             (case aR => exact cz_ (Kd.C_below HR168.out HB.out))
             (case aB => exact (by repeat (first | (with_reducible first | exact HB.out | apply below_alloc | apply pw_below_drewN | apply below_drew1 | refine below_set ?_ GE151.out | refine below_set ?_ GE152.out | refine below_set ?_ GE153.out | refine below_set ?_ GE161.out) | exact HB.out)))
             (case aF => exact (fun k_ hk => ⟨Kd.fresh' (Kd.R_lt (rz_ HO157.out)) k_ hk, Kd.fresh' (Kd.R_lt (rz_ HO174.out)) k_ hk, Kd.freshB (g := gb152) (o := .cells #[.int .i64 a1_0, .int .i64 a1_1] 44 (0, 0)) (bz_ BK152.out) k_ hk⟩))
             (case aO => exact (rz_ (Kd.R_mono HO164.out (fun _ hk => ⟨hk.1.1.2, ⟨hk.2, hk.1.2⟩⟩))))
             (case aS => exact (below_size (by repeat (first | (with_reducible first | exact HB.out | apply below_alloc | apply pw_below_drewN | apply below_drew1 | refine below_set ?_ GE151.out | refine below_set ?_ GE152.out | refine below_set ?_ GE153.out | refine below_set ?_ GE161.out) | exact HB.out))))
             (case aL => have := LMc13.out; omega)
             intro v170 w38 ho hb hg hat
             rw [← Ny169.out] at ho
             have n0_ := Aside0.mk (blk_grown (g := gb151) (o := .cells #[.slice (some ad154) l0_0.length c0_0, .slice A0_1 l0_1.length c0_1] 32 (0, 0)) (bz_ BK151.out) hg (Kd.R_ne HO164.out BK151.out (by decide)))
             have n1_ := Aside0.mk (blk_grown (g := gb152) (o := .cells #[.int .i64 a1_0, .int .i64 a1_1] 44 (0, 0)) (bz_ BK152.out) hg (Kd.R_away HO164.out (fun _ hk => hk.1.2)))
             have n2_ := Aside0.mk (blk_grown (g := gb153) (o := .cells #[.slice none 0 0, .slice none 0 0] 32 (0, 0)) (bz_ BK153.out) hg (Kd.R_ne HO164.out BK153.out (by decide)))
             have n3_ := Aside0.mk (Kd.R_after (ok := (fun k_ => some k_ ≠ (v173 : Value).ownBlock ∧ k_ ≠ gb152)) (rz_ (Kd.R_mono HO157.out (fun _ hk => ⟨⟨hk.2, hk.1.1⟩, hk.1.2⟩))) hg hat)
             have n4_ := Aside0.mk (Kd.R_over' (rz_ HO160.out) (Kd.R_typed (rz_ HO164.out)) (by decide) hg)
             have n5_ := Aside0.mk (blk_grown (g := gb161) (o := .cells #[.slice Ao24 t155.length co24, .slice Ao29 t158.length co29] 32 (0, 0)) (bz_ BK161.out) hg (Kd.R_ne HO164.out BK161.out (by decide)))
             have n6_ := Aside0.mk (Kd.R_after (ok := (fun k_ => some k_ ≠ (.slice Ao24 t155.length co24 : Value).ownBlock ∧ k_ ≠ gb152)) (rz_ (Kd.R_mono HO174.out (fun _ hk => ⟨⟨hk.1.1.2, hk.2⟩, hk.1.2⟩))) hg hat)
             have n7_ := Aside0.mk (hb)
             have n8_ := Aside0.mk (ho)
             clear BK151
             clear BK152
             clear BK153
             clear HO157
             clear HO160
             clear BK161
             clear HO174
             clear HB
             clear HO164
             have BK151 := n0_
             have BK152 := n1_
             have BK153 := n2_
             have HO157 := n3_
             have HO160 := n4_
             have BK161 := n5_
             have HO174 := n6_
             have HB := n7_
             have HO171 := n8_
             clear n0_ n1_ n2_ n3_ n4_ n5_ n6_ n7_ n8_
             clear ho hb hg hat
             refine hK.out _ _ ⟨(blk_cell BK151.out 0).trans rfl, (blk_cell BK151.out 1).trans rfl, (blk_cell BK152.out 0).trans rfl, (blk_cell BK152.out 1).trans rfl⟩ (fun hHeld => ?_)
             clear hK K
             refine norm_ (a' := ?_) ?_ ?_
             rotate_left
             ·show Act.put _ (some 32) _ = _
              simp only [Act.put, List.setIfInBounds_toArray, List.set_cons_zero, List.set_cons_succ, i64_w, i32_w]
              rfl
             exact norm_ (by simp only [putAll, Act.put, List.setIfInBounds_toArray, List.set_cons_zero, List.set_cons_succ]) (hCont (v163, v170, v173) _ ⟨hHeld, (rz_ (Kd.R_mono HO157.out (fun _ hk => ⟨hk.2, ⟨hk.1.1, hk.1.2⟩⟩))), (rz_ HO160.out), (rz_ HO171.out), (rz_ (Kd.R_mono HO174.out (fun _ hk => ⟨hk.1.1, ⟨hk.2, hk.1.2⟩⟩))), (bz_ BK151.out), (bz_ BK152.out), (bz_ BK153.out), (bz_ BK161.out), (by repeat (first | (with_reducible first | exact HB.out | apply below_alloc | apply pw_below_drewN | apply below_drew1 | refine below_set ?_ GE151.out | refine below_set ?_ GE152.out | refine below_set ?_ GE153.out | refine below_set ?_ GE161.out) | exact HB.out))⟩)
           ·skip
            refine Kd.R_lit_step k44 _ 44 ?hg (N := 34) ?hd (xs := ([(⟨a1_0, a1_1⟩ : S44)] : List (S44))) (inner := [.int .i64 a1_0, .int .i64 a1_1]) (ok := fun _ => True) (okp := fun _ => True) ?hr ?hp (fun _ hk => hk) trivial (Below.refl _ _) (Nat.le_refl _) (by simp) ?_; (case hd => rfl); (case hg => rfl); (case hr => first | (go_simp; done) | (go_simp; rfl)); (case hp => exact (Reps.c2 (show Kd.M k44 _ _ _ (⟨a1_0, a1_1⟩ : S44) [.int .i64 a1_0, .int .i64 a1_1] from (k44_mkM _ _ _ (⟨a1_0, a1_1⟩ : S44) )) (Reps.none _ _)))
            intro v173 w34 ho35 hb hg_ hnew_
            clear hg_ hnew_
            (first | rw [← Ny172.out] at ho35 | (simp only [Int.reduceToNat] at ho35; rw [← Ny172.out] at ho35))
            have n0_ := Aside0.mk (Kd.R_elder' (rz_ HO157.out) (Kd.R_base ho35) hb)
            have n1_ := Aside0.mk (Kd.R_below (rz_ HO160.out) hb)
            have n2_ := Aside0.mk (Kd.R_lower (Kd.R_newB (Kd.R_new' ho35 (Kd.R_lt (rz_ HO157.out))) (g := gb152) (o := .cells #[.int .i64 a1_0, .int .i64 a1_1] 44 (0, 0)) (bz_ BK152.out)) (below_size (by repeat (first | (with_reducible first | exact HB.out | apply below_alloc | apply pw_below_drewN | apply below_drew1 | refine below_set ?_ GE151.out | refine below_set ?_ GE152.out | refine below_set ?_ GE153.out | refine below_set ?_ GE161.out) | exact HB.out))))
            have n3_ := Aside0.mk (blk_below (bz_ BK151.out) hb)
            have n4_ := Aside0.mk (blk_below (bz_ BK152.out) hb)
            have n5_ := Aside0.mk (blk_below (bz_ BK153.out) hb)
            have n6_ := Aside0.mk (blk_below (bz_ BK161.out) hb)
            have n7_ := Aside0.mk (below_step (by repeat (first | (with_reducible first | exact HB.out | apply below_alloc | apply pw_below_drewN | apply below_drew1 | refine below_set ?_ GE151.out | refine below_set ?_ GE152.out | refine below_set ?_ GE153.out | refine below_set ?_ GE161.out) | exact HB.out)) hb)
            clear HO157
            clear HO160
            clear BK151
            clear BK152
            clear BK153
            clear BK161
            clear HB
            have HO157 := n0_
            have HO160 := n1_
            have HO174 := n2_
            have BK151 := n3_
            have BK152 := n4_
            have BK153 := n5_
            have BK161 := n6_
            have HB := n7_
            clear n0_ n1_ n2_ n3_ n4_ n5_ n6_ n7_
            clear hb ho35
            refine hK.out _ _ ⟨(blk_cell BK151.out 0).trans rfl, (blk_cell BK151.out 1).trans rfl, (blk_cell BK152.out 0).trans rfl, (blk_cell BK152.out 1).trans rfl⟩ (fun hHeld => ?_)
            clear hK K
            refine norm_ (a' := ?_) ?_ ?_
            rotate_left
            ·show Act.put _ (some 34) _ = _
             simp only [Act.put, List.setIfInBounds_toArray, List.set_cons_zero, List.set_cons_succ, i64_w, i32_w]
             rfl
            refine one_ (i := 0) (N := some 27) #[true, true, true, true, true, false, true, true, false, true, true, true, true, false, false, false] rfl rfl (one_of HT_.out (by kernel_rfl)) (by decide) (fun K hK => ?_)
            refine Kd.R_lit_step k44 _ 44 ?hg (N := 27) ?hd (xs := ([] : List (S44))) (inner := []) (ok := fun _ => True) (okp := fun _ => True) ?hr ?hp (fun _ hk => hk) trivial (Below.refl _ _) (Nat.le_refl _) (by simp) ?_; (case hd => rfl); (case hg => rfl); (case hr => first | (go_simp; done) | (go_simp; rfl)); (case hp => exact (Reps.none _ _))
            intro v163 w36 ho37 hb hg_ hnew_
            clear hg_ hnew_
            (first | rw [← Ny162.out] at ho37 | (simp only [Int.reduceToNat] at ho37; rw [← Ny162.out] at ho37))
            have n0_ := Aside0.mk (Kd.R_elder' (rz_ HO157.out) (Kd.R_base ho37) hb)
            have n1_ := Aside0.mk (Kd.R_below (rz_ HO160.out) hb)
            have n2_ := Aside0.mk (Kd.R_elder' (rz_ HO174.out) (Kd.R_base ho37) hb)
            have n3_ := Aside0.mk (Kd.R_lower (Kd.R_newB (Kd.R_new' (Kd.R_new' ho37 (Kd.R_lt (rz_ HO157.out))) (Kd.R_lt (rz_ HO174.out))) (g := gb152) (o := .cells #[.int .i64 a1_0, .int .i64 a1_1] 44 (0, 0)) (bz_ BK152.out)) (below_size (by repeat (first | (with_reducible first | exact HB.out | apply below_alloc | apply pw_below_drewN | apply below_drew1 | refine below_set ?_ GE151.out | refine below_set ?_ GE152.out | refine below_set ?_ GE153.out | refine below_set ?_ GE161.out) | exact HB.out))))
            have n4_ := Aside0.mk (blk_below (bz_ BK151.out) hb)
            have n5_ := Aside0.mk (blk_below (bz_ BK152.out) hb)
            have n6_ := Aside0.mk (blk_below (bz_ BK153.out) hb)
            have n7_ := Aside0.mk (blk_below (bz_ BK161.out) hb)
            have n8_ := Aside0.mk (below_step (by repeat (first | (with_reducible first | exact HB.out | apply below_alloc | apply pw_below_drewN | apply below_drew1 | refine below_set ?_ GE151.out | refine below_set ?_ GE152.out | refine below_set ?_ GE153.out | refine below_set ?_ GE161.out) | exact HB.out)) hb)
            clear HO157
            clear HO160
            clear HO174
            clear BK151
            clear BK152
            clear BK153
            clear BK161
            clear HB
            have HO157 := n0_
            have HO160 := n1_
            have HO174 := n2_
            have HO164 := n3_
            have BK151 := n4_
            have BK152 := n5_
            have BK153 := n6_
            have BK161 := n7_
            have HB := n8_
            clear n0_ n1_ n2_ n3_ n4_ n5_ n6_ n7_ n8_
            clear hb ho37
            refine hK.out _ _ ⟨(blk_cell BK151.out 0).trans rfl, (blk_cell BK151.out 1).trans rfl, (blk_cell BK152.out 0).trans rfl, (blk_cell BK152.out 1).trans rfl⟩ (fun hHeld => ?_)
            clear hK K
            refine norm_ (a' := ?_) ?_ ?_
            rotate_left
            ·show Act.put _ (some 27) _ = _
             simp only [Act.put, List.setIfInBounds_toArray, List.set_cons_zero, List.set_cons_succ, i64_w, i32_w]
             rfl
            refine one_ (i := 5) (N := some 32) #[true, true, true, true, true, true, true, true, false, true, true, true, true, false, false, false] rfl rfl (one_of HT_.out (by kernel_rfl)) (by decide) (fun K hK => ?_)
            refine Kd.R_append_rows_step k44 (w0 := w) w.heap.size (by rfl) (.tmp 27) (.tmp 31) 29 44 (.agg #[(.int .i64 0), (.int .i64 0)]) 16 rfl Try.underlying29 info44 rfl (by decide) (by omega) v163 y162 y165 _ _ _ (fun k_ => some k_ ≠ (.slice Ao24 t155.length co24 : Value).ownBlock ∧ some k_ ≠ (v173 : Value).ownBlock ∧ k_ ≠ gb152) (fun _ => False) rfl rfl ?aO ?aR (fun _ _ h => h) (fun _ h => h.elim) ?aF ?aB ?aS ?aL ?_
            (case aR => exact cz_ (Kd.C_below HR168.out HB.out))
            (case aB => exact (by repeat (first | (with_reducible first | exact HB.out | apply below_alloc | apply pw_below_drewN | apply below_drew1 | refine below_set ?_ GE151.out | refine below_set ?_ GE152.out | refine below_set ?_ GE153.out | refine below_set ?_ GE161.out) | exact HB.out)))
            (case aF => exact (fun k_ hk => ⟨Kd.fresh' (Kd.R_lt (rz_ HO157.out)) k_ hk, Kd.fresh' (Kd.R_lt (rz_ HO174.out)) k_ hk, Kd.freshB (g := gb152) (o := .cells #[.int .i64 a1_0, .int .i64 a1_1] 44 (0, 0)) (bz_ BK152.out) k_ hk⟩))
            (case aO => exact (rz_ (Kd.R_mono HO164.out (fun _ hk => ⟨hk.1.1.2, ⟨hk.1.2, hk.2⟩⟩))))
            (case aS => exact (below_size (by repeat (first | (with_reducible first | exact HB.out | apply below_alloc | apply pw_below_drewN | apply below_drew1 | refine below_set ?_ GE151.out | refine below_set ?_ GE152.out | refine below_set ?_ GE153.out | refine below_set ?_ GE161.out) | exact HB.out))))
            (case aL => have := LMc13.out; omega)
            intro v170 w38 ho hb hg hat
            rw [← Ny169.out] at ho
            have n0_ := Aside0.mk (blk_grown (g := gb151) (o := .cells #[.slice (some ad154) l0_0.length c0_0, .slice A0_1 l0_1.length c0_1] 32 (0, 0)) (bz_ BK151.out) hg (Kd.R_ne HO164.out BK151.out (by decide)))
            have n1_ := Aside0.mk (blk_grown (g := gb152) (o := .cells #[.int .i64 a1_0, .int .i64 a1_1] 44 (0, 0)) (bz_ BK152.out) hg (Kd.R_away HO164.out (fun _ hk => hk.2)))
            have n2_ := Aside0.mk (blk_grown (g := gb153) (o := .cells #[.slice none 0 0, .slice none 0 0] 32 (0, 0)) (bz_ BK153.out) hg (Kd.R_ne HO164.out BK153.out (by decide)))
            have n3_ := Aside0.mk (Kd.R_after (ok := (fun k_ => some k_ ≠ (v173 : Value).ownBlock ∧ k_ ≠ gb152)) (rz_ (Kd.R_mono HO157.out (fun _ hk => ⟨⟨hk.1.2, hk.1.1⟩, hk.2⟩))) hg hat)
            have n4_ := Aside0.mk (Kd.R_over' (rz_ HO160.out) (Kd.R_typed (rz_ HO164.out)) (by decide) hg)
            have n5_ := Aside0.mk (blk_grown (g := gb161) (o := .cells #[.slice Ao24 t155.length co24, .slice Ao29 t158.length co29] 32 (0, 0)) (bz_ BK161.out) hg (Kd.R_ne HO164.out BK161.out (by decide)))
            have n6_ := Aside0.mk (Kd.R_after (ok := (fun k_ => some k_ ≠ (.slice Ao24 t155.length co24 : Value).ownBlock ∧ k_ ≠ gb152)) (rz_ (Kd.R_mono HO174.out (fun _ hk => ⟨⟨hk.1.1.2, hk.1.2⟩, hk.2⟩))) hg hat)
            have n7_ := Aside0.mk (hb)
            have n8_ := Aside0.mk (ho)
            clear BK151
            clear BK152
            clear BK153
            clear HO157
            clear HO160
            clear BK161
            clear HO174
            clear HB
            clear HO164
            have BK151 := n0_
            have BK152 := n1_
            have BK153 := n2_
            have HO157 := n3_
            have HO160 := n4_
            have BK161 := n5_
            have HO174 := n6_
            have HB := n7_
            have HO171 := n8_
            clear n0_ n1_ n2_ n3_ n4_ n5_ n6_ n7_ n8_
            clear ho hb hg hat
            refine hK.out _ _ ⟨(blk_cell BK151.out 0).trans rfl, (blk_cell BK151.out 1).trans rfl, (blk_cell BK152.out 0).trans rfl, (blk_cell BK152.out 1).trans rfl⟩ (fun hHeld => ?_)
            clear hK K
            refine norm_ (a' := ?_) ?_ ?_
            rotate_left
            ·show Act.put _ (some 32) _ = _
             simp only [Act.put, List.setIfInBounds_toArray, List.set_cons_zero, List.set_cons_succ, i64_w, i32_w]
             rfl
            exact norm_ (by simp only [putAll, Act.put, List.setIfInBounds_toArray, List.set_cons_zero, List.set_cons_succ]) (hCont (v163, v170, v173) _ ⟨hHeld, (rz_ (Kd.R_mono HO157.out (fun _ hk => ⟨hk.2, ⟨hk.1.1, hk.1.2⟩⟩))), (rz_ HO160.out), (rz_ HO171.out), (rz_ (Kd.R_mono HO174.out (fun _ hk => ⟨hk.1.1, ⟨hk.2, hk.1.2⟩⟩))), (bz_ BK151.out), (bz_ BK152.out), (bz_ BK153.out), (bz_ BK161.out), (by repeat (first | (with_reducible first | exact HB.out | apply below_alloc | apply pw_below_drewN | apply below_drew1 | refine below_set ?_ GE151.out | refine below_set ?_ GE152.out | refine below_set ?_ GE153.out | refine below_set ?_ GE161.out) | exact HB.out))⟩)
          rintro ⟨v163, v170, v173⟩ w39 ⟨hS_, h0_, h1_, h2_, h3_, h4_, h5_, h6_, h7_, h8_⟩
          have n0_ : Aside0 (Kd.R k44 44 w39 w.heap.size (fun k_ => some k_ ≠ (v170 : Value).ownBlock ∧ some k_ ≠ (v173 : Value).ownBlock ∧ k_ ≠ gb152) (.slice Ao24 t155.length co24) t155) := ⟨h0_⟩
          have n1_ : Aside0 (Kd.R k36 36 w39 w.heap.size (fun _ => True) (.slice Ao29 t158.length co29) t158) := ⟨h1_⟩
          have n2_ : Aside0 (Kd.R k44 44 w39 w.heap.size (fun k_ => some k_ ≠ (.slice Ao24 t155.length co24 : Value).ownBlock ∧ some k_ ≠ (v173 : Value).ownBlock ∧ k_ ≠ gb152) v170 y169) := ⟨h2_⟩
          have n3_ : Aside0 (Kd.R k44 44 w39 w.heap.size (fun k_ => some k_ ≠ (.slice Ao24 t155.length co24 : Value).ownBlock ∧ some k_ ≠ (v170 : Value).ownBlock ∧ k_ ≠ gb152) v173 y172) := ⟨h3_⟩
          have n4_ : Aside0 (w39.heap[gb151]? = some (.cells #[.slice (some ad154) l0_0.length c0_0, .slice A0_1 l0_1.length c0_1] 32 (0, 0))) := ⟨h4_⟩
          have n5_ : Aside0 (w39.heap[gb152]? = some (.cells #[.int .i64 a1_0, .int .i64 a1_1] 44 (0, 0))) := ⟨h5_⟩
          have n6_ : Aside0 (w39.heap[gb153]? = some (.cells #[.slice none 0 0, .slice none 0 0] 32 (0, 0))) := ⟨h6_⟩
          have n7_ : Aside0 (w39.heap[gb161]? = some (.cells #[.slice Ao24 t155.length co24, .slice Ao29 t158.length co29] 32 (0, 0))) := ⟨h7_⟩
          have n8_ : Aside0 (Below w.heap.size w w39) := ⟨h8_⟩
          clear HO157
          clear HO160
          clear BK151
          clear BK152
          clear BK153
          clear BK161
          clear HB
          clear h0_ h1_ h2_ h3_ h4_ h5_ h6_ h7_ h8_
          have HO157 := n0_
          have HO160 := n1_
          have HO171 := n2_
          have HO174 := n3_
          have BK151 := n4_
          have BK152 := n5_
          have BK153 := n6_
          have BK161 := n7_
          have HB := n8_
          clear n0_ n1_ n2_ n3_ n4_ n5_ n6_ n7_ n8_
          have hHeld : w39.cell? ⟨gb151, 0, none⟩ = some (.slice (some ad154) l0_0.length c0_0) ∧ w39.cell? ⟨gb151, 1, none⟩ = some (.slice A0_1 l0_1.length c0_1) ∧ w39.cell? ⟨gb152, 0, none⟩ = some (.int .i64 a1_0) ∧ w39.cell? ⟨gb152, 1, none⟩ = some (.int .i64 a1_1) := hS_
          obtain ⟨Ao41, co41, eo41⟩ := Kd.R_slice HO174.out
          (first | subst eo41 | (injection eo41 with f1_ f2_ f3_; have f4_ := f1_.symm; have f5_ := f3_.symm; clear f1_ f2_ f3_; subst f4_; subst f5_))
          refine norm_ (a' := ?_) ?_ ?_
          rotate_left
          ·simp only [putAll, Act.put, List.setIfInBounds_toArray, List.set_cons_zero, List.set_cons_succ]
           rfl
          refine one_ (i := 8) (N := some 35) (bl 13 16) rfl rfl (one_of HT_.out (by kernel_rfl)) (by decide) (fun K hK => ?_)
          refine Kd.R_append_rows_step k44 (w0 := w) w.heap.size (by rfl) (.tmp 32) (.tmp 34) 29 44 (.agg #[(.int .i64 0), (.int .i64 0)]) 16 rfl Try.underlying29 info44 rfl (by decide) (by omega) v170 y169 y172 _ _ _ (fun k_ => some k_ ≠ (.slice Ao24 t155.length co24 : Value).ownBlock ∧ some k_ ≠ (.slice Ao41 y172.length co41 : Value).ownBlock ∧ k_ ≠ gb152) (fun _ => False) rfl rfl ?aO ?aR (fun _ _ h => h) (fun _ h => h.elim) ?aF ?aB ?aS ?aL ?_
          (case aR => exact cz_ (Kd.R_reads' HO174.out).2.2)
          (case aB => exact (by repeat (first | (with_reducible first | exact HB.out | apply below_alloc | apply pw_below_drewN | apply below_drew1 | refine below_set ?_ GE151.out | refine below_set ?_ GE152.out | refine below_set ?_ GE153.out | refine below_set ?_ GE161.out) | exact HB.out)))
          (case aF => exact (fun k_ hk => ⟨Kd.fresh' (Kd.R_lt (rz_ HO157.out)) k_ hk, Kd.fresh' (Kd.R_lt (rz_ HO174.out)) k_ hk, Kd.freshB (g := gb152) (o := .cells #[.int .i64 a1_0, .int .i64 a1_1] 44 (0, 0)) (bz_ BK152.out) k_ hk⟩))
          (case aO => exact (rz_ HO171.out))
          (case aS => exact (below_size (by repeat (first | (with_reducible first | exact HB.out | apply below_alloc | apply pw_below_drewN | apply below_drew1 | refine below_set ?_ GE151.out | refine below_set ?_ GE152.out | refine below_set ?_ GE153.out | refine below_set ?_ GE161.out) | exact HB.out))))
          (case aL => have := LMc14.out; omega)
          intro v176 w40 ho hb hg hat
          rw [← Ny175.out] at ho
          have n0_ := Aside0.mk (blk_grown (g := gb151) (o := .cells #[.slice (some ad154) l0_0.length c0_0, .slice A0_1 l0_1.length c0_1] 32 (0, 0)) (bz_ BK151.out) hg (Kd.R_ne HO171.out BK151.out (by decide)))
          have n1_ := Aside0.mk (blk_grown (g := gb152) (o := .cells #[.int .i64 a1_0, .int .i64 a1_1] 44 (0, 0)) (bz_ BK152.out) hg (Kd.R_away HO171.out (fun _ hk => hk.2.2)))
          have n2_ := Aside0.mk (blk_grown (g := gb153) (o := .cells #[.slice none 0 0, .slice none 0 0] 32 (0, 0)) (bz_ BK153.out) hg (Kd.R_ne HO171.out BK153.out (by decide)))
          have n3_ := Aside0.mk (Kd.R_after (ok := (fun k_ => some k_ ≠ (.slice Ao41 y172.length co41 : Value).ownBlock ∧ k_ ≠ gb152)) (rz_ (Kd.R_mono HO157.out (fun _ hk => ⟨⟨hk.2.1, hk.2.2⟩, hk.1⟩))) hg hat)
          have n4_ := Aside0.mk (Kd.R_over' (rz_ HO160.out) (Kd.R_typed (rz_ HO171.out)) (by decide) hg)
          have n5_ := Aside0.mk (blk_grown (g := gb161) (o := .cells #[.slice Ao24 t155.length co24, .slice Ao29 t158.length co29] 32 (0, 0)) (bz_ BK161.out) hg (Kd.R_ne HO171.out BK161.out (by decide)))
          have n6_ := Aside0.mk (Kd.R_after (ok := (fun k_ => some k_ ≠ (.slice Ao24 t155.length co24 : Value).ownBlock ∧ k_ ≠ gb152)) (rz_ (Kd.R_mono HO174.out (fun _ hk => ⟨⟨hk.1, hk.2.2⟩, hk.2.1⟩))) hg hat)
          have n7_ := Aside0.mk (hb)
          have n8_ := Aside0.mk (ho)
          clear BK151
          clear BK152
          clear BK153
          clear HO157
          clear HO160
          clear BK161
          clear HO174
          clear HB
          clear HO171
          have BK151 := n0_
          have BK152 := n1_
          have BK153 := n2_
          have HO157 := n3_
          have HO160 := n4_
          have BK161 := n5_
          have HO174 := n6_
          have HB := n7_
          have HO177 := n8_
          clear n0_ n1_ n2_ n3_ n4_ n5_ n6_ n7_ n8_
          clear ho hb hg hat
          refine hK.out _ _ ⟨(blk_cell BK151.out 0).trans rfl, (blk_cell BK151.out 1).trans rfl, (blk_cell BK152.out 0).trans rfl, (blk_cell BK152.out 1).trans rfl⟩ (fun hHeld => ?_)
          clear hK K
          refine norm_ (a' := ?_) ?_ ?_
          rotate_left
          ·show Act.put _ (some 35) _ = _
           simp only [Act.put, List.setIfInBounds_toArray, List.set_cons_zero, List.set_cons_succ, i64_w, i32_w]
           rfl
          refine one_ (i := 13) (N := some 40) (bl 14 16) rfl rfl (one_of HT_.out (by kernel_rfl)) (by decide) (fun K hK => ?_)
          refine Kd.R_append_rows_step k44 (w0 := w) w.heap.size (by rfl) (.tmp 35) (.tmp 39) 29 44 (.agg #[(.int .i64 0), (.int .i64 0)]) 16 rfl Try.underlying29 info44 rfl (by decide) (by omega) v176 y175 y178 _ _ _ (fun k_ => some k_ ≠ (.slice Ao24 t155.length co24 : Value).ownBlock ∧ some k_ ≠ (.slice Ao41 y172.length co41 : Value).ownBlock ∧ k_ ≠ gb152) (fun _ => False) rfl rfl ?aO ?aR (fun _ _ h => h) (fun _ h => h.elim) ?aF ?aB ?aS ?aL ?_
          (case aR => exact cz_ (Kd.C_below HR181.out HB.out))
          (case aB => exact (by repeat (first | (with_reducible first | exact HB.out | apply below_alloc | apply pw_below_drewN | apply below_drew1 | refine below_set ?_ GE151.out | refine below_set ?_ GE152.out | refine below_set ?_ GE153.out | refine below_set ?_ GE161.out) | exact HB.out)))
          (case aF => exact (fun k_ hk => ⟨Kd.fresh' (Kd.R_lt (rz_ HO157.out)) k_ hk, Kd.fresh' (Kd.R_lt (rz_ HO174.out)) k_ hk, Kd.freshB (g := gb152) (o := .cells #[.int .i64 a1_0, .int .i64 a1_1] 44 (0, 0)) (bz_ BK152.out) k_ hk⟩))
          (case aO => exact (rz_ HO177.out))
          (case aS => exact (below_size (by repeat (first | (with_reducible first | exact HB.out | apply below_alloc | apply pw_below_drewN | apply below_drew1 | refine below_set ?_ GE151.out | refine below_set ?_ GE152.out | refine below_set ?_ GE153.out | refine below_set ?_ GE161.out) | exact HB.out))))
          (case aL => have := LMc17.out; omega)
          intro v183 w42 ho hb hg hat
          rw [← Ny182.out] at ho
          have n0_ := Aside0.mk (blk_grown (g := gb151) (o := .cells #[.slice (some ad154) l0_0.length c0_0, .slice A0_1 l0_1.length c0_1] 32 (0, 0)) (bz_ BK151.out) hg (Kd.R_ne HO177.out BK151.out (by decide)))
          have n1_ := Aside0.mk (blk_grown (g := gb152) (o := .cells #[.int .i64 a1_0, .int .i64 a1_1] 44 (0, 0)) (bz_ BK152.out) hg (Kd.R_away HO177.out (fun _ hk => hk.2.2)))
          have n2_ := Aside0.mk (blk_grown (g := gb153) (o := .cells #[.slice none 0 0, .slice none 0 0] 32 (0, 0)) (bz_ BK153.out) hg (Kd.R_ne HO177.out BK153.out (by decide)))
          have n3_ := Aside0.mk (Kd.R_after (ok := (fun k_ => some k_ ≠ (.slice Ao41 y172.length co41 : Value).ownBlock ∧ k_ ≠ gb152)) (rz_ HO157.out) hg hat)
          have n4_ := Aside0.mk (Kd.R_over' (rz_ HO160.out) (Kd.R_typed (rz_ HO177.out)) (by decide) hg)
          have n5_ := Aside0.mk (blk_grown (g := gb161) (o := .cells #[.slice Ao24 t155.length co24, .slice Ao29 t158.length co29] 32 (0, 0)) (bz_ BK161.out) hg (Kd.R_ne HO177.out BK161.out (by decide)))
          have n6_ := Aside0.mk (Kd.R_after (ok := (fun k_ => some k_ ≠ (.slice Ao24 t155.length co24 : Value).ownBlock ∧ k_ ≠ gb152)) (rz_ HO174.out) hg hat)
          have n7_ := Aside0.mk (hb)
          have n8_ := Aside0.mk (ho)
          clear BK151
          clear BK152
          clear BK153
          clear HO157
          clear HO160
          clear BK161
          clear HO174
          clear HB
          clear HO177
          have BK151 := n0_
          have BK152 := n1_
          have BK153 := n2_
          have HO157 := n3_
          have HO160 := n4_
          have BK161 := n5_
          have HO174 := n6_
          have HB := n7_
          have HO184 := n8_
          clear n0_ n1_ n2_ n3_ n4_ n5_ n6_ n7_ n8_
          clear ho hb hg hat
          obtain ⟨Ao43, co43, eo43⟩ := Kd.R_slice HO184.out
          (first | subst eo43 | (injection eo43 with f1_ f2_ f3_; have f4_ := f1_.symm; have f5_ := f3_.symm; clear f1_ f2_ f3_; subst f4_; subst f5_))
          refine hK.out _ _ ⟨(blk_cell BK151.out 0).trans rfl, (blk_cell BK151.out 1).trans rfl, (blk_cell BK152.out 0).trans rfl, (blk_cell BK152.out 1).trans rfl⟩ (fun hHeld => ?_)
          clear hK K
          refine norm_ (a' := ?_) ?_ ?_
          rotate_left
          ·show Act.put _ (some 40) _ = _
           simp only [Act.put, List.setIfInBounds_toArray, List.set_cons_zero, List.set_cons_succ, i64_w, i32_w]
           rfl
          refine pA_ 14 (some 41) (bl 15 16) HT_.out (h := ?_)
          refine one_ (i := 15) (N := none) (bl 16 16) rfl rfl (one_of HT_.out (by kernel_rfl)) (by decide) (fun K hK => ?_)
          have hs44 : w42.cell? ⟨gb161, 0, none⟩ = some (.slice Ao24 t155.length co24) := (blk_cell BK161.out 0).trans rfl
          have hfs44 := blk_frozen BK161.out 0
          have hns44_0 := NB151_161.out
          have hns44_1 := NB152_161.out
          have hns44_2 := NB153_161.out
          have hms44_0 := NB161_151.out
          have hms44_1 := NB161_152.out
          have hms44_2 := NB161_153.out
          refine skip_ (w1 := ?_) (by rfl) rfl ?_ ?_
          rotate_left
          ·go_simp
           rfl
          refine hK.out _ _ ⟨((cell_far (p := ⟨gb161, _, none⟩) NB151_161.out _).trans (hHeld.1)), ((cell_far (p := ⟨gb161, _, none⟩) NB151_161.out _).trans (hHeld.2.1)), ((cell_far (p := ⟨gb161, _, none⟩) NB152_161.out _).trans (hHeld.2.2.1)), ((cell_far (p := ⟨gb161, _, none⟩) NB152_161.out _).trans (hHeld.2.2.2))⟩ (fun hHeld => ?_)
          clear hK K
          refine done_ (done_of HT_.out (by kernel_rfl)) ?_
          have hcz45_0 : w42.cell? ⟨gb161, 0, none⟩ = some (.slice Ao24 t155.length co24) := (blk_cell BK161.out 0).trans rfl
          have hcz45_1 : w42.cell? ⟨gb161, 1, none⟩ = some (.slice Ao29 t158.length co29) := (blk_cell BK161.out 1).trans rfl
          have hfz45_0 := blk_frozen BK161.out 0
          have hfz45_1 := blk_frozen BK161.out 1
          have hnb46 := NB153_152.out
          have hnc46 := NB152_153.out
          have hcz47_0 : w42.cell? ⟨gb153, 0, none⟩ = some (.slice none 0 0) := (blk_cell BK153.out 0).trans rfl
          have hcz47_1 : w42.cell? ⟨gb153, 1, none⟩ = some (.slice none 0 0) := (blk_cell BK153.out 1).trans rfl
          have hfz47_0 := blk_frozen BK153.out 0
          have hfz47_1 := blk_frozen BK153.out 1
          try go_wp2
          refine bodyPost_ret (results_cell_row rfl _ _ gb153 32 #[.slice Ao43 y182.length co43, .slice Ao29 t158.length co29] (0, 0) _ rfl (by (with_reducible repeat (first | refine blk_drewN ?_ _ | refine blk_drew ?_ | refine blk_alloc ?_ _)); refine blk_put (cs := #[.slice Ao43 y182.length co43, .slice none 0 0]) ?_ 1 _ rfl; (with_reducible repeat (first | refine blk_drewN ?_ _ | refine blk_drew ?_ | refine blk_alloc ?_ _)); refine blk_put (cs := #[.slice none 0 0, .slice none 0 0]) ?_ 0 _ rfl; (with_reducible repeat (first | refine blk_drewN ?_ _ | refine blk_drew ?_ | refine blk_alloc ?_ _)); refine blk_far ?_ NB153_161.out _; (with_reducible repeat (first | refine blk_drewN ?_ _ | refine blk_drew ?_ | refine blk_alloc ?_ _)); exact BK153.out) Try.underlying32 rfl (by kernel_rfl)) rfl ?_
          exact ⟨_, _, by first | rfl | (simp [errW_none, errW_some] <;> rfl) | (simp [*, errW_none, errW_some] <;> rfl), rz_ (Kd.R_mono (Kd.R_far (p := ⟨gb153, 1, none⟩) (Kd.R_far (p := ⟨gb153, 0, none⟩) (Kd.R_far (p := ⟨gb161, 0, none⟩) (Kd.R_types (Kd.R_types HO184.out BK161.out (by decide)) BK153.out (by decide)) (fun _ hk => hk.1.2) (.slice Ao43 y182.length co43)) (fun _ hk => hk.2) (.slice Ao43 y182.length co43)) (fun _ hk => hk.2) (.slice Ao29 t158.length co29)) (fun _ hk => trivial)), rz_ (Kd.R_mono (Kd.R_far (p := ⟨gb153, 1, none⟩) (Kd.R_far (p := ⟨gb153, 0, none⟩) (Kd.R_far (p := ⟨gb161, 0, none⟩) (Kd.R_types (Kd.R_types HO160.out BK161.out (by decide)) BK153.out (by decide)) (fun _ hk => hk.1.2) (.slice Ao43 y182.length co43)) (fun _ hk => hk.2) (.slice Ao43 y182.length co43)) (fun _ hk => hk.2) (.slice Ao29 t158.length co29)) (fun _ hk => trivial)), by repeat (first | (with_reducible first | exact HB.out | apply below_alloc | apply pw_below_drewN | apply below_drew1 | refine below_set ?_ GE151.out | refine below_set ?_ GE152.out | refine below_set ?_ GE153.out | refine below_set ?_ GE161.out) | exact HB.out)⟩
         ·rw [if_neg c17] at H
          exact absurd H (by simp)
        ·rw [if_neg c14] at H
         exact absurd H (by simp)
       ·rw [if_neg c13] at H
        exact absurd H (by simp)
      ·rw [if_neg c12] at H
       exact absurd H (by simp)
    ·rw [if_neg c7] at H
     exact absurd H (by simp)
   ·rw [if_neg c6] at H
    have c6b0 : decide (x5_1 < (l0_0.length : Int)) = false := decide_eq_false c6
    clear c6
    replace H := Option.bind_eq_some_iff.mp H
    obtain ⟨⟨t185, t188⟩, A480, H⟩ := H
    replace H : ((some (([] : List (S44)) : List (S44))).bind fun y192 => (if 0 ≤ x5_1 then (if x5_1 ≤ (l0_0.length : Int) then ((some (l0_0.take (x5_1 : Int).toNat : List (S44))).bind fun y195 => (if y192.length + y195.length < 8796093022208 then ((some (y192 ++ y195 : List (S44))).bind fun y199 => ((some (([(⟨a1_0, a1_1⟩ : S44)] : List (S44)) : List (S44))).bind fun y202 => (if y199.length + y202.length < 8796093022208 then ((some (y199 ++ y202 : List (S44))).bind fun y205 => ((some (l0_0.drop (x5_1 : Int).toNat : List (S44))).bind fun y208 => (if y205.length + y208.length < 8796093022208 then (some ((y205 ++ y208), t188)) else (none)))) else (none)))) else (none))) else (none)) else (none))) = some (r1, r2) := H
    have A48 := Aside0.mk A480
    clear A480
    obtain ⟨y192, hy192⟩ : ∃ y_ : List (S44), y_ = (([] : List (S44))) := ⟨_, rfl⟩
    replace H : (if 0 ≤ x5_1 then (if x5_1 ≤ (l0_0.length : Int) then ((some (l0_0.take (x5_1 : Int).toNat : List (S44))).bind fun y195 => (if y192.length + y195.length < 8796093022208 then ((some (y192 ++ y195 : List (S44))).bind fun y199 => ((some (([(⟨a1_0, a1_1⟩ : S44)] : List (S44)) : List (S44))).bind fun y202 => (if y199.length + y202.length < 8796093022208 then ((some (y199 ++ y202 : List (S44))).bind fun y205 => ((some (l0_0.drop (x5_1 : Int).toNat : List (S44))).bind fun y208 => (if y205.length + y208.length < 8796093022208 then (some ((y205 ++ y208), t188)) else (none)))) else (none)))) else (none))) else (none)) else (none)) = some (r1, r2) := by first | (rw [hy192]; with_reducible exact H) | (have H2_ := (Option.bind_some _ _).symm.trans H; rw [hy192]; with_reducible exact H2_) | (have H2_ := (Option.bind_some _ _).symm.trans H; with_reducible exact H2_) | with_reducible exact H | (rw [hy192]; exact H) | exact H
    have Ny192 := Aside0.mk hy192
    clear hy192
    by_cases c49 : 0 ≤ x5_1
    ·rw [if_pos c49] at H
     have c49b0 := eq_true c49
     have c49b1 : decide (0 ≤ x5_1) = true := decide_eq_true c49
     clear c49
     by_cases c50 : x5_1 ≤ (l0_0.length : Int)
     ·rw [if_pos c50] at H
      have c50b0 := eq_true c50
      have c50b1 : decide (x5_1 ≤ (l0_0.length : Int)) = true := decide_eq_true c50
      clear c50
      obtain ⟨y195, hy195⟩ : ∃ y_ : List (S44), y_ = (l0_0.take (x5_1 : Int).toNat) := ⟨_, rfl⟩
      replace H : (if y192.length + y195.length < 8796093022208 then ((some (y192 ++ y195 : List (S44))).bind fun y199 => ((some (([(⟨a1_0, a1_1⟩ : S44)] : List (S44)) : List (S44))).bind fun y202 => (if y199.length + y202.length < 8796093022208 then ((some (y199 ++ y202 : List (S44))).bind fun y205 => ((some (l0_0.drop (x5_1 : Int).toNat : List (S44))).bind fun y208 => (if y205.length + y208.length < 8796093022208 then (some ((y205 ++ y208), t188)) else (none)))) else (none)))) else (none)) = some (r1, r2) := by first | (rw [hy195]; with_reducible exact H) | (have H2_ := (Option.bind_some _ _).symm.trans H; rw [hy195]; with_reducible exact H2_) | (have H2_ := (Option.bind_some _ _).symm.trans H; with_reducible exact H2_) | with_reducible exact H | (rw [hy195]; exact H) | exact H
      have Ny195 := Aside0.mk hy195
      clear hy195
      by_cases c51 : y192.length + y195.length < 8796093022208
      ·rw [if_pos c51] at H
       have LMc51 := Aside0.mk c51
       clear c51
       obtain ⟨y199, hy199⟩ : ∃ y_ : List (S44), y_ = (y192 ++ y195) := ⟨_, rfl⟩
       replace H : ((some (([(⟨a1_0, a1_1⟩ : S44)] : List (S44)) : List (S44))).bind fun y202 => (if y199.length + y202.length < 8796093022208 then ((some (y199 ++ y202 : List (S44))).bind fun y205 => ((some (l0_0.drop (x5_1 : Int).toNat : List (S44))).bind fun y208 => (if y205.length + y208.length < 8796093022208 then (some ((y205 ++ y208), t188)) else (none)))) else (none))) = some (r1, r2) := by first | (rw [hy199]; with_reducible exact H) | (have H2_ := (Option.bind_some _ _).symm.trans H; rw [hy199]; with_reducible exact H2_) | (have H2_ := (Option.bind_some _ _).symm.trans H; with_reducible exact H2_) | with_reducible exact H | (rw [hy199]; exact H) | exact H
       have Ny199 := Aside0.mk hy199
       clear hy199
       obtain ⟨y202, hy202⟩ : ∃ y_ : List (S44), y_ = (([(⟨a1_0, a1_1⟩ : S44)] : List (S44))) := ⟨_, rfl⟩
       replace H : (if y199.length + y202.length < 8796093022208 then ((some (y199 ++ y202 : List (S44))).bind fun y205 => ((some (l0_0.drop (x5_1 : Int).toNat : List (S44))).bind fun y208 => (if y205.length + y208.length < 8796093022208 then (some ((y205 ++ y208), t188)) else (none)))) else (none)) = some (r1, r2) := by first | (rw [hy202]; with_reducible exact H) | (have H2_ := (Option.bind_some _ _).symm.trans H; rw [hy202]; with_reducible exact H2_) | (have H2_ := (Option.bind_some _ _).symm.trans H; with_reducible exact H2_) | with_reducible exact H | (rw [hy202]; exact H) | exact H
       have Ny202 := Aside0.mk hy202
       clear hy202
       by_cases c52 : y199.length + y202.length < 8796093022208
       ·rw [if_pos c52] at H
        have LMc52 := Aside0.mk c52
        clear c52
        obtain ⟨y205, hy205⟩ : ∃ y_ : List (S44), y_ = (y199 ++ y202) := ⟨_, rfl⟩
        replace H : ((some (l0_0.drop (x5_1 : Int).toNat : List (S44))).bind fun y208 => (if y205.length + y208.length < 8796093022208 then (some ((y205 ++ y208), t188)) else (none))) = some (r1, r2) := by first | (rw [hy205]; with_reducible exact H) | (have H2_ := (Option.bind_some _ _).symm.trans H; rw [hy205]; with_reducible exact H2_) | (have H2_ := (Option.bind_some _ _).symm.trans H; with_reducible exact H2_) | with_reducible exact H | (rw [hy205]; exact H) | exact H
        have Ny205 := Aside0.mk hy205
        clear hy205
        have c53b0 := eq_true (of_decide_eq_true (by first | (with_reducible assumption) | assumption) : 0 ≤ x5_1)
        have c54b0 := eq_true (of_decide_eq_true (by first | (with_reducible assumption) | assumption) : x5_1 ≤ (l0_0.length : Int))
        obtain ⟨y208, hy208⟩ : ∃ y_ : List (S44), y_ = (l0_0.drop (x5_1 : Int).toNat) := ⟨_, rfl⟩
        replace H : (if y205.length + y208.length < 8796093022208 then (some ((y205 ++ y208), t188)) else (none)) = some (r1, r2) := by first | (rw [hy208]; with_reducible exact H) | (have H2_ := (Option.bind_some _ _).symm.trans H; rw [hy208]; with_reducible exact H2_) | (have H2_ := (Option.bind_some _ _).symm.trans H; with_reducible exact H2_) | with_reducible exact H | (rw [hy208]; exact H) | exact H
        have Ny208 := Aside0.mk hy208
        clear hy208
        by_cases c55 : y205.length + y208.length < 8796093022208
        ·rw [if_pos c55] at H
         have LMc55 := Aside0.mk c55
         clear c55
         obtain ⟨y212, hy212⟩ : ∃ y_ : List (S44), y_ = (y205 ++ y208) := ⟨_, rfl⟩
         replace H : (some (y212, t188)) = some (r1, r2) := by first | (rw [hy212]; with_reducible exact H) | (have H2_ := (Option.bind_some _ _).symm.trans H; rw [hy212]; with_reducible exact H2_) | (have H2_ := (Option.bind_some _ _).symm.trans H; with_reducible exact H2_) | with_reducible exact H | (rw [hy212]; exact H) | exact H
         have Ny212 := Aside0.mk hy212
         clear hy212
         simp only [Option.some.injEq, Prod.mk.injEq] at H
         obtain ⟨rfl, rfl⟩ := H
         try go_wp2
         have n0_ := Aside0.mk (blk_drew BK151.out)
         have n1_ := Aside0.mk (blk_drew BK152.out)
         have n2_ := Aside0.mk (blk_drew BK153.out)
         have n3_ := Aside0.mk (below_drew1 HB.out)
         clear BK151
         clear BK152
         clear BK153
         clear HB
         have BK151 := n0_
         have BK152 := n1_
         have BK153 := n2_
         have HB := n3_
         clear n0_ n1_ n2_ n3_
         refine start_ (n := 16) (S := fun w' => w'.cell? ⟨gb151, 0, none⟩ = some (.slice A0_0 l0_0.length c0_0) ∧ w'.cell? ⟨gb151, 1, none⟩ = some (.slice A0_1 l0_1.length c0_1)) (ds := []) #[false, false, false, false, false, false, false, false, false, false, false, false, false, false, false, false] (by kernel_rfl) rfl rfl ⟨(blk_cell BK151.out 0).trans rfl, (blk_cell BK151.out 1).trans rfl⟩ (fun hHeld => ?_); refine with_tabW spec_l2Put.tab2 spec_l2Put.bits2 (fun HT_ HW_ => ?_)
         generalize wr.drew = w56 at BK151 BK152 BK153 HB hHeld ⊢
         refine pA_ 0 (some 7) (bl 1 16) HT_.out (h := ?_)
         refine pA_ 1 (some 8) (bl 2 16) HT_.out (h := ?_)
         refine tA_ 2 (some 9) (bl 3 16) HT_.out HW_.out hHeld (h := ?_)
         refine pA_ 3 (some 10) (bl 4 16) HT_.out (h := ?_)
         refine pA_ 4 (some 11) (bl 5 16) HT_.out (h := ?_)
         refine pA_ 5 (some 12) (bl 6 16) HT_.out (h := ?_)
         refine pO_ 6 (some 13) (bl 7 16) HT_.out (h := ?_)
         refine pO_ 7 (some 14) (bl 8 16) HT_.out (h := ?_)
         refine pO_ 8 (some 15) (bl 9 16) HT_.out (h := ?_)
         refine pO_ 9 (some 16) (bl 10 16) HT_.out (h := ?_)
         refine pO_ 10 (some 17) (bl 11 16) HT_.out (h := ?_)
         refine pO_ 11 (some 18) (bl 12 16) HT_.out (h := ?_)
         refine pO_ 12 (some 19) (bl 13 16) HT_.out (h := ?_)
         refine pO_ 13 (some 20) (bl 14 16) HT_.out (h := ?_)
         refine pO_ 14 (some 21) (bl 15 16) HT_.out (h := ?_)
         refine pA_ 15 (some 22) (bl 16 16) HT_.out (h := ?_)
         refine done_ (done_of HT_.out (by kernel_rfl)) ?_
         have hnb57 := NB151_152.out
         have hnc57 := NB152_151.out
         have hnb58 := NB151_153.out
         have hnc58 := NB153_151.out
         have hcz59_0 : w56.cell? ⟨gb151, 0, none⟩ = some (.slice A0_0 l0_0.length c0_0) := (blk_cell BK151.out 0).trans rfl
         have hcz59_1 : w56.cell? ⟨gb151, 1, none⟩ = some (.slice A0_1 l0_1.length c0_1) := (blk_cell BK151.out 1).trans rfl
         have hfz59_0 := blk_frozen BK151.out 0
         have hfz59_1 := blk_frozen BK151.out 1
         try go_wp2_with (first | ((with_reducible refine gate_callee (f := 72) rfl ?_); refine goesL_ (some 26) rfl rfl Try.func72 (by kernel_rfl) rfl #[.agg #[.slice A0_0 l0_0.length c0_0, .slice A0_1 l0_1.length c0_1]] rfl (by (try simp only [List.map_toArray, List.map_cons, List.map_nil]); first | done | rfl | (simp only [List.length_drop, List.length_take]; rfl)) ?_; (with_reducible refine (spec_l2Own.calls _ _ l0_0 _ _ l0_1 t185 t188 _ ?side1 ?side2 ?side3 ?side4 A48.out).mono ?_); (case side1 => exact cz_ (Kd.C_below HR0_0.out HB.out)); (case side2 => exact HC0_0.out); (case side3 => exact cz_ (Kd.C_below HR0_1.out HB.out)); (case side4 => exact HC0_1.out); rintro e w60 ⟨v186, v189, rfl, ho0, ho1, hb⟩; refine ⟨_, rfl, ?_⟩; have n0_ := Aside0.mk (Kd.R_lower (Kd.R_newB ho0 (g := gb152) (o := .cells #[.int .i64 a1_0, .int .i64 a1_1] 44 (0, 0)) (bz_ BK152.out)) (below_size (by repeat (first | (with_reducible first | exact HB.out | apply below_alloc | apply pw_below_drewN | apply below_drew1 | refine below_set ?_ GE151.out | refine below_set ?_ GE152.out | refine below_set ?_ GE153.out) | exact HB.out)))); have n1_ := Aside0.mk (Kd.R_lower ho1 (below_size (by repeat (first | (with_reducible first | exact HB.out | apply below_alloc | apply pw_below_drewN | apply below_drew1 | refine below_set ?_ GE151.out | refine below_set ?_ GE152.out | refine below_set ?_ GE153.out) | exact HB.out)))); have n2_ := Aside0.mk (blk_below (bz_ BK151.out) hb); have n3_ := Aside0.mk (blk_below (bz_ BK152.out) hb); have n4_ := Aside0.mk (blk_below (bz_ BK153.out) hb); have n5_ := Aside0.mk (below_step (by repeat (first | (with_reducible first | exact HB.out | apply below_alloc | apply pw_below_drewN | apply below_drew1 | refine below_set ?_ GE151.out | refine below_set ?_ GE152.out | refine below_set ?_ GE153.out) | exact HB.out)) hb); clear BK151; clear BK152; clear BK153; clear HB; have HO187 := n0_; have HO190 := n1_; have BK151 := n2_; have BK152 := n3_; have BK153 := n4_; have HB := n5_; clear n0_ n1_ n2_ n3_ n4_ n5_; (try clear hb); (try clear hb2); (try clear hk); (try clear hi); (try clear ho0); (try clear ho1)) | ((with_reducible refine gate_dst (N := 6) rfl ?_); refine box_event ?hg (N := 6) ?hd (cs := #[.slice none 0 0, .slice none 0 0]) (t := 32) ?hr ?_; (case hd => rfl); (case hg => rfl); (case hr => first | (go_simp; done) | (go_simp; rfl)); intro gb191 hg w61 hbox hb; have n0_ := Aside0.mk (Kd.R_below (rz_ HO187.out) hb); have n1_ := Aside0.mk (Kd.R_below (rz_ HO190.out) hb); have n2_ := Aside0.mk (blk_below (bz_ BK151.out) hb); have n3_ := Aside0.mk (blk_below (bz_ BK152.out) hb); have n4_ := Aside0.mk (blk_below (bz_ BK153.out) hb); have n5_ := Aside0.mk (below_step (by repeat (first | (with_reducible first | exact HB.out | apply below_alloc | apply pw_below_drewN | apply below_drew1 | refine below_set ?_ GE151.out | refine below_set ?_ GE152.out | refine below_set ?_ GE153.out) | exact HB.out)) hb); have n6_ := Aside0.mk (hbox); have n7_ := Aside0.mk ((by rw [hg]; exact (below_size (by repeat (first | (with_reducible first | exact HB.out | apply below_alloc | apply pw_below_drewN | apply below_drew1 | refine below_set ?_ GE151.out | refine below_set ?_ GE152.out | refine below_set ?_ GE153.out) | exact HB.out))) : w.heap.size ≤ gb191)); have n8_ := Aside0.mk ((by rw [hg]; exact (below_size (by repeat (first | (with_reducible first | exact HB.out | apply below_alloc | apply pw_below_drewN | apply below_drew1 | refine below_set ?_ GE151.out | refine below_set ?_ GE152.out | refine below_set ?_ GE153.out) | exact HB.out))) : w.heap.size ≤ gb191)); have n9_ := Aside0.mk ((by rw [hg]; exact Nat.ne_of_lt (blk_lt (g := gb151) (o := .cells #[.slice A0_0 l0_0.length c0_0, .slice A0_1 l0_1.length c0_1] 32 (0, 0)) (bz_ BK151.out)) : gb151 ≠ gb191)); have n10_ := Aside0.mk ((by rw [hg]; exact Nat.ne_of_gt (blk_lt (g := gb151) (o := .cells #[.slice A0_0 l0_0.length c0_0, .slice A0_1 l0_1.length c0_1] 32 (0, 0)) (bz_ BK151.out)) : gb191 ≠ gb151)); have n11_ := Aside0.mk ((by rw [hg]; exact Nat.ne_of_lt (blk_lt (g := gb152) (o := .cells #[.int .i64 a1_0, .int .i64 a1_1] 44 (0, 0)) (bz_ BK152.out)) : gb152 ≠ gb191)); have n12_ := Aside0.mk ((by rw [hg]; exact Nat.ne_of_gt (blk_lt (g := gb152) (o := .cells #[.int .i64 a1_0, .int .i64 a1_1] 44 (0, 0)) (bz_ BK152.out)) : gb191 ≠ gb152)); have n13_ := Aside0.mk ((by rw [hg]; exact Nat.ne_of_lt (blk_lt (g := gb153) (o := .cells #[.slice none 0 0, .slice none 0 0] 32 (0, 0)) (bz_ BK153.out)) : gb153 ≠ gb191)); have n14_ := Aside0.mk ((by rw [hg]; exact Nat.ne_of_gt (blk_lt (g := gb153) (o := .cells #[.slice none 0 0, .slice none 0 0] 32 (0, 0)) (bz_ BK153.out)) : gb191 ≠ gb153)); clear HO187; clear HO190; clear BK151; clear BK152; clear BK153; clear HB; have HO187 := n0_; have HO190 := n1_; have BK151 := n2_; have BK152 := n3_; have BK153 := n4_; have HB := n5_; have BK191 := n6_; have GW191 := n7_; have GE191 := n8_; have NB151_191 := n9_; have NB191_151 := n10_; have NB152_191 := n11_; have NB191_152 := n12_; have NB153_191 := n13_; have NB191_153 := n14_; clear n0_ n1_ n2_ n3_ n4_ n5_ n6_ n7_ n8_ n9_ n10_ n11_ n12_ n13_ n14_; clear hb hbox hg; obtain ⟨Ao62, co62, eo62⟩ := Kd.R_slice HO187.out; subst eo62; have hnb63 := NB191_151.out; have hnc63 := NB151_191.out; have hnb64 := NB191_152.out; have hnc64 := NB152_191.out; have hnb65 := NB191_153.out; have hnc65 := NB153_191.out; have hcz66_0 : w61.cell? ⟨gb191, 0, none⟩ = some (.slice none 0 0) := (blk_cell BK191.out 0).trans rfl; have hcz66_1 : w61.cell? ⟨gb191, 1, none⟩ = some (.slice none 0 0) := (blk_cell BK191.out 1).trans rfl; have hfz66_0 := blk_frozen BK191.out 0; have hfz66_1 := blk_frozen BK191.out 1; obtain ⟨Ao67, co67, eo67⟩ := Kd.R_slice HO190.out; subst eo67))
         have n0_ : Aside0 (Kd.R k44 44 ((w61.setCell ⟨gb191, 0, none⟩ (.slice Ao62 t185.length co62)).setCell ⟨gb191, 1, none⟩ (.slice Ao67 t188.length co67)) w.heap.size (fun k_ => k_ ≠ gb152) (.slice Ao62 t185.length co62) t185) := ⟨rz_ (Kd.R_mono (Kd.R_far (p := ⟨gb191, 1, none⟩) (Kd.R_far (p := ⟨gb191, 0, none⟩) (Kd.R_types HO187.out BK191.out (by decide)) (fun _ hk => hk.2) (.slice Ao62 t185.length co62)) (fun _ hk => hk.2) (.slice Ao67 t188.length co67)) (fun _ hk => hk.1.2))⟩
         have n1_ : Aside0 (Kd.R k36 36 ((w61.setCell ⟨gb191, 0, none⟩ (.slice Ao62 t185.length co62)).setCell ⟨gb191, 1, none⟩ (.slice Ao67 t188.length co67)) w.heap.size (fun _ => True) (.slice Ao67 t188.length co67) t188) := ⟨rz_ (Kd.R_mono (Kd.R_far (p := ⟨gb191, 1, none⟩) (Kd.R_far (p := ⟨gb191, 0, none⟩) (Kd.R_types HO190.out BK191.out (by decide)) (fun _ hk => hk.2) (.slice Ao62 t185.length co62)) (fun _ hk => hk.2) (.slice Ao67 t188.length co67)) (fun _ hk => trivial))⟩
         have n2_ : Aside0 (((w61.setCell ⟨gb191, 0, none⟩ (.slice Ao62 t185.length co62)).setCell ⟨gb191, 1, none⟩ (.slice Ao67 t188.length co67)).heap[gb151]? = some (.cells #[.slice A0_0 l0_0.length c0_0, .slice A0_1 l0_1.length c0_1] 32 (0, 0))) := ⟨by (with_reducible repeat (first | refine blk_drewN ?_ _ | refine blk_drew ?_ | refine blk_alloc ?_ _)); refine blk_far ?_ NB151_191.out _; (with_reducible repeat (first | refine blk_drewN ?_ _ | refine blk_drew ?_ | refine blk_alloc ?_ _)); refine blk_far ?_ NB151_191.out _; (with_reducible repeat (first | refine blk_drewN ?_ _ | refine blk_drew ?_ | refine blk_alloc ?_ _)); exact BK151.out⟩
         have n3_ : Aside0 (((w61.setCell ⟨gb191, 0, none⟩ (.slice Ao62 t185.length co62)).setCell ⟨gb191, 1, none⟩ (.slice Ao67 t188.length co67)).heap[gb152]? = some (.cells #[.int .i64 a1_0, .int .i64 a1_1] 44 (0, 0))) := ⟨by (with_reducible repeat (first | refine blk_drewN ?_ _ | refine blk_drew ?_ | refine blk_alloc ?_ _)); refine blk_far ?_ NB152_191.out _; (with_reducible repeat (first | refine blk_drewN ?_ _ | refine blk_drew ?_ | refine blk_alloc ?_ _)); refine blk_far ?_ NB152_191.out _; (with_reducible repeat (first | refine blk_drewN ?_ _ | refine blk_drew ?_ | refine blk_alloc ?_ _)); exact BK152.out⟩
         have n4_ : Aside0 (((w61.setCell ⟨gb191, 0, none⟩ (.slice Ao62 t185.length co62)).setCell ⟨gb191, 1, none⟩ (.slice Ao67 t188.length co67)).heap[gb153]? = some (.cells #[.slice none 0 0, .slice none 0 0] 32 (0, 0))) := ⟨by (with_reducible repeat (first | refine blk_drewN ?_ _ | refine blk_drew ?_ | refine blk_alloc ?_ _)); refine blk_far ?_ NB153_191.out _; (with_reducible repeat (first | refine blk_drewN ?_ _ | refine blk_drew ?_ | refine blk_alloc ?_ _)); refine blk_far ?_ NB153_191.out _; (with_reducible repeat (first | refine blk_drewN ?_ _ | refine blk_drew ?_ | refine blk_alloc ?_ _)); exact BK153.out⟩
         have n5_ : Aside0 (((w61.setCell ⟨gb191, 0, none⟩ (.slice Ao62 t185.length co62)).setCell ⟨gb191, 1, none⟩ (.slice Ao67 t188.length co67)).heap[gb191]? = some (.cells #[.slice Ao62 t185.length co62, .slice Ao67 t188.length co67] 32 (0, 0))) := ⟨by (with_reducible repeat (first | refine blk_drewN ?_ _ | refine blk_drew ?_ | refine blk_alloc ?_ _)); refine blk_put (cs := #[.slice Ao62 t185.length co62, .slice none 0 0]) ?_ 1 _ rfl; (with_reducible repeat (first | refine blk_drewN ?_ _ | refine blk_drew ?_ | refine blk_alloc ?_ _)); refine blk_put (cs := #[.slice none 0 0, .slice none 0 0]) ?_ 0 _ rfl; (with_reducible repeat (first | refine blk_drewN ?_ _ | refine blk_drew ?_ | refine blk_alloc ?_ _)); exact BK191.out⟩
         have n6_ : Aside0 (Below w.heap.size w ((w61.setCell ⟨gb191, 0, none⟩ (.slice Ao62 t185.length co62)).setCell ⟨gb191, 1, none⟩ (.slice Ao67 t188.length co67))) := ⟨by repeat (first | (with_reducible first | exact HB.out | apply below_alloc | apply pw_below_drewN | apply below_drew1 | refine below_set ?_ GE151.out | refine below_set ?_ GE152.out | refine below_set ?_ GE153.out | refine below_set ?_ GE191.out) | exact HB.out)⟩
         (try clear HO187)
         (try clear HO190)
         (try clear BK151)
         (try clear BK152)
         (try clear BK153)
         (try clear BK191)
         (try clear HB)
         generalize ((w61.setCell ⟨gb191, 0, none⟩ (.slice Ao62 t185.length co62)).setCell ⟨gb191, 1, none⟩ (.slice Ao67 t188.length co67)) = w68 at n0_ n1_ n2_ n3_ n4_ n5_ n6_ ⊢
         have HO187 := n0_
         have HO190 := n1_
         have BK151 := n2_
         have BK152 := n3_
         have BK153 := n4_
         have BK191 := n5_
         have HB := n6_
         clear n0_ n1_ n2_ n3_ n4_ n5_ n6_
         have n0_ := Aside0.mk (Kd.R_drew HO187.out)
         have n1_ := Aside0.mk (Kd.R_drew HO190.out)
         have n2_ := Aside0.mk (blk_drew BK151.out)
         have n3_ := Aside0.mk (blk_drew BK152.out)
         have n4_ := Aside0.mk (blk_drew BK153.out)
         have n5_ := Aside0.mk (blk_drew BK191.out)
         have n6_ := Aside0.mk (below_drew1 HB.out)
         clear HO187
         clear HO190
         clear BK151
         clear BK152
         clear BK153
         clear BK191
         clear HB
         have HO187 := n0_
         have HO190 := n1_
         have BK151 := n2_
         have BK152 := n3_
         have BK153 := n4_
         have BK191 := n5_
         have HB := n6_
         clear n0_ n1_ n2_ n3_ n4_ n5_ n6_
         have q70 : (x5_1 : Int) ≤ ((l0_0.length : Int) : Int) := of_decide_eq_true (by first | (with_reducible assumption) | assumption)
         obtain ⟨i070, hi070, _, hsz70, _⟩ := info_parts info44
         have hroom70 : l0_0.length ≤ c0_0 := HC0_0.out
         have hC70 : Kd.C k44 _ A0_0 l0_0.length l0_0 := HR0_0.out
         have hcut70 := cut_to (P := Try.prog) 29 44 .i64 Try.underlying29 hi070 A0_0 l0_0.length c0_0 x5_1 (of_decide_eq_true (by first | (with_reducible assumption) | assumption)) q70 hroom70
         have hr70 := Kd.C_take (m := (x5_1 : Int).toNat) hC70 (by omega)
         have hy70 : y195.length = (x5_1 : Int).toNat := (by rw [Ny195.out, List.length_take]; omega)
         rw [← Ny195.out] at hr70
         rw [← hy70] at hcut70
         have HR198 := Aside0.mk hr70
         have HC198 := Aside0.mk (show y195.length ≤ c0_0 from by omega)
         clear hr70 hC70 hroom70 hi070 hsz70
         have KY70 := Aside0.mk hy70
         clear hy70
         replace q70 := eq_true q70
         have q71 : (x5_1 : Int) ≤ ((l0_0.length : Int) : Int) := of_decide_eq_true (by first | (with_reducible assumption) | assumption)
         obtain ⟨i071, hi071, _, hsz71, _⟩ := info_parts info44
         have hroom71 : l0_0.length ≤ c0_0 := HC0_0.out
         have hC71 : Kd.C k44 _ A0_0 l0_0.length l0_0 := HR0_0.out
         have q071 : (0 : Int) ≤ (x5_1 : Int) := of_decide_eq_true (by first | (with_reducible assumption) | assumption)
         have hcut71 := cut_from (P := Try.prog) 29 44 .i64 Try.underlying29 hi071 2 hsz71 A0_0 l0_0.length c0_0 x5_1 q071 q71
         have hr71 := Kd.C_drop (m := (x5_1 : Int).toNat) (c := c0_0) hC71 (by omega) hroom71
         obtain ⟨A71, hA71⟩ : ∃ A1, A1 = (if c0_0 = (x5_1 : Int).toNat then A0_0 else (A0_0 : Option Addr).map (·.add ((x5_1 : Int).toNat * 2))) := ⟨_, rfl⟩
         obtain ⟨c71, hc71⟩ : ∃ c1, c1 = c0_0 - (x5_1 : Int).toNat := ⟨_, rfl⟩
         have hy71 : y208.length = l0_0.length - (x5_1 : Int).toNat := (by rw [Ny208.out, List.length_drop] <;> omega)
         rw [show (l0_0).drop (x5_1 : Int).toNat = y208 from Ny208.out.symm] at hr71
         replace hr71 : Kd.C k44 _ A71 y208.length y208 := (by rw [hA71]; exact hr71)
         rw [← hy71, ← hA71, ← hc71] at hcut71
         have HR211 := Aside0.mk hr71
         have HC211 := Aside0.mk (show y208.length ≤ c71 from by rw [hy71, hc71]; exact Nat.sub_le_sub_right hroom71 _)
         clear hr71 hC71 hroom71 hi071 hsz71 hc71
         have KY71 := Aside0.mk hy71
         have KA71 := Aside0.mk hA71
         clear hy71 hA71
         replace q71 := eq_true q71
         refine start_ (n := 16) (S := fun w' => w'.cell? ⟨gb151, 0, none⟩ = some (.slice A0_0 l0_0.length c0_0) ∧ w'.cell? ⟨gb151, 1, none⟩ = some (.slice A0_1 l0_1.length c0_1) ∧ w'.cell? ⟨gb152, 0, none⟩ = some (.int .i64 a1_0) ∧ w'.cell? ⟨gb152, 1, none⟩ = some (.int .i64 a1_1)) (ds := []) #[false, false, false, false, false, false, false, false, false, false, false, false, false, false, false, false] (by kernel_rfl) rfl rfl ⟨(blk_cell BK151.out 0).trans rfl, (blk_cell BK151.out 1).trans rfl, (blk_cell BK152.out 0).trans rfl, (blk_cell BK152.out 1).trans rfl⟩ (fun hHeld => ?_); refine with_tabW spec_l2Put.tab5 spec_l2Put.bits5 (fun HT_ HW_ => ?_)
         generalize w68.drew = w69 at HO187 HO190 BK151 BK152 BK153 BK191 HB HR198 HR211 hHeld ⊢
         refine pA_ 1 (some 28) #[false, true, false, false, false, false, false, false, false, false, false, false, false, false, false, false] HT_.out (h := ?_)
         refine pA_ 3 (some 30) #[false, true, false, true, false, false, false, false, false, false, false, false, false, false, false, false] HT_.out (h := ?_)
         refine pA_ 9 (some 36) #[false, true, false, true, false, false, false, false, false, true, false, false, false, false, false, false] HT_.out (h := ?_)
         refine pA_ 11 (some 38) #[false, true, false, true, false, false, false, false, false, true, false, true, false, false, false, false] HT_.out (h := ?_)
         refine tA_ 2 (some 29) #[false, true, true, true, false, false, false, false, false, true, false, true, false, false, false, false] HT_.out HW_.out hHeld (h := ?_)
         refine pA_ 4 (some 31) #[false, true, true, true, true, false, false, false, false, true, false, true, false, false, false, false] HT_.out (h := ?_)
         refine tA_ 6 (some 33) #[false, true, true, true, true, false, true, false, false, true, false, true, false, false, false, false] HT_.out HW_.out hHeld (h := ?_)
         refine tA_ 10 (some 37) #[false, true, true, true, true, false, true, false, false, true, true, true, false, false, false, false] HT_.out HW_.out hHeld (h := ?_)
         refine pA_ 12 (some 39) #[false, true, true, true, true, false, true, false, false, true, true, true, true, false, false, false] HT_.out (h := ?_)
         refine join_ (σ := Value × Value × Value) 4 #[true, true, true, true, true, true, true, true, false, true, true, true, true, false, false, false] (fun s_ => [(27, s_.1), (32, s_.2.1), (34, s_.2.2)]) (fun s_ w' => (w'.cell? ⟨gb151, 0, none⟩ = some (.slice A0_0 l0_0.length c0_0) ∧ w'.cell? ⟨gb151, 1, none⟩ = some (.slice A0_1 l0_1.length c0_1) ∧ w'.cell? ⟨gb152, 0, none⟩ = some (.int .i64 a1_0) ∧ w'.cell? ⟨gb152, 1, none⟩ = some (.int .i64 a1_1)) ∧ (Kd.R k44 44 w' w.heap.size (fun k_ => some k_ ≠ (s_.2.1 : Value).ownBlock ∧ some k_ ≠ (s_.2.2 : Value).ownBlock ∧ k_ ≠ gb152) (.slice Ao62 t185.length co62) t185) ∧ (Kd.R k36 36 w' w.heap.size (fun _ => True) (.slice Ao67 t188.length co67) t188) ∧ (Kd.R k44 44 w' w.heap.size (fun k_ => some k_ ≠ (.slice Ao62 t185.length co62 : Value).ownBlock ∧ some k_ ≠ (s_.2.2 : Value).ownBlock ∧ k_ ≠ gb152) s_.2.1 y199) ∧ (Kd.R k44 44 w' w.heap.size (fun k_ => some k_ ≠ (.slice Ao62 t185.length co62 : Value).ownBlock ∧ some k_ ≠ (s_.2.1 : Value).ownBlock ∧ k_ ≠ gb152) s_.2.2 y202) ∧ (w'.heap[gb151]? = some (.cells #[.slice A0_0 l0_0.length c0_0, .slice A0_1 l0_1.length c0_1] 32 (0, 0))) ∧ (w'.heap[gb152]? = some (.cells #[.int .i64 a1_0, .int .i64 a1_1] 44 (0, 0))) ∧ (w'.heap[gb153]? = some (.cells #[.slice none 0 0, .slice none 0 0] 32 (0, 0))) ∧ (w'.heap[gb191]? = some (.cells #[.slice Ao62 t185.length co62, .slice Ao67 t188.length co67] 32 (0, 0))) ∧ (Below w.heap.size w w')) ?_ ?_
         rotate_left
         ·intro hCont
          refine two_ (i := 0) (j := 7) (Ni := some 27) (Nj := some 34) #[true, true, true, true, true, false, true, false, false, true, true, true, true, false, false, false] #[false, true, true, true, true, false, true, true, false, true, true, true, true, false, false, false] rfl rfl rfl rfl (two_of HT_.out (by kernel_rfl)) (by decide) (by decide) (fun K hK => ?_) (fun K hK => ?_)
          ·skip
           refine Kd.R_lit_step k44 _ 44 ?hg (N := 27) ?hd (xs := ([] : List (S44))) (inner := []) (ok := fun _ => True) (okp := fun _ => True) ?hr ?hp (fun _ hk => hk) trivial (Below.refl _ _) (Nat.le_refl _) (by simp) ?_; (case hd => rfl); (case hg => rfl); (case hr => first | (go_simp; done) | (go_simp; rfl)); (case hp => exact (Reps.none _ _))
           intro v193 w72 ho73 hb hg_ hnew_
           clear hg_ hnew_
           (first | rw [← Ny192.out] at ho73 | (simp only [Int.reduceToNat] at ho73; rw [← Ny192.out] at ho73))
           have n0_ := Aside0.mk (Kd.R_elder' (rz_ HO187.out) (Kd.R_base ho73) hb)
           have n1_ := Aside0.mk (Kd.R_below (rz_ HO190.out) hb)
           have n2_ := Aside0.mk (Kd.R_lower (Kd.R_newB (Kd.R_new' ho73 (Kd.R_lt (rz_ HO187.out))) (g := gb152) (o := .cells #[.int .i64 a1_0, .int .i64 a1_1] 44 (0, 0)) (bz_ BK152.out)) (below_size (by repeat (first | (with_reducible first | exact HB.out | apply below_alloc | apply pw_below_drewN | apply below_drew1 | refine below_set ?_ GE151.out | refine below_set ?_ GE152.out | refine below_set ?_ GE153.out | refine below_set ?_ GE191.out) | exact HB.out))))
           have n3_ := Aside0.mk (blk_below (bz_ BK151.out) hb)
           have n4_ := Aside0.mk (blk_below (bz_ BK152.out) hb)
           have n5_ := Aside0.mk (blk_below (bz_ BK153.out) hb)
           have n6_ := Aside0.mk (blk_below (bz_ BK191.out) hb)
           have n7_ := Aside0.mk (below_step (by repeat (first | (with_reducible first | exact HB.out | apply below_alloc | apply pw_below_drewN | apply below_drew1 | refine below_set ?_ GE151.out | refine below_set ?_ GE152.out | refine below_set ?_ GE153.out | refine below_set ?_ GE191.out) | exact HB.out)) hb)
           clear HO187
           clear HO190
           clear BK151
           clear BK152
           clear BK153
           clear BK191
           clear HB
           have HO187 := n0_
           have HO190 := n1_
           have HO194 := n2_
           have BK151 := n3_
           have BK152 := n4_
           have BK153 := n5_
           have BK191 := n6_
           have HB := n7_
           clear n0_ n1_ n2_ n3_ n4_ n5_ n6_ n7_
           clear hb ho73
           refine hK.out _ _ ⟨(blk_cell BK151.out 0).trans rfl, (blk_cell BK151.out 1).trans rfl, (blk_cell BK152.out 0).trans rfl, (blk_cell BK152.out 1).trans rfl⟩ (fun hHeld => ?_)
           clear hK K
           refine norm_ (a' := ?_) ?_ ?_
           rotate_left
           ·show Act.put _ (some 27) _ = _
            simp only [Act.put, List.setIfInBounds_toArray, List.set_cons_zero, List.set_cons_succ, i64_w, i32_w]
            rfl
           refine two_ (i := 5) (j := 7) (Ni := some 32) (Nj := some 34) #[true, true, true, true, true, true, true, false, false, true, true, true, true, false, false, false] #[true, true, true, true, true, false, true, true, false, true, true, true, true, false, false, false] rfl rfl rfl rfl (two_of HT_.out (by kernel_rfl)) (by decide) (by decide) (fun K hK => ?_) (fun K hK => ?_)
           ·skip
            refine Kd.R_append_rows_step k44 (w0 := w) w.heap.size (by rfl) (.tmp 27) (.tmp 31) 29 44 (.agg #[(.int .i64 0), (.int .i64 0)]) 16 rfl Try.underlying29 info44 rfl (by decide) (by omega) v193 y192 y195 _ _ _ (fun k_ => some k_ ≠ (.slice Ao62 t185.length co62 : Value).ownBlock ∧ k_ ≠ gb152) (fun _ => False) rfl rfl ?aO ?aR (fun _ _ h => h) (fun _ h => h.elim) ?aF ?aB ?aS ?aL ?_
            (case aR => exact cz_ (Kd.C_below HR198.out HB.out))
            (case aB => exact (by repeat (first | (with_reducible first | exact HB.out | apply below_alloc | apply pw_below_drewN | apply below_drew1 | refine below_set ?_ GE151.out | refine below_set ?_ GE152.out | refine below_set ?_ GE153.out | refine below_set ?_ GE191.out) | exact HB.out)))
            (case aF => exact (fun k_ hk => ⟨Kd.fresh' (Kd.R_lt (rz_ HO187.out)) k_ hk, Kd.freshB (g := gb152) (o := .cells #[.int .i64 a1_0, .int .i64 a1_1] 44 (0, 0)) (bz_ BK152.out) k_ hk⟩))
            (case aO => exact (rz_ (Kd.R_mono HO194.out (fun _ hk => ⟨hk.1.2, hk.2⟩))))
            (case aS => exact (below_size (by repeat (first | (with_reducible first | exact HB.out | apply below_alloc | apply pw_below_drewN | apply below_drew1 | refine below_set ?_ GE151.out | refine below_set ?_ GE152.out | refine below_set ?_ GE153.out | refine below_set ?_ GE191.out) | exact HB.out))))
            (case aL => have := LMc51.out; omega)
            intro v200 w74 ho hb hg hat
            rw [← Ny199.out] at ho
            have n0_ := Aside0.mk (blk_grown (g := gb151) (o := .cells #[.slice A0_0 l0_0.length c0_0, .slice A0_1 l0_1.length c0_1] 32 (0, 0)) (bz_ BK151.out) hg (Kd.R_ne HO194.out BK151.out (by decide)))
            have n1_ := Aside0.mk (blk_grown (g := gb152) (o := .cells #[.int .i64 a1_0, .int .i64 a1_1] 44 (0, 0)) (bz_ BK152.out) hg (Kd.R_away HO194.out (fun _ hk => hk.2)))
            have n2_ := Aside0.mk (blk_grown (g := gb153) (o := .cells #[.slice none 0 0, .slice none 0 0] 32 (0, 0)) (bz_ BK153.out) hg (Kd.R_ne HO194.out BK153.out (by decide)))
            have n3_ := Aside0.mk (Kd.R_after (ok := (fun k_ => k_ ≠ gb152)) (rz_ HO187.out) hg hat)
            have n4_ := Aside0.mk (Kd.R_over' (rz_ HO190.out) (Kd.R_typed (rz_ HO194.out)) (by decide) hg)
            have n5_ := Aside0.mk (blk_grown (g := gb191) (o := .cells #[.slice Ao62 t185.length co62, .slice Ao67 t188.length co67] 32 (0, 0)) (bz_ BK191.out) hg (Kd.R_ne HO194.out BK191.out (by decide)))
            have n6_ := Aside0.mk (hb)
            have n7_ := Aside0.mk (ho)
            clear BK151
            clear BK152
            clear BK153
            clear HO187
            clear HO190
            clear BK191
            clear HB
            clear HO194
            have BK151 := n0_
            have BK152 := n1_
            have BK153 := n2_
            have HO187 := n3_
            have HO190 := n4_
            have BK191 := n5_
            have HB := n6_
            have HO201 := n7_
            clear n0_ n1_ n2_ n3_ n4_ n5_ n6_ n7_
            clear ho hb hg hat
            refine hK.out _ _ ⟨(blk_cell BK151.out 0).trans rfl, (blk_cell BK151.out 1).trans rfl, (blk_cell BK152.out 0).trans rfl, (blk_cell BK152.out 1).trans rfl⟩ (fun hHeld => ?_)
            clear hK K
            refine norm_ (a' := ?_) ?_ ?_
            rotate_left
            ·show Act.put _ (some 32) _ = _
             simp only [Act.put, List.setIfInBounds_toArray, List.set_cons_zero, List.set_cons_succ, i64_w, i32_w]
             rfl
            refine one_ (i := 7) (N := some 34) #[true, true, true, true, true, true, true, true, false, true, true, true, true, false, false, false] rfl rfl (one_of HT_.out (by kernel_rfl)) (by decide) (fun K hK => ?_)
            refine Kd.R_lit_step k44 _ 44 ?hg (N := 34) ?hd (xs := ([(⟨a1_0, a1_1⟩ : S44)] : List (S44))) (inner := [.int .i64 a1_0, .int .i64 a1_1]) (ok := fun _ => True) (okp := fun _ => True) ?hr ?hp (fun _ hk => hk) trivial (Below.refl _ _) (Nat.le_refl _) (by simp) ?_; (case hd => rfl); (case hg => rfl); (case hr => first | (go_simp; done) | (go_simp; rfl)); (case hp => exact (Reps.c2 (show Kd.M k44 _ _ _ (⟨a1_0, a1_1⟩ : S44) [.int .i64 a1_0, .int .i64 a1_1] from (k44_mkM _ _ _ (⟨a1_0, a1_1⟩ : S44) )) (Reps.none _ _)))
            intro v203 w75 ho76 hb hg_ hnew_
            clear hg_ hnew_
            (first | rw [← Ny202.out] at ho76 | (simp only [Int.reduceToNat] at ho76; rw [← Ny202.out] at ho76))
            have n0_ := Aside0.mk (Kd.R_elder' (rz_ HO187.out) (Kd.R_base ho76) hb)
            have n1_ := Aside0.mk (Kd.R_below (rz_ HO190.out) hb)
            have n2_ := Aside0.mk (Kd.R_elder' (rz_ HO201.out) (Kd.R_base ho76) hb)
            have n3_ := Aside0.mk (Kd.R_lower (Kd.R_newB (Kd.R_new' (Kd.R_new' ho76 (Kd.R_lt (rz_ HO187.out))) (Kd.R_lt (rz_ HO201.out))) (g := gb152) (o := .cells #[.int .i64 a1_0, .int .i64 a1_1] 44 (0, 0)) (bz_ BK152.out)) (below_size (by repeat (first | (with_reducible first | exact HB.out | apply below_alloc | apply pw_below_drewN | apply below_drew1 | refine below_set ?_ GE151.out | refine below_set ?_ GE152.out | refine below_set ?_ GE153.out | refine below_set ?_ GE191.out) | exact HB.out))))
            have n4_ := Aside0.mk (blk_below (bz_ BK151.out) hb)
            have n5_ := Aside0.mk (blk_below (bz_ BK152.out) hb)
            have n6_ := Aside0.mk (blk_below (bz_ BK153.out) hb)
            have n7_ := Aside0.mk (blk_below (bz_ BK191.out) hb)
            have n8_ := Aside0.mk (below_step (by repeat (first | (with_reducible first | exact HB.out | apply below_alloc | apply pw_below_drewN | apply below_drew1 | refine below_set ?_ GE151.out | refine below_set ?_ GE152.out | refine below_set ?_ GE153.out | refine below_set ?_ GE191.out) | exact HB.out)) hb)
            clear HO187
            clear HO190
            clear HO201
            clear BK151
            clear BK152
            clear BK153
            clear BK191
            clear HB
            have HO187 := n0_
            have HO190 := n1_
            have HO201 := n2_
            have HO204 := n3_
            have BK151 := n4_
            have BK152 := n5_
            have BK153 := n6_
            have BK191 := n7_
            have HB := n8_
            clear n0_ n1_ n2_ n3_ n4_ n5_ n6_ n7_ n8_
            clear hb ho76
            refine hK.out _ _ ⟨(blk_cell BK151.out 0).trans rfl, (blk_cell BK151.out 1).trans rfl, (blk_cell BK152.out 0).trans rfl, (blk_cell BK152.out 1).trans rfl⟩ (fun hHeld => ?_)
            clear hK K
            refine norm_ (a' := ?_) ?_ ?_
            rotate_left
            ·show Act.put _ (some 34) _ = _
             simp only [Act.put, List.setIfInBounds_toArray, List.set_cons_zero, List.set_cons_succ, i64_w, i32_w]
             rfl
            exact norm_ (by simp only [putAll, Act.put, List.setIfInBounds_toArray, List.set_cons_zero, List.set_cons_succ]) (hCont (v193, v200, v203) _ ⟨hHeld, (rz_ (Kd.R_mono HO187.out (fun _ hk => ⟨hk.1.2, ⟨hk.2, hk.1.1⟩⟩))), (rz_ HO190.out), (rz_ (Kd.R_mono HO201.out (fun _ hk => ⟨hk.1.1, ⟨hk.2, hk.1.2⟩⟩))), (rz_ (Kd.R_mono HO204.out (fun _ hk => ⟨hk.1.1.2, ⟨hk.1.2, hk.2⟩⟩))), (bz_ BK151.out), (bz_ BK152.out), (bz_ BK153.out), (bz_ BK191.out), (by repeat (first | (with_reducible first | exact HB.out | apply below_alloc | apply pw_below_drewN | apply below_drew1 | refine below_set ?_ GE151.out | refine below_set ?_ GE152.out | refine below_set ?_ GE153.out | refine below_set ?_ GE191.out) | exact HB.out))⟩)
           ·skip
            refine Kd.R_lit_step k44 _ 44 ?hg (N := 34) ?hd (xs := ([(⟨a1_0, a1_1⟩ : S44)] : List (S44))) (inner := [.int .i64 a1_0, .int .i64 a1_1]) (ok := fun _ => True) (okp := fun _ => True) ?hr ?hp (fun _ hk => hk) trivial (Below.refl _ _) (Nat.le_refl _) (by simp) ?_; (case hd => rfl); (case hg => rfl); (case hr => first | (go_simp; done) | (go_simp; rfl)); (case hp => exact (Reps.c2 (show Kd.M k44 _ _ _ (⟨a1_0, a1_1⟩ : S44) [.int .i64 a1_0, .int .i64 a1_1] from (k44_mkM _ _ _ (⟨a1_0, a1_1⟩ : S44) )) (Reps.none _ _)))
            intro v203 w74 ho75 hb hg_ hnew_
            clear hg_ hnew_
            (first | rw [← Ny202.out] at ho75 | (simp only [Int.reduceToNat] at ho75; rw [← Ny202.out] at ho75))
            have n0_ := Aside0.mk (Kd.R_elder' (rz_ HO187.out) (Kd.R_base ho75) hb)
            have n1_ := Aside0.mk (Kd.R_below (rz_ HO190.out) hb)
            have n2_ := Aside0.mk (Kd.R_elder' (rz_ HO194.out) (Kd.R_base ho75) hb)
            have n3_ := Aside0.mk (Kd.R_lower (Kd.R_newB (Kd.R_new' (Kd.R_new' ho75 (Kd.R_lt (rz_ HO187.out))) (Kd.R_lt (rz_ HO194.out))) (g := gb152) (o := .cells #[.int .i64 a1_0, .int .i64 a1_1] 44 (0, 0)) (bz_ BK152.out)) (below_size (by repeat (first | (with_reducible first | exact HB.out | apply below_alloc | apply pw_below_drewN | apply below_drew1 | refine below_set ?_ GE151.out | refine below_set ?_ GE152.out | refine below_set ?_ GE153.out | refine below_set ?_ GE191.out) | exact HB.out))))
            have n4_ := Aside0.mk (blk_below (bz_ BK151.out) hb)
            have n5_ := Aside0.mk (blk_below (bz_ BK152.out) hb)
            have n6_ := Aside0.mk (blk_below (bz_ BK153.out) hb)
            have n7_ := Aside0.mk (blk_below (bz_ BK191.out) hb)
            have n8_ := Aside0.mk (below_step (by repeat (first | (with_reducible first | exact HB.out | apply below_alloc | apply pw_below_drewN | apply below_drew1 | refine below_set ?_ GE151.out | refine below_set ?_ GE152.out | refine below_set ?_ GE153.out | refine below_set ?_ GE191.out) | exact HB.out)) hb)
            clear HO187
            clear HO190
            clear HO194
            clear BK151
            clear BK152
            clear BK153
            clear BK191
            clear HB
            have HO187 := n0_
            have HO190 := n1_
            have HO194 := n2_
            have HO204 := n3_
            have BK151 := n4_
            have BK152 := n5_
            have BK153 := n6_
            have BK191 := n7_
            have HB := n8_
            clear n0_ n1_ n2_ n3_ n4_ n5_ n6_ n7_ n8_
            clear hb ho75
            refine hK.out _ _ ⟨(blk_cell BK151.out 0).trans rfl, (blk_cell BK151.out 1).trans rfl, (blk_cell BK152.out 0).trans rfl, (blk_cell BK152.out 1).trans rfl⟩ (fun hHeld => ?_)
            clear hK K
            refine norm_ (a' := ?_) ?_ ?_
            rotate_left
            ·show Act.put _ (some 34) _ = _
             simp only [Act.put, List.setIfInBounds_toArray, List.set_cons_zero, List.set_cons_succ, i64_w, i32_w]
             rfl
            refine one_ (i := 5) (N := some 32) #[true, true, true, true, true, true, true, true, false, true, true, true, true, false, false, false] rfl rfl (one_of HT_.out (by kernel_rfl)) (by decide) (fun K hK => ?_)
            refine Kd.R_append_rows_step k44 (w0 := w) w.heap.size (by rfl) (.tmp 27) (.tmp 31) 29 44 (.agg #[(.int .i64 0), (.int .i64 0)]) 16 rfl Try.underlying29 info44 rfl (by decide) (by omega) v193 y192 y195 _ _ _ (fun k_ => some k_ ≠ (.slice Ao62 t185.length co62 : Value).ownBlock ∧ some k_ ≠ (v203 : Value).ownBlock ∧ k_ ≠ gb152) (fun _ => False) rfl rfl ?aO ?aR (fun _ _ h => h) (fun _ h => h.elim) ?aF ?aB ?aS ?aL ?_
            (case aR => exact cz_ (Kd.C_below HR198.out HB.out))
            (case aB => exact (by repeat (first | (with_reducible first | exact HB.out | apply below_alloc | apply pw_below_drewN | apply below_drew1 | refine below_set ?_ GE151.out | refine below_set ?_ GE152.out | refine below_set ?_ GE153.out | refine below_set ?_ GE191.out) | exact HB.out)))
            (case aF => exact (fun k_ hk => ⟨Kd.fresh' (Kd.R_lt (rz_ HO187.out)) k_ hk, Kd.fresh' (Kd.R_lt (rz_ HO204.out)) k_ hk, Kd.freshB (g := gb152) (o := .cells #[.int .i64 a1_0, .int .i64 a1_1] 44 (0, 0)) (bz_ BK152.out) k_ hk⟩))
            (case aO => exact (rz_ (Kd.R_mono HO194.out (fun _ hk => ⟨hk.1.1.2, ⟨hk.2, hk.1.2⟩⟩))))
            (case aS => exact (below_size (by repeat (first | (with_reducible first | exact HB.out | apply below_alloc | apply pw_below_drewN | apply below_drew1 | refine below_set ?_ GE151.out | refine below_set ?_ GE152.out | refine below_set ?_ GE153.out | refine below_set ?_ GE191.out) | exact HB.out))))
            (case aL => have := LMc51.out; omega)
            intro v200 w76 ho hb hg hat
            rw [← Ny199.out] at ho
            have n0_ := Aside0.mk (blk_grown (g := gb151) (o := .cells #[.slice A0_0 l0_0.length c0_0, .slice A0_1 l0_1.length c0_1] 32 (0, 0)) (bz_ BK151.out) hg (Kd.R_ne HO194.out BK151.out (by decide)))
            have n1_ := Aside0.mk (blk_grown (g := gb152) (o := .cells #[.int .i64 a1_0, .int .i64 a1_1] 44 (0, 0)) (bz_ BK152.out) hg (Kd.R_away HO194.out (fun _ hk => hk.1.2)))
            have n2_ := Aside0.mk (blk_grown (g := gb153) (o := .cells #[.slice none 0 0, .slice none 0 0] 32 (0, 0)) (bz_ BK153.out) hg (Kd.R_ne HO194.out BK153.out (by decide)))
            have n3_ := Aside0.mk (Kd.R_after (ok := (fun k_ => some k_ ≠ (v203 : Value).ownBlock ∧ k_ ≠ gb152)) (rz_ (Kd.R_mono HO187.out (fun _ hk => ⟨⟨hk.2, hk.1.1⟩, hk.1.2⟩))) hg hat)
            have n4_ := Aside0.mk (Kd.R_over' (rz_ HO190.out) (Kd.R_typed (rz_ HO194.out)) (by decide) hg)
            have n5_ := Aside0.mk (blk_grown (g := gb191) (o := .cells #[.slice Ao62 t185.length co62, .slice Ao67 t188.length co67] 32 (0, 0)) (bz_ BK191.out) hg (Kd.R_ne HO194.out BK191.out (by decide)))
            have n6_ := Aside0.mk (Kd.R_after (ok := (fun k_ => some k_ ≠ (.slice Ao62 t185.length co62 : Value).ownBlock ∧ k_ ≠ gb152)) (rz_ (Kd.R_mono HO204.out (fun _ hk => ⟨⟨hk.1.1.2, hk.2⟩, hk.1.2⟩))) hg hat)
            have n7_ := Aside0.mk (hb)
            have n8_ := Aside0.mk (ho)
            clear BK151
            clear BK152
            clear BK153
            clear HO187
            clear HO190
            clear BK191
            clear HO204
            clear HB
            clear HO194
            have BK151 := n0_
            have BK152 := n1_
            have BK153 := n2_
            have HO187 := n3_
            have HO190 := n4_
            have BK191 := n5_
            have HO204 := n6_
            have HB := n7_
            have HO201 := n8_
            clear n0_ n1_ n2_ n3_ n4_ n5_ n6_ n7_ n8_
            clear ho hb hg hat
            refine hK.out _ _ ⟨(blk_cell BK151.out 0).trans rfl, (blk_cell BK151.out 1).trans rfl, (blk_cell BK152.out 0).trans rfl, (blk_cell BK152.out 1).trans rfl⟩ (fun hHeld => ?_)
            clear hK K
            refine norm_ (a' := ?_) ?_ ?_
            rotate_left
            ·show Act.put _ (some 32) _ = _
             simp only [Act.put, List.setIfInBounds_toArray, List.set_cons_zero, List.set_cons_succ, i64_w, i32_w]
             rfl
            exact norm_ (by simp only [putAll, Act.put, List.setIfInBounds_toArray, List.set_cons_zero, List.set_cons_succ]) (hCont (v193, v200, v203) _ ⟨hHeld, (rz_ (Kd.R_mono HO187.out (fun _ hk => ⟨hk.2, ⟨hk.1.1, hk.1.2⟩⟩))), (rz_ HO190.out), (rz_ HO201.out), (rz_ (Kd.R_mono HO204.out (fun _ hk => ⟨hk.1.1, ⟨hk.2, hk.1.2⟩⟩))), (bz_ BK151.out), (bz_ BK152.out), (bz_ BK153.out), (bz_ BK191.out), (by repeat (first | (with_reducible first | exact HB.out | apply below_alloc | apply pw_below_drewN | apply below_drew1 | refine below_set ?_ GE151.out | refine below_set ?_ GE152.out | refine below_set ?_ GE153.out | refine below_set ?_ GE191.out) | exact HB.out))⟩)
          ·skip
           refine Kd.R_lit_step k44 _ 44 ?hg (N := 34) ?hd (xs := ([(⟨a1_0, a1_1⟩ : S44)] : List (S44))) (inner := [.int .i64 a1_0, .int .i64 a1_1]) (ok := fun _ => True) (okp := fun _ => True) ?hr ?hp (fun _ hk => hk) trivial (Below.refl _ _) (Nat.le_refl _) (by simp) ?_; (case hd => rfl); (case hg => rfl); (case hr => first | (go_simp; done) | (go_simp; rfl)); (case hp => exact (Reps.c2 (show Kd.M k44 _ _ _ (⟨a1_0, a1_1⟩ : S44) [.int .i64 a1_0, .int .i64 a1_1] from (k44_mkM _ _ _ (⟨a1_0, a1_1⟩ : S44) )) (Reps.none _ _)))
           intro v203 w72 ho73 hb hg_ hnew_
           clear hg_ hnew_
           (first | rw [← Ny202.out] at ho73 | (simp only [Int.reduceToNat] at ho73; rw [← Ny202.out] at ho73))
           have n0_ := Aside0.mk (Kd.R_elder' (rz_ HO187.out) (Kd.R_base ho73) hb)
           have n1_ := Aside0.mk (Kd.R_below (rz_ HO190.out) hb)
           have n2_ := Aside0.mk (Kd.R_lower (Kd.R_newB (Kd.R_new' ho73 (Kd.R_lt (rz_ HO187.out))) (g := gb152) (o := .cells #[.int .i64 a1_0, .int .i64 a1_1] 44 (0, 0)) (bz_ BK152.out)) (below_size (by repeat (first | (with_reducible first | exact HB.out | apply below_alloc | apply pw_below_drewN | apply below_drew1 | refine below_set ?_ GE151.out | refine below_set ?_ GE152.out | refine below_set ?_ GE153.out | refine below_set ?_ GE191.out) | exact HB.out))))
           have n3_ := Aside0.mk (blk_below (bz_ BK151.out) hb)
           have n4_ := Aside0.mk (blk_below (bz_ BK152.out) hb)
           have n5_ := Aside0.mk (blk_below (bz_ BK153.out) hb)
           have n6_ := Aside0.mk (blk_below (bz_ BK191.out) hb)
           have n7_ := Aside0.mk (below_step (by repeat (first | (with_reducible first | exact HB.out | apply below_alloc | apply pw_below_drewN | apply below_drew1 | refine below_set ?_ GE151.out | refine below_set ?_ GE152.out | refine below_set ?_ GE153.out | refine below_set ?_ GE191.out) | exact HB.out)) hb)
           clear HO187
           clear HO190
           clear BK151
           clear BK152
           clear BK153
           clear BK191
           clear HB
           have HO187 := n0_
           have HO190 := n1_
           have HO204 := n2_
           have BK151 := n3_
           have BK152 := n4_
           have BK153 := n5_
           have BK191 := n6_
           have HB := n7_
           clear n0_ n1_ n2_ n3_ n4_ n5_ n6_ n7_
           clear hb ho73
           refine hK.out _ _ ⟨(blk_cell BK151.out 0).trans rfl, (blk_cell BK151.out 1).trans rfl, (blk_cell BK152.out 0).trans rfl, (blk_cell BK152.out 1).trans rfl⟩ (fun hHeld => ?_)
           clear hK K
           refine norm_ (a' := ?_) ?_ ?_
           rotate_left
           ·show Act.put _ (some 34) _ = _
            simp only [Act.put, List.setIfInBounds_toArray, List.set_cons_zero, List.set_cons_succ, i64_w, i32_w]
            rfl
           refine one_ (i := 0) (N := some 27) #[true, true, true, true, true, false, true, true, false, true, true, true, true, false, false, false] rfl rfl (one_of HT_.out (by kernel_rfl)) (by decide) (fun K hK => ?_)
           refine Kd.R_lit_step k44 _ 44 ?hg (N := 27) ?hd (xs := ([] : List (S44))) (inner := []) (ok := fun _ => True) (okp := fun _ => True) ?hr ?hp (fun _ hk => hk) trivial (Below.refl _ _) (Nat.le_refl _) (by simp) ?_; (case hd => rfl); (case hg => rfl); (case hr => first | (go_simp; done) | (go_simp; rfl)); (case hp => exact (Reps.none _ _))
           intro v193 w74 ho75 hb hg_ hnew_
           clear hg_ hnew_
           (first | rw [← Ny192.out] at ho75 | (simp only [Int.reduceToNat] at ho75; rw [← Ny192.out] at ho75))
           have n0_ := Aside0.mk (Kd.R_elder' (rz_ HO187.out) (Kd.R_base ho75) hb)
           have n1_ := Aside0.mk (Kd.R_below (rz_ HO190.out) hb)
           have n2_ := Aside0.mk (Kd.R_elder' (rz_ HO204.out) (Kd.R_base ho75) hb)
           have n3_ := Aside0.mk (Kd.R_lower (Kd.R_newB (Kd.R_new' (Kd.R_new' ho75 (Kd.R_lt (rz_ HO187.out))) (Kd.R_lt (rz_ HO204.out))) (g := gb152) (o := .cells #[.int .i64 a1_0, .int .i64 a1_1] 44 (0, 0)) (bz_ BK152.out)) (below_size (by repeat (first | (with_reducible first | exact HB.out | apply below_alloc | apply pw_below_drewN | apply below_drew1 | refine below_set ?_ GE151.out | refine below_set ?_ GE152.out | refine below_set ?_ GE153.out | refine below_set ?_ GE191.out) | exact HB.out))))
           have n4_ := Aside0.mk (blk_below (bz_ BK151.out) hb)
           have n5_ := Aside0.mk (blk_below (bz_ BK152.out) hb)
           have n6_ := Aside0.mk (blk_below (bz_ BK153.out) hb)
           have n7_ := Aside0.mk (blk_below (bz_ BK191.out) hb)
           have n8_ := Aside0.mk (below_step (by repeat (first | (with_reducible first | exact HB.out | apply below_alloc | apply pw_below_drewN | apply below_drew1 | refine below_set ?_ GE151.out | refine below_set ?_ GE152.out | refine below_set ?_ GE153.out | refine below_set ?_ GE191.out) | exact HB.out)) hb)
           clear HO187
           clear HO190
           clear HO204
           clear BK151
           clear BK152
           clear BK153
           clear BK191
           clear HB
           have HO187 := n0_
           have HO190 := n1_
           have HO204 := n2_
           have HO194 := n3_
           have BK151 := n4_
           have BK152 := n5_
           have BK153 := n6_
           have BK191 := n7_
           have HB := n8_
           clear n0_ n1_ n2_ n3_ n4_ n5_ n6_ n7_ n8_
           clear hb ho75
           refine hK.out _ _ ⟨(blk_cell BK151.out 0).trans rfl, (blk_cell BK151.out 1).trans rfl, (blk_cell BK152.out 0).trans rfl, (blk_cell BK152.out 1).trans rfl⟩ (fun hHeld => ?_)
           clear hK K
           refine norm_ (a' := ?_) ?_ ?_
           rotate_left
           ·show Act.put _ (some 27) _ = _
            simp only [Act.put, List.setIfInBounds_toArray, List.set_cons_zero, List.set_cons_succ, i64_w, i32_w]
            rfl
           refine one_ (i := 5) (N := some 32) #[true, true, true, true, true, true, true, true, false, true, true, true, true, false, false, false] rfl rfl (one_of HT_.out (by kernel_rfl)) (by decide) (fun K hK => ?_)
           refine Kd.R_append_rows_step k44 (w0 := w) w.heap.size (by rfl) (.tmp 27) (.tmp 31) 29 44 (.agg #[(.int .i64 0), (.int .i64 0)]) 16 rfl Try.underlying29 info44 rfl (by decide) (by omega) v193 y192 y195 _ _ _ (fun k_ => some k_ ≠ (.slice Ao62 t185.length co62 : Value).ownBlock ∧ some k_ ≠ (v203 : Value).ownBlock ∧ k_ ≠ gb152) (fun _ => False) rfl rfl ?aO ?aR (fun _ _ h => h) (fun _ h => h.elim) ?aF ?aB ?aS ?aL ?_
           (case aR => exact cz_ (Kd.C_below HR198.out HB.out))
           (case aB => exact (by repeat (first | (with_reducible first | exact HB.out | apply below_alloc | apply pw_below_drewN | apply below_drew1 | refine below_set ?_ GE151.out | refine below_set ?_ GE152.out | refine below_set ?_ GE153.out | refine below_set ?_ GE191.out) | exact HB.out)))
           (case aF => exact (fun k_ hk => ⟨Kd.fresh' (Kd.R_lt (rz_ HO187.out)) k_ hk, Kd.fresh' (Kd.R_lt (rz_ HO204.out)) k_ hk, Kd.freshB (g := gb152) (o := .cells #[.int .i64 a1_0, .int .i64 a1_1] 44 (0, 0)) (bz_ BK152.out) k_ hk⟩))
           (case aO => exact (rz_ (Kd.R_mono HO194.out (fun _ hk => ⟨hk.1.1.2, ⟨hk.1.2, hk.2⟩⟩))))
           (case aS => exact (below_size (by repeat (first | (with_reducible first | exact HB.out | apply below_alloc | apply pw_below_drewN | apply below_drew1 | refine below_set ?_ GE151.out | refine below_set ?_ GE152.out | refine below_set ?_ GE153.out | refine below_set ?_ GE191.out) | exact HB.out))))
           (case aL => have := LMc51.out; omega)
           intro v200 w76 ho hb hg hat
           rw [← Ny199.out] at ho
           have n0_ := Aside0.mk (blk_grown (g := gb151) (o := .cells #[.slice A0_0 l0_0.length c0_0, .slice A0_1 l0_1.length c0_1] 32 (0, 0)) (bz_ BK151.out) hg (Kd.R_ne HO194.out BK151.out (by decide)))
           have n1_ := Aside0.mk (blk_grown (g := gb152) (o := .cells #[.int .i64 a1_0, .int .i64 a1_1] 44 (0, 0)) (bz_ BK152.out) hg (Kd.R_away HO194.out (fun _ hk => hk.2)))
           have n2_ := Aside0.mk (blk_grown (g := gb153) (o := .cells #[.slice none 0 0, .slice none 0 0] 32 (0, 0)) (bz_ BK153.out) hg (Kd.R_ne HO194.out BK153.out (by decide)))
           have n3_ := Aside0.mk (Kd.R_after (ok := (fun k_ => some k_ ≠ (v203 : Value).ownBlock ∧ k_ ≠ gb152)) (rz_ (Kd.R_mono HO187.out (fun _ hk => ⟨⟨hk.1.2, hk.1.1⟩, hk.2⟩))) hg hat)
           have n4_ := Aside0.mk (Kd.R_over' (rz_ HO190.out) (Kd.R_typed (rz_ HO194.out)) (by decide) hg)
           have n5_ := Aside0.mk (blk_grown (g := gb191) (o := .cells #[.slice Ao62 t185.length co62, .slice Ao67 t188.length co67] 32 (0, 0)) (bz_ BK191.out) hg (Kd.R_ne HO194.out BK191.out (by decide)))
           have n6_ := Aside0.mk (Kd.R_after (ok := (fun k_ => some k_ ≠ (.slice Ao62 t185.length co62 : Value).ownBlock ∧ k_ ≠ gb152)) (rz_ (Kd.R_mono HO204.out (fun _ hk => ⟨⟨hk.1.1.2, hk.1.2⟩, hk.2⟩))) hg hat)
           have n7_ := Aside0.mk (hb)
           have n8_ := Aside0.mk (ho)
           clear BK151
           clear BK152
           clear BK153
           clear HO187
           clear HO190
           clear BK191
           clear HO204
           clear HB
           clear HO194
           have BK151 := n0_
           have BK152 := n1_
           have BK153 := n2_
           have HO187 := n3_
           have HO190 := n4_
           have BK191 := n5_
           have HO204 := n6_
           have HB := n7_
           have HO201 := n8_
           clear n0_ n1_ n2_ n3_ n4_ n5_ n6_ n7_ n8_
           clear ho hb hg hat
           refine hK.out _ _ ⟨(blk_cell BK151.out 0).trans rfl, (blk_cell BK151.out 1).trans rfl, (blk_cell BK152.out 0).trans rfl, (blk_cell BK152.out 1).trans rfl⟩ (fun hHeld => ?_)
           clear hK K
           refine norm_ (a' := ?_) ?_ ?_
           rotate_left
           ·show Act.put _ (some 32) _ = _
            simp only [Act.put, List.setIfInBounds_toArray, List.set_cons_zero, List.set_cons_succ, i64_w, i32_w]
            rfl
           exact norm_ (by simp only [putAll, Act.put, List.setIfInBounds_toArray, List.set_cons_zero, List.set_cons_succ]) (hCont (v193, v200, v203) _ ⟨hHeld, (rz_ (Kd.R_mono HO187.out (fun _ hk => ⟨hk.2, ⟨hk.1.1, hk.1.2⟩⟩))), (rz_ HO190.out), (rz_ HO201.out), (rz_ (Kd.R_mono HO204.out (fun _ hk => ⟨hk.1.1, ⟨hk.2, hk.1.2⟩⟩))), (bz_ BK151.out), (bz_ BK152.out), (bz_ BK153.out), (bz_ BK191.out), (by repeat (first | (with_reducible first | exact HB.out | apply below_alloc | apply pw_below_drewN | apply below_drew1 | refine below_set ?_ GE151.out | refine below_set ?_ GE152.out | refine below_set ?_ GE153.out | refine below_set ?_ GE191.out) | exact HB.out))⟩)
         rintro ⟨v193, v200, v203⟩ w77 ⟨hS_, h0_, h1_, h2_, h3_, h4_, h5_, h6_, h7_, h8_⟩
         have n0_ : Aside0 (Kd.R k44 44 w77 w.heap.size (fun k_ => some k_ ≠ (v200 : Value).ownBlock ∧ some k_ ≠ (v203 : Value).ownBlock ∧ k_ ≠ gb152) (.slice Ao62 t185.length co62) t185) := ⟨h0_⟩
         have n1_ : Aside0 (Kd.R k36 36 w77 w.heap.size (fun _ => True) (.slice Ao67 t188.length co67) t188) := ⟨h1_⟩
         have n2_ : Aside0 (Kd.R k44 44 w77 w.heap.size (fun k_ => some k_ ≠ (.slice Ao62 t185.length co62 : Value).ownBlock ∧ some k_ ≠ (v203 : Value).ownBlock ∧ k_ ≠ gb152) v200 y199) := ⟨h2_⟩
         have n3_ : Aside0 (Kd.R k44 44 w77 w.heap.size (fun k_ => some k_ ≠ (.slice Ao62 t185.length co62 : Value).ownBlock ∧ some k_ ≠ (v200 : Value).ownBlock ∧ k_ ≠ gb152) v203 y202) := ⟨h3_⟩
         have n4_ : Aside0 (w77.heap[gb151]? = some (.cells #[.slice A0_0 l0_0.length c0_0, .slice A0_1 l0_1.length c0_1] 32 (0, 0))) := ⟨h4_⟩
         have n5_ : Aside0 (w77.heap[gb152]? = some (.cells #[.int .i64 a1_0, .int .i64 a1_1] 44 (0, 0))) := ⟨h5_⟩
         have n6_ : Aside0 (w77.heap[gb153]? = some (.cells #[.slice none 0 0, .slice none 0 0] 32 (0, 0))) := ⟨h6_⟩
         have n7_ : Aside0 (w77.heap[gb191]? = some (.cells #[.slice Ao62 t185.length co62, .slice Ao67 t188.length co67] 32 (0, 0))) := ⟨h7_⟩
         have n8_ : Aside0 (Below w.heap.size w w77) := ⟨h8_⟩
         clear HO187
         clear HO190
         clear BK151
         clear BK152
         clear BK153
         clear BK191
         clear HB
         clear h0_ h1_ h2_ h3_ h4_ h5_ h6_ h7_ h8_
         have HO187 := n0_
         have HO190 := n1_
         have HO201 := n2_
         have HO204 := n3_
         have BK151 := n4_
         have BK152 := n5_
         have BK153 := n6_
         have BK191 := n7_
         have HB := n8_
         clear n0_ n1_ n2_ n3_ n4_ n5_ n6_ n7_ n8_
         have hHeld : w77.cell? ⟨gb151, 0, none⟩ = some (.slice A0_0 l0_0.length c0_0) ∧ w77.cell? ⟨gb151, 1, none⟩ = some (.slice A0_1 l0_1.length c0_1) ∧ w77.cell? ⟨gb152, 0, none⟩ = some (.int .i64 a1_0) ∧ w77.cell? ⟨gb152, 1, none⟩ = some (.int .i64 a1_1) := hS_
         obtain ⟨Ao79, co79, eo79⟩ := Kd.R_slice HO204.out
         (first | subst eo79 | (injection eo79 with f1_ f2_ f3_; have f4_ := f1_.symm; have f5_ := f3_.symm; clear f1_ f2_ f3_; subst f4_; subst f5_))
         refine norm_ (a' := ?_) ?_ ?_
         rotate_left
         ·simp only [putAll, Act.put, List.setIfInBounds_toArray, List.set_cons_zero, List.set_cons_succ]
          rfl
         refine one_ (i := 8) (N := some 35) (bl 13 16) rfl rfl (one_of HT_.out (by kernel_rfl)) (by decide) (fun K hK => ?_)
         refine Kd.R_append_rows_step k44 (w0 := w) w.heap.size (by rfl) (.tmp 32) (.tmp 34) 29 44 (.agg #[(.int .i64 0), (.int .i64 0)]) 16 rfl Try.underlying29 info44 rfl (by decide) (by omega) v200 y199 y202 _ _ _ (fun k_ => some k_ ≠ (.slice Ao62 t185.length co62 : Value).ownBlock ∧ some k_ ≠ (.slice Ao79 y202.length co79 : Value).ownBlock ∧ k_ ≠ gb152) (fun _ => False) rfl rfl ?aO ?aR (fun _ _ h => h) (fun _ h => h.elim) ?aF ?aB ?aS ?aL ?_
         (case aR => exact cz_ (Kd.R_reads' HO204.out).2.2)
         (case aB => exact (by repeat (first | (with_reducible first | exact HB.out | apply below_alloc | apply pw_below_drewN | apply below_drew1 | refine below_set ?_ GE151.out | refine below_set ?_ GE152.out | refine below_set ?_ GE153.out | refine below_set ?_ GE191.out) | exact HB.out)))
         (case aF => exact (fun k_ hk => ⟨Kd.fresh' (Kd.R_lt (rz_ HO187.out)) k_ hk, Kd.fresh' (Kd.R_lt (rz_ HO204.out)) k_ hk, Kd.freshB (g := gb152) (o := .cells #[.int .i64 a1_0, .int .i64 a1_1] 44 (0, 0)) (bz_ BK152.out) k_ hk⟩))
         (case aO => exact (rz_ HO201.out))
         (case aS => exact (below_size (by repeat (first | (with_reducible first | exact HB.out | apply below_alloc | apply pw_below_drewN | apply below_drew1 | refine below_set ?_ GE151.out | refine below_set ?_ GE152.out | refine below_set ?_ GE153.out | refine below_set ?_ GE191.out) | exact HB.out))))
         (case aL => have := LMc52.out; omega)
         intro v206 w78 ho hb hg hat
         rw [← Ny205.out] at ho
         have n0_ := Aside0.mk (blk_grown (g := gb151) (o := .cells #[.slice A0_0 l0_0.length c0_0, .slice A0_1 l0_1.length c0_1] 32 (0, 0)) (bz_ BK151.out) hg (Kd.R_ne HO201.out BK151.out (by decide)))
         have n1_ := Aside0.mk (blk_grown (g := gb152) (o := .cells #[.int .i64 a1_0, .int .i64 a1_1] 44 (0, 0)) (bz_ BK152.out) hg (Kd.R_away HO201.out (fun _ hk => hk.2.2)))
         have n2_ := Aside0.mk (blk_grown (g := gb153) (o := .cells #[.slice none 0 0, .slice none 0 0] 32 (0, 0)) (bz_ BK153.out) hg (Kd.R_ne HO201.out BK153.out (by decide)))
         have n3_ := Aside0.mk (Kd.R_after (ok := (fun k_ => some k_ ≠ (.slice Ao79 y202.length co79 : Value).ownBlock ∧ k_ ≠ gb152)) (rz_ (Kd.R_mono HO187.out (fun _ hk => ⟨⟨hk.2.1, hk.2.2⟩, hk.1⟩))) hg hat)
         have n4_ := Aside0.mk (Kd.R_over' (rz_ HO190.out) (Kd.R_typed (rz_ HO201.out)) (by decide) hg)
         have n5_ := Aside0.mk (blk_grown (g := gb191) (o := .cells #[.slice Ao62 t185.length co62, .slice Ao67 t188.length co67] 32 (0, 0)) (bz_ BK191.out) hg (Kd.R_ne HO201.out BK191.out (by decide)))
         have n6_ := Aside0.mk (Kd.R_after (ok := (fun k_ => some k_ ≠ (.slice Ao62 t185.length co62 : Value).ownBlock ∧ k_ ≠ gb152)) (rz_ (Kd.R_mono HO204.out (fun _ hk => ⟨⟨hk.1, hk.2.2⟩, hk.2.1⟩))) hg hat)
         have n7_ := Aside0.mk (hb)
         have n8_ := Aside0.mk (ho)
         clear BK151
         clear BK152
         clear BK153
         clear HO187
         clear HO190
         clear BK191
         clear HO204
         clear HB
         clear HO201
         have BK151 := n0_
         have BK152 := n1_
         have BK153 := n2_
         have HO187 := n3_
         have HO190 := n4_
         have BK191 := n5_
         have HO204 := n6_
         have HB := n7_
         have HO207 := n8_
         clear n0_ n1_ n2_ n3_ n4_ n5_ n6_ n7_ n8_
         clear ho hb hg hat
         refine hK.out _ _ ⟨(blk_cell BK151.out 0).trans rfl, (blk_cell BK151.out 1).trans rfl, (blk_cell BK152.out 0).trans rfl, (blk_cell BK152.out 1).trans rfl⟩ (fun hHeld => ?_)
         clear hK K
         refine norm_ (a' := ?_) ?_ ?_
         rotate_left
         ·show Act.put _ (some 35) _ = _
          simp only [Act.put, List.setIfInBounds_toArray, List.set_cons_zero, List.set_cons_succ, i64_w, i32_w]
          rfl
         refine one_ (i := 13) (N := some 40) (bl 14 16) rfl rfl (one_of HT_.out (by kernel_rfl)) (by decide) (fun K hK => ?_)
         refine Kd.R_append_rows_step k44 (w0 := w) w.heap.size (by rfl) (.tmp 35) (.tmp 39) 29 44 (.agg #[(.int .i64 0), (.int .i64 0)]) 16 rfl Try.underlying29 info44 rfl (by decide) (by omega) v206 y205 y208 _ _ _ (fun k_ => some k_ ≠ (.slice Ao62 t185.length co62 : Value).ownBlock ∧ some k_ ≠ (.slice Ao79 y202.length co79 : Value).ownBlock ∧ k_ ≠ gb152) (fun _ => False) rfl rfl ?aO ?aR (fun _ _ h => h) (fun _ h => h.elim) ?aF ?aB ?aS ?aL ?_
         (case aR => exact cz_ (Kd.C_below HR211.out HB.out))
         (case aB => exact (by repeat (first | (with_reducible first | exact HB.out | apply below_alloc | apply pw_below_drewN | apply below_drew1 | refine below_set ?_ GE151.out | refine below_set ?_ GE152.out | refine below_set ?_ GE153.out | refine below_set ?_ GE191.out) | exact HB.out)))
         (case aF => exact (fun k_ hk => ⟨Kd.fresh' (Kd.R_lt (rz_ HO187.out)) k_ hk, Kd.fresh' (Kd.R_lt (rz_ HO204.out)) k_ hk, Kd.freshB (g := gb152) (o := .cells #[.int .i64 a1_0, .int .i64 a1_1] 44 (0, 0)) (bz_ BK152.out) k_ hk⟩))
         (case aO => exact (rz_ HO207.out))
         (case aS => exact (below_size (by repeat (first | (with_reducible first | exact HB.out | apply below_alloc | apply pw_below_drewN | apply below_drew1 | refine below_set ?_ GE151.out | refine below_set ?_ GE152.out | refine below_set ?_ GE153.out | refine below_set ?_ GE191.out) | exact HB.out))))
         (case aL => have := LMc55.out; omega)
         intro v213 w80 ho hb hg hat
         rw [← Ny212.out] at ho
         have n0_ := Aside0.mk (blk_grown (g := gb151) (o := .cells #[.slice A0_0 l0_0.length c0_0, .slice A0_1 l0_1.length c0_1] 32 (0, 0)) (bz_ BK151.out) hg (Kd.R_ne HO207.out BK151.out (by decide)))
         have n1_ := Aside0.mk (blk_grown (g := gb152) (o := .cells #[.int .i64 a1_0, .int .i64 a1_1] 44 (0, 0)) (bz_ BK152.out) hg (Kd.R_away HO207.out (fun _ hk => hk.2.2)))
         have n2_ := Aside0.mk (blk_grown (g := gb153) (o := .cells #[.slice none 0 0, .slice none 0 0] 32 (0, 0)) (bz_ BK153.out) hg (Kd.R_ne HO207.out BK153.out (by decide)))
         have n3_ := Aside0.mk (Kd.R_after (ok := (fun k_ => some k_ ≠ (.slice Ao79 y202.length co79 : Value).ownBlock ∧ k_ ≠ gb152)) (rz_ HO187.out) hg hat)
         have n4_ := Aside0.mk (Kd.R_over' (rz_ HO190.out) (Kd.R_typed (rz_ HO207.out)) (by decide) hg)
         have n5_ := Aside0.mk (blk_grown (g := gb191) (o := .cells #[.slice Ao62 t185.length co62, .slice Ao67 t188.length co67] 32 (0, 0)) (bz_ BK191.out) hg (Kd.R_ne HO207.out BK191.out (by decide)))
         have n6_ := Aside0.mk (Kd.R_after (ok := (fun k_ => some k_ ≠ (.slice Ao62 t185.length co62 : Value).ownBlock ∧ k_ ≠ gb152)) (rz_ HO204.out) hg hat)
         have n7_ := Aside0.mk (hb)
         have n8_ := Aside0.mk (ho)
         clear BK151
         clear BK152
         clear BK153
         clear HO187
         clear HO190
         clear BK191
         clear HO204
         clear HB
         clear HO207
         have BK151 := n0_
         have BK152 := n1_
         have BK153 := n2_
         have HO187 := n3_
         have HO190 := n4_
         have BK191 := n5_
         have HO204 := n6_
         have HB := n7_
         have HO214 := n8_
         clear n0_ n1_ n2_ n3_ n4_ n5_ n6_ n7_ n8_
         clear ho hb hg hat
         obtain ⟨Ao81, co81, eo81⟩ := Kd.R_slice HO214.out
         (first | subst eo81 | (injection eo81 with f1_ f2_ f3_; have f4_ := f1_.symm; have f5_ := f3_.symm; clear f1_ f2_ f3_; subst f4_; subst f5_))
         refine hK.out _ _ ⟨(blk_cell BK151.out 0).trans rfl, (blk_cell BK151.out 1).trans rfl, (blk_cell BK152.out 0).trans rfl, (blk_cell BK152.out 1).trans rfl⟩ (fun hHeld => ?_)
         clear hK K
         refine norm_ (a' := ?_) ?_ ?_
         rotate_left
         ·show Act.put _ (some 40) _ = _
          simp only [Act.put, List.setIfInBounds_toArray, List.set_cons_zero, List.set_cons_succ, i64_w, i32_w]
          rfl
         refine pA_ 14 (some 41) (bl 15 16) HT_.out (h := ?_)
         refine one_ (i := 15) (N := none) (bl 16 16) rfl rfl (one_of HT_.out (by kernel_rfl)) (by decide) (fun K hK => ?_)
         have hs82 : w80.cell? ⟨gb191, 0, none⟩ = some (.slice Ao62 t185.length co62) := (blk_cell BK191.out 0).trans rfl
         have hfs82 := blk_frozen BK191.out 0
         have hns82_0 := NB151_191.out
         have hns82_1 := NB152_191.out
         have hns82_2 := NB153_191.out
         have hms82_0 := NB191_151.out
         have hms82_1 := NB191_152.out
         have hms82_2 := NB191_153.out
         refine skip_ (w1 := ?_) (by rfl) rfl ?_ ?_
         rotate_left
         ·go_simp
          rfl
         refine hK.out _ _ ⟨((cell_far (p := ⟨gb191, _, none⟩) NB151_191.out _).trans (hHeld.1)), ((cell_far (p := ⟨gb191, _, none⟩) NB151_191.out _).trans (hHeld.2.1)), ((cell_far (p := ⟨gb191, _, none⟩) NB152_191.out _).trans (hHeld.2.2.1)), ((cell_far (p := ⟨gb191, _, none⟩) NB152_191.out _).trans (hHeld.2.2.2))⟩ (fun hHeld => ?_)
         clear hK K
         refine done_ (done_of HT_.out (by kernel_rfl)) ?_
         have hcz83_0 : w80.cell? ⟨gb191, 0, none⟩ = some (.slice Ao62 t185.length co62) := (blk_cell BK191.out 0).trans rfl
         have hcz83_1 : w80.cell? ⟨gb191, 1, none⟩ = some (.slice Ao67 t188.length co67) := (blk_cell BK191.out 1).trans rfl
         have hfz83_0 := blk_frozen BK191.out 0
         have hfz83_1 := blk_frozen BK191.out 1
         have hnb84 := NB153_152.out
         have hnc84 := NB152_153.out
         have hcz85_0 : w80.cell? ⟨gb153, 0, none⟩ = some (.slice none 0 0) := (blk_cell BK153.out 0).trans rfl
         have hcz85_1 : w80.cell? ⟨gb153, 1, none⟩ = some (.slice none 0 0) := (blk_cell BK153.out 1).trans rfl
         have hfz85_0 := blk_frozen BK153.out 0
         have hfz85_1 := blk_frozen BK153.out 1
         try go_wp2
         refine bodyPost_ret (results_cell_row rfl _ _ gb153 32 #[.slice Ao81 y212.length co81, .slice Ao67 t188.length co67] (0, 0) _ rfl (by (with_reducible repeat (first | refine blk_drewN ?_ _ | refine blk_drew ?_ | refine blk_alloc ?_ _)); refine blk_put (cs := #[.slice Ao81 y212.length co81, .slice none 0 0]) ?_ 1 _ rfl; (with_reducible repeat (first | refine blk_drewN ?_ _ | refine blk_drew ?_ | refine blk_alloc ?_ _)); refine blk_put (cs := #[.slice none 0 0, .slice none 0 0]) ?_ 0 _ rfl; (with_reducible repeat (first | refine blk_drewN ?_ _ | refine blk_drew ?_ | refine blk_alloc ?_ _)); refine blk_far ?_ NB153_191.out _; (with_reducible repeat (first | refine blk_drewN ?_ _ | refine blk_drew ?_ | refine blk_alloc ?_ _)); exact BK153.out) Try.underlying32 rfl (by kernel_rfl)) rfl ?_
         exact ⟨_, _, by first | rfl | (simp [errW_none, errW_some] <;> rfl) | (simp [*, errW_none, errW_some] <;> rfl), rz_ (Kd.R_mono (Kd.R_far (p := ⟨gb153, 1, none⟩) (Kd.R_far (p := ⟨gb153, 0, none⟩) (Kd.R_far (p := ⟨gb191, 0, none⟩) (Kd.R_types (Kd.R_types HO214.out BK191.out (by decide)) BK153.out (by decide)) (fun _ hk => hk.1.2) (.slice Ao81 y212.length co81)) (fun _ hk => hk.2) (.slice Ao81 y212.length co81)) (fun _ hk => hk.2) (.slice Ao67 t188.length co67)) (fun _ hk => trivial)), rz_ (Kd.R_mono (Kd.R_far (p := ⟨gb153, 1, none⟩) (Kd.R_far (p := ⟨gb153, 0, none⟩) (Kd.R_far (p := ⟨gb191, 0, none⟩) (Kd.R_types (Kd.R_types HO190.out BK191.out (by decide)) BK153.out (by decide)) (fun _ hk => hk.1.2) (.slice Ao81 y212.length co81)) (fun _ hk => hk.2) (.slice Ao81 y212.length co81)) (fun _ hk => hk.2) (.slice Ao67 t188.length co67)) (fun _ hk => trivial)), by repeat (first | (with_reducible first | exact HB.out | apply below_alloc | apply pw_below_drewN | apply below_drew1 | refine below_set ?_ GE151.out | refine below_set ?_ GE152.out | refine below_set ?_ GE153.out | refine below_set ?_ GE191.out) | exact HB.out)⟩
        ·rw [if_neg c55] at H
         exact absurd H (by simp)
       ·rw [if_neg c52] at H
        exact absurd H (by simp)
      ·rw [if_neg c51] at H
       exact absurd H (by simp)
     ·rw [if_neg c50] at H
      exact absurd H (by simp)
    ·rw [if_neg c49] at H
     exact absurd H (by simp)

end Go.Proofs.Ytlmdmnenljmdgaa.Q

-- Written by a program of this session (wip/xprint.py over the kit's printer).
import Derived.Test.YtlmdmnenljmdgaaQ0
import Derived.Test.YtlmdmnenljmdgaaQEQ0
import Derived.Test.YtlmdmnenljmdgaaQF72
import Derived.Test.YtlmdmnenljmdgaaQV1
namespace Go.Proofs.Ytlmdmnenljmdgaa.Q
open Go.RowKit Go.Proofs.YtlmdmnenljmdgaaW.PrintWords Go.Proofs.YtlmdmnenljmdgaaW.PrintLast
set_option linter.unusedVariables false
set_option linter.unusedSimpArgs false

attribute [local go_sem high] eqA36
/-! ### spec_l2Link: function 50 -/
def spec_l2Link.l0 : Nat → Int → List (S44) → List (S36) → Int → Int → Option ((List (S44)) × (List (S36)))
 | 0, _, _, _, _, _ => none
 | k + 1, x5, x152000, x152001, x153000, x153001 => if x5 < (x152001.length : Int) then (if 0 ≤ x5 then ((spec_l2Before.f ((rd_T36 x152001 x5).f0) ((rd_T36 x152001 x5).f1) x153000 x153001).bind fun t155 => (if t155 = true then (spec_l2Link.l0 k (wrap64 (x5 + 1)) x152000 x152001 x153000 x153001) else ((spec_l2Own.f x152000 x152001).bind fun bt156 => (if (((rd_T36 x152001 x5).f0) == x153000 && (((rd_T36 x152001 x5).f1) == x153001)) = true then (some (bt156.1, bt156.2)) else ((some (([] : List (S36)) : List (S36))).bind fun y164 => (if x5 ≤ (x152001.length : Int) then ((some (x152001.take (x5 : Int).toNat : List (S36))).bind fun y167 => (if y164.length + y167.length < 8796093022208 then ((some (y164 ++ y167 : List (S36))).bind fun y171 => ((some (([(⟨x153000, x153001⟩ : S36)] : List (S36)) : List (S36))).bind fun y174 => (if y171.length + y174.length < 8796093022208 then ((some (y171 ++ y174 : List (S36))).bind fun y177 => ((some (x152001.drop (x5 : Int).toNat : List (S36))).bind fun y180 => (if y177.length + y180.length < 8796093022208 then (some (bt156.1, (y177 ++ y180))) else (none)))) else (none)))) else (none))) else (none))))))) else (none)) else ((spec_l2Own.f x152000 x152001).bind fun bt187 => ((some (([] : List (S36)) : List (S36))).bind fun y194 => (if 0 ≤ x5 then (if x5 ≤ (x152001.length : Int) then ((some (x152001.take (x5 : Int).toNat : List (S36))).bind fun y197 => (if y194.length + y197.length < 8796093022208 then ((some (y194 ++ y197 : List (S36))).bind fun y201 => ((some (([(⟨x153000, x153001⟩ : S36)] : List (S36)) : List (S36))).bind fun y204 => (if y201.length + y204.length < 8796093022208 then ((some (y201 ++ y204 : List (S36))).bind fun y207 => ((some (x152001.drop (x5 : Int).toNat : List (S36))).bind fun y210 => (if y207.length + y210.length < 8796093022208 then (some (bt187.1, (y207 ++ y210))) else (none)))) else (none)))) else (none))) else (none)) else (none))))
def spec_l2Link.f (k : Nat) (l0_0 : List (S44)) (l0_1 : List (S36)) (a1_0 : Int) (a1_1 : Int) : Option ((List (S44)) × (List (S36))) := spec_l2Link.l0 k 0 l0_0 l0_1 a1_0 a1_1
theorem spec_l2Link.mono_l : ∀ k, (∀ y0 y1 y2 y3 y4, LeO (spec_l2Link.l0 k y0 y1 y2 y3 y4) (spec_l2Link.l0 (k + 1) y0 y1 y2 y3 y4))
 | 0 => fun _ _ _ _ _ r h => by simp [spec_l2Link.l0] at h
 | k + 1 => by
  have ih0 := spec_l2Link.mono_l k
  ·intro y0 y1 y2 y3 y4
   unfold spec_l2Link.l0
   repeat' first
   | (with_reducible exact ih0 _ _ _ _ _)
   | (with_reducible exact LeO.refl _)
   | (with_reducible exact LeO.none _)
   | (with_reducible refine LeO.ite ?_ ?_)
   | (with_reducible refine LeO.bind ?_ (fun _ => ?_))
   | exact ih0 _ _ _ _ _
   | exact LeO.none _
   | refine LeO.ite ?_ ?_
   | refine LeO.bind ?_ (fun _ => ?_)
theorem spec_l2Link.mono : ∀ a0 a1 a2 a3 k, LeO (spec_l2Link.f k a0 a1 a2 a3) (spec_l2Link.f (k + 1) a0 a1 a2 a3) := by
 intro a0 a1 a2 a3 k
 have ih0 := spec_l2Link.mono_l k
 unfold spec_l2Link.f
 repeat' first
   | (with_reducible exact ih0 _ _ _ _ _)
   | (with_reducible exact LeO.refl _)
   | (with_reducible exact LeO.none _)
   | (with_reducible refine LeO.ite ?_ ?_)
   | (with_reducible refine LeO.bind ?_ (fun _ => ?_))
   | exact ih0 _ _ _ _ _
   | exact LeO.none _
   | refine LeO.ite ?_ ?_
   | refine LeO.bind ?_ (fun _ => ?_)
def spec_l2Link.T2 : Bool × List (List Nat × List Nat) := (true, [([], []), ([], []), ([1], [1]), ([2], [2]), ([0, 3], [0, 3]), ([4], [4]), ([5], [5]), ([6, 5], [5, 6]), ([5], [5]), ([7, 8, 5], [5, 7, 8]), ([9, 5], [5, 9]), ([5], [5]), ([10, 11, 5, 5], [5, 10, 11]), ([5, 12], [5, 12])])
def spec_l2Link.B2 : List Nat := [0, 0, 2, 6, 15, 31, 63, 127, 63, 511, 1023, 63, 4095, 8191]
theorem spec_l2Link.tab2 : rtab .any (opsOf Try.f50 2) = spec_l2Link.T2 := by kernel_rfl
theorem spec_l2Link.bits2 : waitsOk spec_l2Link.T2.2 spec_l2Link.B2 = true := by kernel_rfl
def spec_l2Link.T5 : Bool × List (List Nat × List Nat) := (true, [([], []), ([], []), ([1], [1]), ([2], [2]), ([0, 3], [0, 3]), ([4], [4]), ([5], [5]), ([6, 5], [5, 6]), ([5], [5]), ([7, 8, 5], [5, 7, 8]), ([9, 5], [5, 9]), ([5], [5]), ([10, 11, 5], [5, 10, 11]), ([5, 12], [5, 12])])
def spec_l2Link.B5 : List Nat := [0, 0, 2, 6, 15, 31, 63, 127, 63, 511, 1023, 63, 4095, 8191]
theorem spec_l2Link.tab5 : rtab .any (opsOf Try.f50 5) = spec_l2Link.T5 := by kernel_rfl
theorem spec_l2Link.bits5 : waitsOk spec_l2Link.T5.2 spec_l2Link.B5 = true := by kernel_rfl
def spec_l2Link.T7 : Bool × List (List Nat × List Nat) := (true, [([], []), ([], []), ([1], [1]), ([], []), ([2, 3], [2, 3]), ([0, 4], [0, 4]), ([], []), ([6], [6]), ([5, 7, 5], [5, 7]), ([], []), ([9], [9]), ([], []), ([10, 11], [10, 11]), ([8, 12, 8], [8, 12]), ([0, 1, 2, 3, 4, 5, 6, 7, 8, 9, 10, 11, 12, 13], []), ([14, 13, 13, 0, 1, 2, 3, 4, 5, 6, 7, 8, 9, 10, 11, 12, 13], [13, 14])])
def spec_l2Link.B7 : List Nat := [0, 0, 2, 0, 14, 31, 0, 64, 255, 0, 512, 0, 3584, 8191, 16383, 32767]
theorem spec_l2Link.tab7 : rtab .any (opsOf Try.f50 7) = spec_l2Link.T7 := by kernel_rfl
theorem spec_l2Link.bits7 : waitsOk spec_l2Link.T7.2 spec_l2Link.B7 = true := by kernel_rfl
set_option maxHeartbeats 8000000 in
set_option maxRecDepth 100000 in
theorem spec_l2Link.calls (k : Nat) (A0_0 : Option Addr) (c0_0 : Nat) (l0_0 : List (S44)) (A0_1 : Option Addr) (c0_1 : Nat) (l0_1 : List (S36)) (a1_0 : Int) (a1_1 : Int) (r1 : List (S44)) (r2 : List (S36)) (w : World) (hr0_0 : Kd.C k44 w A0_0 l0_0.length l0_0) (hc0_0 : l0_0.length ≤ c0_0) (hr0_1 : Kd.C k36 w A0_1 l0_1.length l0_1) (hc0_1 : l0_1.length ≤ c0_1) (h : spec_l2Link.f k l0_0 l0_1 a1_0 a1_1 = some (r1, r2)) :
  Calls Try.prog 50 #[.agg #[.slice A0_0 l0_0.length c0_0, .slice A0_1 l0_1.length c0_1], .agg #[.int .i64 a1_0, .int .i64 a1_1]] w fun e w' => ∃ v0_ v1_ : Value, e = .returned (.agg #[v0_, v1_]) ∧ Kd.R k44 44 w' w.heap.size (fun _ => True) v0_ r1 ∧ Kd.R k36 36 w' w.heap.size (fun _ => True) v1_ r2 ∧ Below w.heap.size w w' := by
 have hu32 := Try.underlying32
 have hu36 := Try.underlying36
 have HR0_0 := Aside0.mk hr0_0
 have HC0_0 := Aside0.mk hc0_0
 clear hr0_0 hc0_0
 have HR0_1 := Aside0.mk hr0_1
 have HC0_1 := Aside0.mk hc0_1
 clear hr0_1 hc0_1
 have HB := Aside0.mk (Below.refl w.heap.size w)
 have H : (spec_l2Link.l0 k 0 l0_0 l0_1 a1_0 a1_1) = some (r1, r2) := h
 clear h
 have H' := Aside0.mk H
 clear H
 go_enter Try.func50, Try.ntmps50
 go_wp2_with (first | ((with_reducible refine gate_dst (N := 2) rfl ?_); refine box_event ?hg (N := 2) ?hd (cs := #[.slice A0_0 l0_0.length c0_0, .slice A0_1 l0_1.length c0_1]) (t := 32) ?hr ?_; (case hd => rfl); (case hg => rfl); (case hr => first | (go_simp; done) | (go_simp; rfl)); intro gb151 hg w3 hbox hb; have n0_ := Aside0.mk (below_step (wz_ HB.out) hb); have n1_ := Aside0.mk (hbox); have n2_ := Aside0.mk ((by rw [hg]; exact (below_size (wz_ HB.out)) : w.heap.size ≤ gb151)); have n3_ := Aside0.mk ((by rw [hg]; exact (below_size (wz_ HB.out)) : w.heap.size ≤ gb151)); clear HB; have HB := n0_; have BK151 := n1_; have GW151 := n2_; have GE151 := n3_; clear n0_ n1_ n2_ n3_; clear hb hbox hg) | ((with_reducible refine gate_dst (N := 3) rfl ?_); refine box_event ?hg (N := 3) ?hd (cs := #[.int .i64 a1_0, .int .i64 a1_1]) (t := 36) ?hr ?_; (case hd => rfl); (case hg => rfl); (case hr => first | (go_simp; done) | (go_simp; rfl)); intro gb152 hg w4 hbox hb; have n0_ := Aside0.mk (blk_below (bz_ BK151.out) hb); have n1_ := Aside0.mk (below_step (by repeat (first | (with_reducible first | exact HB.out | apply below_alloc | apply pw_below_drewN | apply below_drew1 | refine below_set ?_ GE151.out) | exact HB.out)) hb); have n2_ := Aside0.mk (hbox); have n3_ := Aside0.mk ((by rw [hg]; exact (below_size (by repeat (first | (with_reducible first | exact HB.out | apply below_alloc | apply pw_below_drewN | apply below_drew1 | refine below_set ?_ GE151.out) | exact HB.out))) : w.heap.size ≤ gb152)); have n4_ := Aside0.mk ((by rw [hg]; exact (below_size (by repeat (first | (with_reducible first | exact HB.out | apply below_alloc | apply pw_below_drewN | apply below_drew1 | refine below_set ?_ GE151.out) | exact HB.out))) : w.heap.size ≤ gb152)); have n5_ := Aside0.mk ((by rw [hg]; exact Nat.ne_of_lt (blk_lt (g := gb151) (o := .cells #[.slice A0_0 l0_0.length c0_0, .slice A0_1 l0_1.length c0_1] 32 (0, 0)) (bz_ BK151.out)) : gb151 ≠ gb152)); have n6_ := Aside0.mk ((by rw [hg]; exact Nat.ne_of_gt (blk_lt (g := gb151) (o := .cells #[.slice A0_0 l0_0.length c0_0, .slice A0_1 l0_1.length c0_1] 32 (0, 0)) (bz_ BK151.out)) : gb152 ≠ gb151)); clear BK151; clear HB; have BK151 := n0_; have HB := n1_; have BK152 := n2_; have GW152 := n3_; have GE152 := n4_; have NB151_152 := n5_; have NB152_151 := n6_; clear n0_ n1_ n2_ n3_ n4_ n5_ n6_; clear hb hbox hg) | ((with_reducible refine gate_dst (N := 4) rfl ?_); refine box_event ?hg (N := 4) ?hd (cs := #[.slice none 0 0, .slice none 0 0]) (t := 32) ?hr ?_; (case hd => rfl); (case hg => rfl); (case hr => first | (go_simp; done) | (go_simp; rfl)); intro gb153 hg w5 hbox hb; have n0_ := Aside0.mk (blk_below (bz_ BK151.out) hb); have n1_ := Aside0.mk (blk_below (bz_ BK152.out) hb); have n2_ := Aside0.mk (below_step (by repeat (first | (with_reducible first | exact HB.out | apply below_alloc | apply pw_below_drewN | apply below_drew1 | refine below_set ?_ GE151.out | refine below_set ?_ GE152.out) | exact HB.out)) hb); have n3_ := Aside0.mk (hbox); have n4_ := Aside0.mk ((by rw [hg]; exact (below_size (by repeat (first | (with_reducible first | exact HB.out | apply below_alloc | apply pw_below_drewN | apply below_drew1 | refine below_set ?_ GE151.out | refine below_set ?_ GE152.out) | exact HB.out))) : w.heap.size ≤ gb153)); have n5_ := Aside0.mk ((by rw [hg]; exact (below_size (by repeat (first | (with_reducible first | exact HB.out | apply below_alloc | apply pw_below_drewN | apply below_drew1 | refine below_set ?_ GE151.out | refine below_set ?_ GE152.out) | exact HB.out))) : w.heap.size ≤ gb153)); have n6_ := Aside0.mk ((by rw [hg]; exact Nat.ne_of_lt (blk_lt (g := gb151) (o := .cells #[.slice A0_0 l0_0.length c0_0, .slice A0_1 l0_1.length c0_1] 32 (0, 0)) (bz_ BK151.out)) : gb151 ≠ gb153)); have n7_ := Aside0.mk ((by rw [hg]; exact Nat.ne_of_gt (blk_lt (g := gb151) (o := .cells #[.slice A0_0 l0_0.length c0_0, .slice A0_1 l0_1.length c0_1] 32 (0, 0)) (bz_ BK151.out)) : gb153 ≠ gb151)); have n8_ := Aside0.mk ((by rw [hg]; exact Nat.ne_of_lt (blk_lt (g := gb152) (o := .cells #[.int .i64 a1_0, .int .i64 a1_1] 36 (0, 0)) (bz_ BK152.out)) : gb152 ≠ gb153)); have n9_ := Aside0.mk ((by rw [hg]; exact Nat.ne_of_gt (blk_lt (g := gb152) (o := .cells #[.int .i64 a1_0, .int .i64 a1_1] 36 (0, 0)) (bz_ BK152.out)) : gb153 ≠ gb152)); clear BK151; clear BK152; clear HB; have BK151 := n0_; have BK152 := n1_; have HB := n2_; have BK153 := n3_; have GW153 := n4_; have GE153 := n5_; have NB151_153 := n6_; have NB153_151 := n7_; have NB152_153 := n8_; have NB153_152 := n9_; clear n0_ n1_ n2_ n3_ n4_ n5_ n6_ n7_ n8_ n9_; clear hb hbox hg))
 go_loopg [5] k (fun kq v5 w' => ∃ (x5_1 : Int), v5 = .int .i64 x5_1 ∧ Aside0 (spec_l2Link.l0 kq x5_1 l0_0 l0_1 a1_0 a1_1 = some (r1, r2)) ∧ Aside0 (kq ≤ k) ∧ Aside0 (w'.heap[gb151]? = some (.cells #[(.slice A0_0 l0_0.length c0_0), (.slice A0_1 l0_1.length c0_1)] 32 (0, 0))) ∧ Aside0 (w'.heap[gb152]? = some (.cells #[.int .i64 a1_0, .int .i64 a1_1] 36 (0, 0))) ∧ Aside0 (w'.heap[gb153]? = some (.cells #[(.slice none 0 0), (.slice none 0 0)] 32 (0, 0))) ∧ Aside0 (Below w.heap.size w w'))
 case atStart => exact ⟨(0), (by first | rfl | (simp; done) | (simp [*]; done)), H', ⟨Nat.le_refl _⟩, ⟨bz_ BK151.out⟩, ⟨bz_ BK152.out⟩, ⟨bz_ BK153.out⟩, ⟨by repeat (first | (with_reducible first | exact HB.out | apply below_alloc | apply pw_below_drewN | apply below_drew1 | refine below_set ?_ GE151.out | refine below_set ?_ GE152.out | refine below_set ?_ GE153.out) | exact HB.out)⟩⟩
 case round =>
  clear H'
  try clear p2
  try clear c5
  obtain ⟨x5_1, rfl, HA, HK1, BK151, BK152, BK153, HB⟩ := hrel
  cases gk with
  | zero => exact absurd HA.out (by simp [spec_l2Link.l0])
  | succ k1 =>
   have H := HA.out
   clear HA
   simp only [spec_l2Link.l0] at H
   by_cases c6 : x5_1 < (l0_1.length : Int)
   ·rw [if_pos c6] at H
    have c6b0 : decide (x5_1 < (l0_1.length : Int)) = true := decide_eq_true c6
    clear c6
    by_cases c7 : 0 ≤ x5_1
    ·rw [if_pos c7] at H
     have c7b0 : decide (0 ≤ x5_1) = true := decide_eq_true c7
     clear c7
     replace H := Option.bind_eq_some_iff.mp H
     obtain ⟨t155, A80, H⟩ := H
     replace H : (if t155 = true then (spec_l2Link.l0 k1 (wrap64 (x5_1 + 1)) l0_0 l0_1 a1_0 a1_1) else ((spec_l2Own.f l0_0 l0_1).bind fun bt156 => (if (((rd_T36 l0_1 x5_1).f0) == a1_0 && (((rd_T36 l0_1 x5_1).f1) == a1_1)) = true then (some (bt156.1, bt156.2)) else ((some (([] : List (S36)) : List (S36))).bind fun y164 => (if x5_1 ≤ (l0_1.length : Int) then ((some (l0_1.take (x5_1 : Int).toNat : List (S36))).bind fun y167 => (if y164.length + y167.length < 8796093022208 then ((some (y164 ++ y167 : List (S36))).bind fun y171 => ((some (([(⟨a1_0, a1_1⟩ : S36)] : List (S36)) : List (S36))).bind fun y174 => (if y171.length + y174.length < 8796093022208 then ((some (y171 ++ y174 : List (S36))).bind fun y177 => ((some (l0_1.drop (x5_1 : Int).toNat : List (S36))).bind fun y180 => (if y177.length + y180.length < 8796093022208 then (some (bt156.1, (y177 ++ y180))) else (none)))) else (none)))) else (none))) else (none)))))) = some (r1, r2) := H
     have A8 := Aside0.mk A80
     clear A80
     by_cases c9 : t155 = true
     ·subst c9
      have H1 : (spec_l2Link.l0 k1 (wrap64 (x5_1 + 1)) l0_0 l0_1 a1_0 a1_1) = some (r1, r2) := by rw [if_pos rfl] at H; exact H
      clear H
      have H := H1
      clear H1
      have H' := Aside0.mk H
      clear H
      try go_wp2
      have n0_ := Aside0.mk (blk_drew BK151.out)
      have n1_ := Aside0.mk (blk_drew BK152.out)
      have n2_ := Aside0.mk (blk_drew BK153.out)
      have n3_ := Aside0.mk (below_drew1 HB.out)
      clear BK151
      clear BK152
      clear BK153
      clear HB
      have BK151 := n0_
      have BK152 := n1_
      have BK153 := n2_
      have HB := n3_
      clear n0_ n1_ n2_ n3_
      have p154 : 0 ≤ (x5_1 : Int) := of_decide_eq_true (by first | (with_reducible assumption) | assumption)
      have q154 : x5_1 < (l0_1.length : Int) := of_decide_eq_true (by first | (with_reducible assumption) | assumption)
      obtain ⟨ad154, e154, hx154_0, hx154_1⟩ := at_T36 HR0_1.out x5_1 p154 q154
      have hw154_1 := hx154_1
      have hw154_0 := hx154_0
      cases e154
      replace hx154_0 := (HB.out.cell (World.block_lt_of_cell? w _ hx154_0)).trans hx154_0
      replace hx154_1 := (HB.out.cell (World.block_lt_of_cell? w _ hx154_1)).trans hx154_1
      replace p154 := eq_true p154
      replace q154 := eq_true q154
      refine start_ (n := 14) (S := fun w' => w'.cell? ⟨gb151, 0, none⟩ = some (.slice A0_0 l0_0.length c0_0) ∧ w'.cell? ⟨gb151, 1, none⟩ = some (.slice (some ad154) l0_1.length c0_1) ∧ w'.cell? ⟨gb152, 0, none⟩ = some (.int .i64 a1_0) ∧ w'.cell? ⟨gb152, 1, none⟩ = some (.int .i64 a1_1) ∧ w'.cell? (ad154.add ((x5_1).toNat * 2)) = some (.int .i64 ((rd_T36 l0_1 x5_1).f0)) ∧ w'.cell? ⟨(ad154.add ((x5_1).toNat * 2)).block, (ad154.add ((x5_1).toNat * 2)).off + 1, none⟩ = some (.int .i64 ((rd_T36 l0_1 x5_1).f1))) (ds := []) #[false, false, false, false, false, false, false, false, false, false, false, false, false, false] (by kernel_rfl) rfl rfl ⟨(blk_cell BK151.out 0).trans rfl, (blk_cell BK151.out 1).trans rfl, (blk_cell BK152.out 0).trans rfl, (blk_cell BK152.out 1).trans rfl, ((HB.out.cell (World.block_lt_of_cell? w _ hw154_0)).trans hw154_0), ((HB.out.cell (World.block_lt_of_cell? w _ hw154_1)).trans hw154_1)⟩ (fun hHeld => ?_); refine with_tabW spec_l2Link.tab2 spec_l2Link.bits2 (fun HT_ HW_ => ?_)
      generalize wr.drew = w10 at BK151 BK152 BK153 HB hx154_0 hx154_1 hHeld ⊢
      refine pA_ 0 (some 7) (bl 1 14) HT_.out (h := ?_)
      refine pA_ 1 (some 8) (bl 2 14) HT_.out (h := ?_)
      refine tA_ 2 (some 9) (bl 3 14) HT_.out HW_.out hHeld (h := ?_)
      refine pA_ 3 (some 10) (bl 4 14) HT_.out (h := ?_)
      refine pA_ 4 (some 11) (bl 5 14) HT_.out (h := ?_)
      refine pA_ 5 (some 12) (bl 6 14) HT_.out (h := ?_)
      refine pA_ 6 (some 13) (bl 7 14) HT_.out (h := ?_)
      refine pA_ 8 (some 15) #[true, true, true, true, true, true, true, false, true, false, false, false, false, false] HT_.out (h := ?_)
      refine tA_ 7 (some 14) (bl 9 14) HT_.out HW_.out hHeld (h := ?_)
      refine pA_ 9 (some 16) (bl 10 14) HT_.out (h := ?_)
      refine tA_ 10 (some 17) (bl 11 14) HT_.out HW_.out hHeld (h := ?_)
      refine tA_ 11 (some 18) (bl 12 14) HT_.out HW_.out hHeld (h := ?_)
      refine one_ (i := 12) (N := some 19) (bl 13 14) rfl rfl (one_of HT_.out (by kernel_rfl)) (by decide) (fun K hK => ?_)
      refine goes_ Try.func63 (by kernel_rfl) rfl #[.agg #[.int .i64 ((rd_T36 l0_1 x5_1).f0), .int .i64 ((rd_T36 l0_1 x5_1).f1)], .agg #[.int .i64 a1_0, .int .i64 a1_1]] (by rfl) rfl rfl (by (try simp only [List.map_toArray, List.map_cons, List.map_nil]); first | done | rfl | (simp only [List.length_drop, List.length_take]; rfl)) ?_
      with_reducible refine (spec_l2Before.calls ((rd_T36 l0_1 x5_1).f0) ((rd_T36 l0_1 x5_1).f1) a1_0 a1_1 true _ A8.out).mono ?_
      rintro e w11 ⟨rfl, hb⟩
      refine ⟨_, rfl, ?_⟩
      have n0_ := Aside0.mk (blk_below (bz_ BK151.out) hb)
      have n1_ := Aside0.mk (blk_below (bz_ BK152.out) hb)
      have n2_ := Aside0.mk (blk_below (bz_ BK153.out) hb)
      have n3_ := Aside0.mk (below_step (by repeat (first | (with_reducible first | exact HB.out | apply below_alloc | apply pw_below_drewN | apply below_drew1 | refine below_set ?_ GE151.out | refine below_set ?_ GE152.out | refine below_set ?_ GE153.out) | exact HB.out)) hb)
      clear BK151
      clear BK152
      clear BK153
      clear HB
      have BK151 := n0_
      have BK152 := n1_
      have BK153 := n2_
      have HB := n3_
      clear n0_ n1_ n2_ n3_
      (try clear hb)
      (try clear hb2)
      (try clear hk)
      (try clear hi)
      refine hK.out _ _ ⟨(blk_cell BK151.out 0).trans rfl, (blk_cell BK151.out 1).trans rfl, (blk_cell BK152.out 0).trans rfl, (blk_cell BK152.out 1).trans rfl, ((HB.out.cell (World.block_lt_of_cell? w _ hw154_0)).trans hw154_0), ((HB.out.cell (World.block_lt_of_cell? w _ hw154_1)).trans hw154_1)⟩ (fun hHeld => ?_)
      clear hK K
      refine norm_ (a' := ?_) ?_ ?_
      rotate_left
      ·show Act.put _ (some 19) _ = _
       simp only [Act.put, List.setIfInBounds_toArray, List.set_cons_zero, List.set_cons_succ, i64_w, i32_w]
       rfl
      refine pA_ 13 (some 20) (bl 14 14) HT_.out (h := ?_)
      refine done_ (done_of HT_.out (by kernel_rfl)) ?_
      try go_wp2
      go_roundg k1
      case measure => have := HK1.out; omega
      case rel => exact ⟨(wrap64 (x5_1 + 1)), (by first | rfl | (simp; done) | (simp [*]; done)), H', ⟨by have := HK1.out; omega⟩, ⟨bz_ BK151.out⟩, ⟨bz_ BK152.out⟩, ⟨bz_ BK153.out⟩, ⟨by repeat (first | (with_reducible first | exact HB.out | apply below_alloc | apply pw_below_drewN | apply below_drew1 | refine below_set ?_ GE151.out | refine below_set ?_ GE152.out | refine below_set ?_ GE153.out) | exact HB.out)⟩⟩
     ·replace c9 := Bool.eq_false_iff.mpr c9
      subst c9
      have H1 : ((spec_l2Own.f l0_0 l0_1).bind fun bt156 => (if (((rd_T36 l0_1 x5_1).f0) == a1_0 && (((rd_T36 l0_1 x5_1).f1) == a1_1)) = true then (some (bt156.1, bt156.2)) else ((some (([] : List (S36)) : List (S36))).bind fun y164 => (if x5_1 ≤ (l0_1.length : Int) then ((some (l0_1.take (x5_1 : Int).toNat : List (S36))).bind fun y167 => (if y164.length + y167.length < 8796093022208 then ((some (y164 ++ y167 : List (S36))).bind fun y171 => ((some (([(⟨a1_0, a1_1⟩ : S36)] : List (S36)) : List (S36))).bind fun y174 => (if y171.length + y174.length < 8796093022208 then ((some (y171 ++ y174 : List (S36))).bind fun y177 => ((some (l0_1.drop (x5_1 : Int).toNat : List (S36))).bind fun y180 => (if y177.length + y180.length < 8796093022208 then (some (bt156.1, (y177 ++ y180))) else (none)))) else (none)))) else (none))) else (none))))) = some (r1, r2) := by rw [if_neg (show ¬ (false = true) by decide)] at H; exact H
      clear H
      have H := H1
      clear H1
      replace H := Option.bind_eq_some_iff.mp H
      obtain ⟨⟨t156, t159⟩, A120, H⟩ := H
      replace H : (if (((rd_T36 l0_1 x5_1).f0) == a1_0 && (((rd_T36 l0_1 x5_1).f1) == a1_1)) = true then (some (t156, t159)) else ((some (([] : List (S36)) : List (S36))).bind fun y164 => (if x5_1 ≤ (l0_1.length : Int) then ((some (l0_1.take (x5_1 : Int).toNat : List (S36))).bind fun y167 => (if y164.length + y167.length < 8796093022208 then ((some (y164 ++ y167 : List (S36))).bind fun y171 => ((some (([(⟨a1_0, a1_1⟩ : S36)] : List (S36)) : List (S36))).bind fun y174 => (if y171.length + y174.length < 8796093022208 then ((some (y171 ++ y174 : List (S36))).bind fun y177 => ((some (l0_1.drop (x5_1 : Int).toNat : List (S36))).bind fun y180 => (if y177.length + y180.length < 8796093022208 then (some (t156, (y177 ++ y180))) else (none)))) else (none)))) else (none))) else (none)))) = some (r1, r2) := H
      have A12 := Aside0.mk A120
      clear A120
      by_cases c13 : (((rd_T36 l0_1 x5_1).f0) == a1_0 && (((rd_T36 l0_1 x5_1).f1) == a1_1)) = true
      ·rw [if_pos c13] at H
       have c13b0 : (((rd_T36 l0_1 x5_1).f0) == a1_0 && (((rd_T36 l0_1 x5_1).f1) == a1_1)) = true := c13
       (try (have c13b1 : decide (((rd_T36 l0_1 x5_1).f0) = a1_0 && (((rd_T36 l0_1 x5_1).f1) == a1_1)) = true := by simpa using c13))
       (try (have c13b2 : (((rd_T36 l0_1 x5_1).f0) == a1_0 && (((rd_T36 l0_1 x5_1).f1) == a1_1)) = true := by simpa using c13))
       clear c13
       simp only [Option.some.injEq, Prod.mk.injEq] at H
       obtain ⟨rfl, rfl⟩ := H
       try go_wp2
       have n0_ := Aside0.mk (blk_drew BK151.out)
       have n1_ := Aside0.mk (blk_drew BK152.out)
       have n2_ := Aside0.mk (blk_drew BK153.out)
       have n3_ := Aside0.mk (below_drew1 HB.out)
       clear BK151
       clear BK152
       clear BK153
       clear HB
       have BK151 := n0_
       have BK152 := n1_
       have BK153 := n2_
       have HB := n3_
       clear n0_ n1_ n2_ n3_
       have p154 : 0 ≤ (x5_1 : Int) := of_decide_eq_true (by first | (with_reducible assumption) | assumption)
       have q154 : x5_1 < (l0_1.length : Int) := of_decide_eq_true (by first | (with_reducible assumption) | assumption)
       obtain ⟨ad154, e154, hx154_0, hx154_1⟩ := at_T36 HR0_1.out x5_1 p154 q154
       have hw154_1 := hx154_1
       have hw154_0 := hx154_0
       cases e154
       replace hx154_0 := (HB.out.cell (World.block_lt_of_cell? w _ hx154_0)).trans hx154_0
       replace hx154_1 := (HB.out.cell (World.block_lt_of_cell? w _ hx154_1)).trans hx154_1
       replace p154 := eq_true p154
       replace q154 := eq_true q154
       refine start_ (n := 14) (S := fun w' => w'.cell? ⟨gb151, 0, none⟩ = some (.slice A0_0 l0_0.length c0_0) ∧ w'.cell? ⟨gb151, 1, none⟩ = some (.slice (some ad154) l0_1.length c0_1) ∧ w'.cell? ⟨gb152, 0, none⟩ = some (.int .i64 a1_0) ∧ w'.cell? ⟨gb152, 1, none⟩ = some (.int .i64 a1_1) ∧ w'.cell? (ad154.add ((x5_1).toNat * 2)) = some (.int .i64 ((rd_T36 l0_1 x5_1).f0)) ∧ w'.cell? ⟨(ad154.add ((x5_1).toNat * 2)).block, (ad154.add ((x5_1).toNat * 2)).off + 1, none⟩ = some (.int .i64 ((rd_T36 l0_1 x5_1).f1))) (ds := []) #[false, false, false, false, false, false, false, false, false, false, false, false, false, false] (by kernel_rfl) rfl rfl ⟨(blk_cell BK151.out 0).trans rfl, (blk_cell BK151.out 1).trans rfl, (blk_cell BK152.out 0).trans rfl, (blk_cell BK152.out 1).trans rfl, ((HB.out.cell (World.block_lt_of_cell? w _ hw154_0)).trans hw154_0), ((HB.out.cell (World.block_lt_of_cell? w _ hw154_1)).trans hw154_1)⟩ (fun hHeld => ?_); refine with_tabW spec_l2Link.tab2 spec_l2Link.bits2 (fun HT_ HW_ => ?_)
       generalize wr.drew = w14 at BK151 BK152 BK153 HB hx154_0 hx154_1 hHeld ⊢
       refine pA_ 0 (some 7) (bl 1 14) HT_.out (h := ?_)
       refine pA_ 1 (some 8) (bl 2 14) HT_.out (h := ?_)
       refine tA_ 2 (some 9) (bl 3 14) HT_.out HW_.out hHeld (h := ?_)
       refine pA_ 3 (some 10) (bl 4 14) HT_.out (h := ?_)
       refine pA_ 4 (some 11) (bl 5 14) HT_.out (h := ?_)
       refine pA_ 5 (some 12) (bl 6 14) HT_.out (h := ?_)
       refine pA_ 6 (some 13) (bl 7 14) HT_.out (h := ?_)
       refine pA_ 8 (some 15) #[true, true, true, true, true, true, true, false, true, false, false, false, false, false] HT_.out (h := ?_)
       refine tA_ 7 (some 14) (bl 9 14) HT_.out HW_.out hHeld (h := ?_)
       refine pA_ 9 (some 16) (bl 10 14) HT_.out (h := ?_)
       refine tA_ 10 (some 17) (bl 11 14) HT_.out HW_.out hHeld (h := ?_)
       refine tA_ 11 (some 18) (bl 12 14) HT_.out HW_.out hHeld (h := ?_)
       refine one_ (i := 12) (N := some 19) (bl 13 14) rfl rfl (one_of HT_.out (by kernel_rfl)) (by decide) (fun K hK => ?_)
       refine goes_ Try.func63 (by kernel_rfl) rfl #[.agg #[.int .i64 ((rd_T36 l0_1 x5_1).f0), .int .i64 ((rd_T36 l0_1 x5_1).f1)], .agg #[.int .i64 a1_0, .int .i64 a1_1]] (by rfl) rfl rfl (by (try simp only [List.map_toArray, List.map_cons, List.map_nil]); first | done | rfl | (simp only [List.length_drop, List.length_take]; rfl)) ?_
       with_reducible refine (spec_l2Before.calls ((rd_T36 l0_1 x5_1).f0) ((rd_T36 l0_1 x5_1).f1) a1_0 a1_1 false _ A8.out).mono ?_
       rintro e w15 ⟨rfl, hb⟩
       refine ⟨_, rfl, ?_⟩
       have n0_ := Aside0.mk (blk_below (bz_ BK151.out) hb)
       have n1_ := Aside0.mk (blk_below (bz_ BK152.out) hb)
       have n2_ := Aside0.mk (blk_below (bz_ BK153.out) hb)
       have n3_ := Aside0.mk (below_step (by repeat (first | (with_reducible first | exact HB.out | apply below_alloc | apply pw_below_drewN | apply below_drew1 | refine below_set ?_ GE151.out | refine below_set ?_ GE152.out | refine below_set ?_ GE153.out) | exact HB.out)) hb)
       clear BK151
       clear BK152
       clear BK153
       clear HB
       have BK151 := n0_
       have BK152 := n1_
       have BK153 := n2_
       have HB := n3_
       clear n0_ n1_ n2_ n3_
       (try clear hb)
       (try clear hb2)
       (try clear hk)
       (try clear hi)
       refine hK.out _ _ ⟨(blk_cell BK151.out 0).trans rfl, (blk_cell BK151.out 1).trans rfl, (blk_cell BK152.out 0).trans rfl, (blk_cell BK152.out 1).trans rfl, ((HB.out.cell (World.block_lt_of_cell? w _ hw154_0)).trans hw154_0), ((HB.out.cell (World.block_lt_of_cell? w _ hw154_1)).trans hw154_1)⟩ (fun hHeld => ?_)
       clear hK K
       refine norm_ (a' := ?_) ?_ ?_
       rotate_left
       ·show Act.put _ (some 19) _ = _
        simp only [Act.put, List.setIfInBounds_toArray, List.set_cons_zero, List.set_cons_succ, i64_w, i32_w]
        rfl
       refine pA_ 13 (some 20) (bl 14 14) HT_.out (h := ?_)
       refine done_ (done_of HT_.out (by kernel_rfl)) ?_
       have hnb16 := NB151_152.out
       have hnc16 := NB152_151.out
       have hnb17 := NB151_153.out
       have hnc17 := NB153_151.out
       have hcz18_0 : w15.cell? ⟨gb151, 0, none⟩ = some (.slice A0_0 l0_0.length c0_0) := (blk_cell BK151.out 0).trans rfl
       have hcz18_1 : w15.cell? ⟨gb151, 1, none⟩ = some (.slice (some ad154) l0_1.length c0_1) := (blk_cell BK151.out 1).trans rfl
       have hfz18_0 := blk_frozen BK151.out 0
       have hfz18_1 := blk_frozen BK151.out 1
       try go_wp2_with (first | ((with_reducible refine gate_callee (f := 72) rfl ?_); refine goesL_ (some 24) rfl rfl Try.func72 (by kernel_rfl) rfl #[.agg #[.slice A0_0 l0_0.length c0_0, .slice (some ad154) l0_1.length c0_1]] rfl (by (try simp only [List.map_toArray, List.map_cons, List.map_nil]); first | done | rfl | (simp only [List.length_drop, List.length_take]; rfl)) ?_; (with_reducible refine (spec_l2Own.calls _ _ l0_0 _ _ l0_1 t156 t159 _ ?side1 ?side2 ?side3 ?side4 A12.out).mono ?_); (case side1 => exact cz_ (Kd.C_below HR0_0.out HB.out)); (case side2 => exact HC0_0.out); (case side3 => exact cz_ (Kd.C_below HR0_1.out HB.out)); (case side4 => exact HC0_1.out); rintro e w19 ⟨v157, v160, rfl, ho0, ho1, hb⟩; refine ⟨_, rfl, ?_⟩; have n0_ := Aside0.mk (Kd.R_lower ho0 (below_size (by repeat (first | (with_reducible first | exact HB.out | apply below_alloc | apply pw_below_drewN | apply below_drew1 | refine below_set ?_ GE151.out | refine below_set ?_ GE152.out | refine below_set ?_ GE153.out) | exact HB.out)))); have n1_ := Aside0.mk (Kd.R_lower (Kd.R_newB ho1 (g := gb152) (o := .cells #[.int .i64 a1_0, .int .i64 a1_1] 36 (0, 0)) (bz_ BK152.out)) (below_size (by repeat (first | (with_reducible first | exact HB.out | apply below_alloc | apply pw_below_drewN | apply below_drew1 | refine below_set ?_ GE151.out | refine below_set ?_ GE152.out | refine below_set ?_ GE153.out) | exact HB.out)))); have n2_ := Aside0.mk (blk_below (bz_ BK151.out) hb); have n3_ := Aside0.mk (blk_below (bz_ BK152.out) hb); have n4_ := Aside0.mk (blk_below (bz_ BK153.out) hb); have n5_ := Aside0.mk (below_step (by repeat (first | (with_reducible first | exact HB.out | apply below_alloc | apply pw_below_drewN | apply below_drew1 | refine below_set ?_ GE151.out | refine below_set ?_ GE152.out | refine below_set ?_ GE153.out) | exact HB.out)) hb); clear BK151; clear BK152; clear BK153; clear HB; have HO158 := n0_; have HO161 := n1_; have BK151 := n2_; have BK152 := n3_; have BK153 := n4_; have HB := n5_; clear n0_ n1_ n2_ n3_ n4_ n5_; (try clear hb); (try clear hb2); (try clear hk); (try clear hi); (try clear ho0); (try clear ho1)) | ((with_reducible refine gate_dst (N := 6) rfl ?_); refine box_event ?hg (N := 6) ?hd (cs := #[.slice none 0 0, .slice none 0 0]) (t := 32) ?hr ?_; (case hd => rfl); (case hg => rfl); (case hr => first | (go_simp; done) | (go_simp; rfl)); intro gb162 hg w20 hbox hb; have n0_ := Aside0.mk (Kd.R_below (rz_ HO158.out) hb); have n1_ := Aside0.mk (Kd.R_below (rz_ HO161.out) hb); have n2_ := Aside0.mk (blk_below (bz_ BK151.out) hb); have n3_ := Aside0.mk (blk_below (bz_ BK152.out) hb); have n4_ := Aside0.mk (blk_below (bz_ BK153.out) hb); have n5_ := Aside0.mk (below_step (by repeat (first | (with_reducible first | exact HB.out | apply below_alloc | apply pw_below_drewN | apply below_drew1 | refine below_set ?_ GE151.out | refine below_set ?_ GE152.out | refine below_set ?_ GE153.out) | exact HB.out)) hb); have n6_ := Aside0.mk (hbox); have n7_ := Aside0.mk ((by rw [hg]; exact (below_size (by repeat (first | (with_reducible first | exact HB.out | apply below_alloc | apply pw_below_drewN | apply below_drew1 | refine below_set ?_ GE151.out | refine below_set ?_ GE152.out | refine below_set ?_ GE153.out) | exact HB.out))) : w.heap.size ≤ gb162)); have n8_ := Aside0.mk ((by rw [hg]; exact (below_size (by repeat (first | (with_reducible first | exact HB.out | apply below_alloc | apply pw_below_drewN | apply below_drew1 | refine below_set ?_ GE151.out | refine below_set ?_ GE152.out | refine below_set ?_ GE153.out) | exact HB.out))) : w.heap.size ≤ gb162)); have n9_ := Aside0.mk ((by rw [hg]; exact Nat.ne_of_lt (blk_lt (g := gb151) (o := .cells #[.slice A0_0 l0_0.length c0_0, .slice (some ad154) l0_1.length c0_1] 32 (0, 0)) (bz_ BK151.out)) : gb151 ≠ gb162)); have n10_ := Aside0.mk ((by rw [hg]; exact Nat.ne_of_gt (blk_lt (g := gb151) (o := .cells #[.slice A0_0 l0_0.length c0_0, .slice (some ad154) l0_1.length c0_1] 32 (0, 0)) (bz_ BK151.out)) : gb162 ≠ gb151)); have n11_ := Aside0.mk ((by rw [hg]; exact Nat.ne_of_lt (blk_lt (g := gb152) (o := .cells #[.int .i64 a1_0, .int .i64 a1_1] 36 (0, 0)) (bz_ BK152.out)) : gb152 ≠ gb162)); have n12_ := Aside0.mk ((by rw [hg]; exact Nat.ne_of_gt (blk_lt (g := gb152) (o := .cells #[.int .i64 a1_0, .int .i64 a1_1] 36 (0, 0)) (bz_ BK152.out)) : gb162 ≠ gb152)); have n13_ := Aside0.mk ((by rw [hg]; exact Nat.ne_of_lt (blk_lt (g := gb153) (o := .cells #[.slice none 0 0, .slice none 0 0] 32 (0, 0)) (bz_ BK153.out)) : gb153 ≠ gb162)); have n14_ := Aside0.mk ((by rw [hg]; exact Nat.ne_of_gt (blk_lt (g := gb153) (o := .cells #[.slice none 0 0, .slice none 0 0] 32 (0, 0)) (bz_ BK153.out)) : gb162 ≠ gb153)); clear HO158; clear HO161; clear BK151; clear BK152; clear BK153; clear HB; have HO158 := n0_; have HO161 := n1_; have BK151 := n2_; have BK152 := n3_; have BK153 := n4_; have HB := n5_; have BK162 := n6_; have GW162 := n7_; have GE162 := n8_; have NB151_162 := n9_; have NB162_151 := n10_; have NB152_162 := n11_; have NB162_152 := n12_; have NB153_162 := n13_; have NB162_153 := n14_; clear n0_ n1_ n2_ n3_ n4_ n5_ n6_ n7_ n8_ n9_ n10_ n11_ n12_ n13_ n14_; clear hb hbox hg; obtain ⟨Ao21, co21, eo21⟩ := Kd.R_slice HO158.out; subst eo21; have hnb22 := NB162_151.out; have hnc22 := NB151_162.out; have hnb23 := NB162_152.out; have hnc23 := NB152_162.out; have hnb24 := NB162_153.out; have hnc24 := NB153_162.out; have hcz25_0 : w20.cell? ⟨gb162, 0, none⟩ = some (.slice none 0 0) := (blk_cell BK162.out 0).trans rfl; have hcz25_1 : w20.cell? ⟨gb162, 1, none⟩ = some (.slice none 0 0) := (blk_cell BK162.out 1).trans rfl; have hfz25_0 := blk_frozen BK162.out 0; have hfz25_1 := blk_frozen BK162.out 1; obtain ⟨Ao26, co26, eo26⟩ := Kd.R_slice HO161.out; subst eo26))
       have n0_ : Aside0 (Kd.R k44 44 ((w20.setCell ⟨gb162, 0, none⟩ (.slice Ao21 t156.length co21)).setCell ⟨gb162, 1, none⟩ (.slice Ao26 t159.length co26)) w.heap.size (fun _ => True) (.slice Ao21 t156.length co21) t156) := ⟨rz_ (Kd.R_mono (Kd.R_far (p := ⟨gb162, 1, none⟩) (Kd.R_far (p := ⟨gb162, 0, none⟩) (Kd.R_types HO158.out BK162.out (by decide)) (fun _ hk => hk.2) (.slice Ao21 t156.length co21)) (fun _ hk => hk.2) (.slice Ao26 t159.length co26)) (fun _ hk => trivial))⟩
       have n1_ : Aside0 (Kd.R k36 36 ((w20.setCell ⟨gb162, 0, none⟩ (.slice Ao21 t156.length co21)).setCell ⟨gb162, 1, none⟩ (.slice Ao26 t159.length co26)) w.heap.size (fun k_ => k_ ≠ gb152) (.slice Ao26 t159.length co26) t159) := ⟨rz_ (Kd.R_mono (Kd.R_far (p := ⟨gb162, 1, none⟩) (Kd.R_far (p := ⟨gb162, 0, none⟩) (Kd.R_types HO161.out BK162.out (by decide)) (fun _ hk => hk.2) (.slice Ao21 t156.length co21)) (fun _ hk => hk.2) (.slice Ao26 t159.length co26)) (fun _ hk => hk.1.2))⟩
       have n2_ : Aside0 (((w20.setCell ⟨gb162, 0, none⟩ (.slice Ao21 t156.length co21)).setCell ⟨gb162, 1, none⟩ (.slice Ao26 t159.length co26)).heap[gb151]? = some (.cells #[.slice A0_0 l0_0.length c0_0, .slice (some ad154) l0_1.length c0_1] 32 (0, 0))) := ⟨by (with_reducible repeat (first | refine blk_drewN ?_ _ | refine blk_drew ?_ | refine blk_alloc ?_ _)); refine blk_far ?_ NB151_162.out _; (with_reducible repeat (first | refine blk_drewN ?_ _ | refine blk_drew ?_ | refine blk_alloc ?_ _)); refine blk_far ?_ NB151_162.out _; (with_reducible repeat (first | refine blk_drewN ?_ _ | refine blk_drew ?_ | refine blk_alloc ?_ _)); exact BK151.out⟩
       have n3_ : Aside0 (((w20.setCell ⟨gb162, 0, none⟩ (.slice Ao21 t156.length co21)).setCell ⟨gb162, 1, none⟩ (.slice Ao26 t159.length co26)).heap[gb152]? = some (.cells #[.int .i64 a1_0, .int .i64 a1_1] 36 (0, 0))) := ⟨by (with_reducible repeat (first | refine blk_drewN ?_ _ | refine blk_drew ?_ | refine blk_alloc ?_ _)); refine blk_far ?_ NB152_162.out _; (with_reducible repeat (first | refine blk_drewN ?_ _ | refine blk_drew ?_ | refine blk_alloc ?_ _)); refine blk_far ?_ NB152_162.out _; (with_reducible repeat (first | refine blk_drewN ?_ _ | refine blk_drew ?_ | refine blk_alloc ?_ _)); exact BK152.out⟩
       have n4_ : Aside0 (((w20.setCell ⟨gb162, 0, none⟩ (.slice Ao21 t156.length co21)).setCell ⟨gb162, 1, none⟩ (.slice Ao26 t159.length co26)).heap[gb153]? = some (.cells #[.slice none 0 0, .slice none 0 0] 32 (0, 0))) := ⟨by (with_reducible repeat (first | refine blk_drewN ?_ _ | refine blk_drew ?_ | refine blk_alloc ?_ _)); refine blk_far ?_ NB153_162.out _; (with_reducible repeat (first | refine blk_drewN ?_ _ | refine blk_drew ?_ | refine blk_alloc ?_ _)); refine blk_far ?_ NB153_162.out _; (with_reducible repeat (first | refine blk_drewN ?_ _ | refine blk_drew ?_ | refine blk_alloc ?_ _)); exact BK153.out⟩
       have n5_ : Aside0 (((w20.setCell ⟨gb162, 0, none⟩ (.slice Ao21 t156.length co21)).setCell ⟨gb162, 1, none⟩ (.slice Ao26 t159.length co26)).heap[gb162]? = some (.cells #[.slice Ao21 t156.length co21, .slice Ao26 t159.length co26] 32 (0, 0))) := ⟨by (with_reducible repeat (first | refine blk_drewN ?_ _ | refine blk_drew ?_ | refine blk_alloc ?_ _)); refine blk_put (cs := #[.slice Ao21 t156.length co21, .slice none 0 0]) ?_ 1 _ rfl; (with_reducible repeat (first | refine blk_drewN ?_ _ | refine blk_drew ?_ | refine blk_alloc ?_ _)); refine blk_put (cs := #[.slice none 0 0, .slice none 0 0]) ?_ 0 _ rfl; (with_reducible repeat (first | refine blk_drewN ?_ _ | refine blk_drew ?_ | refine blk_alloc ?_ _)); exact BK162.out⟩
       have n6_ : Aside0 (Below w.heap.size w ((w20.setCell ⟨gb162, 0, none⟩ (.slice Ao21 t156.length co21)).setCell ⟨gb162, 1, none⟩ (.slice Ao26 t159.length co26))) := ⟨by repeat (first | (with_reducible first | exact HB.out | apply below_alloc | apply pw_below_drewN | apply below_drew1 | refine below_set ?_ GE151.out | refine below_set ?_ GE152.out | refine below_set ?_ GE153.out | refine below_set ?_ GE162.out) | exact HB.out)⟩
       (try clear HO158)
       (try clear HO161)
       (try clear BK151)
       (try clear BK152)
       (try clear BK153)
       (try clear BK162)
       (try clear HB)
       generalize ((w20.setCell ⟨gb162, 0, none⟩ (.slice Ao21 t156.length co21)).setCell ⟨gb162, 1, none⟩ (.slice Ao26 t159.length co26)) = w27 at n0_ n1_ n2_ n3_ n4_ n5_ n6_ ⊢
       have HO158 := n0_
       have HO161 := n1_
       have BK151 := n2_
       have BK152 := n3_
       have BK153 := n4_
       have BK162 := n5_
       have HB := n6_
       clear n0_ n1_ n2_ n3_ n4_ n5_ n6_
       have n0_ := Aside0.mk (Kd.R_drew HO158.out)
       have n1_ := Aside0.mk (Kd.R_drew HO161.out)
       have n2_ := Aside0.mk (blk_drew BK151.out)
       have n3_ := Aside0.mk (blk_drew BK152.out)
       have n4_ := Aside0.mk (blk_drew BK153.out)
       have n5_ := Aside0.mk (blk_drew BK162.out)
       have n6_ := Aside0.mk (below_drew1 HB.out)
       clear HO158
       clear HO161
       clear BK151
       clear BK152
       clear BK153
       clear BK162
       clear HB
       have HO158 := n0_
       have HO161 := n1_
       have BK151 := n2_
       have BK152 := n3_
       have BK153 := n4_
       have BK162 := n5_
       have HB := n6_
       clear n0_ n1_ n2_ n3_ n4_ n5_ n6_
       have p163 : 0 ≤ (x5_1 : Int) := of_decide_eq_true (by first | (with_reducible assumption) | assumption)
       have q163 : x5_1 < (l0_1.length : Int) := of_decide_eq_true (by first | (with_reducible assumption) | assumption)
       obtain ⟨ad163, e163, hx163_0, hx163_1⟩ := at_T36 HR0_1.out x5_1 p163 q163
       have hw163_1 := hx163_1
       have hw163_0 := hx163_0
       obtain rfl : ad154 = ad163 := (by injection e163)
       replace hx163_0 := (HB.out.cell (World.block_lt_of_cell? w _ hx163_0)).trans hx163_0
       replace hx163_1 := (HB.out.cell (World.block_lt_of_cell? w _ hx163_1)).trans hx163_1
       replace p163 := eq_true p163
       replace q163 := eq_true q163
       refine start_ (n := 14) (S := fun w' => w'.cell? ⟨gb151, 0, none⟩ = some (.slice A0_0 l0_0.length c0_0) ∧ w'.cell? ⟨gb151, 1, none⟩ = some (.slice (some ad154) l0_1.length c0_1) ∧ w'.cell? ⟨gb152, 0, none⟩ = some (.int .i64 a1_0) ∧ w'.cell? ⟨gb152, 1, none⟩ = some (.int .i64 a1_1) ∧ w'.cell? (ad154.add ((x5_1).toNat * 2)) = some (.int .i64 ((rd_T36 l0_1 x5_1).f0)) ∧ w'.cell? ⟨(ad154.add ((x5_1).toNat * 2)).block, (ad154.add ((x5_1).toNat * 2)).off + 1, none⟩ = some (.int .i64 ((rd_T36 l0_1 x5_1).f1))) (ds := []) #[false, false, false, false, false, false, false, false, false, false, false, false, false, false] (by kernel_rfl) rfl rfl ⟨(blk_cell BK151.out 0).trans rfl, (blk_cell BK151.out 1).trans rfl, (blk_cell BK152.out 0).trans rfl, (blk_cell BK152.out 1).trans rfl, ((HB.out.cell (World.block_lt_of_cell? w _ hw163_0)).trans hw163_0), ((HB.out.cell (World.block_lt_of_cell? w _ hw163_1)).trans hw163_1)⟩ (fun hHeld => ?_); refine with_tabW spec_l2Link.tab5 spec_l2Link.bits5 (fun HT_ HW_ => ?_)
       generalize w27.drew = w28 at HO158 HO161 BK151 BK152 BK153 BK162 HB hx163_0 hx163_1 hHeld ⊢
       refine pA_ 0 (some 25) (bl 1 14) HT_.out (h := ?_)
       refine pA_ 1 (some 26) (bl 2 14) HT_.out (h := ?_)
       refine tA_ 2 (some 27) (bl 3 14) HT_.out HW_.out hHeld (h := ?_)
       refine pA_ 3 (some 28) (bl 4 14) HT_.out (h := ?_)
       refine pA_ 4 (some 29) (bl 5 14) HT_.out (h := ?_)
       refine pA_ 5 (some 30) (bl 6 14) HT_.out (h := ?_)
       refine pA_ 6 (some 31) (bl 7 14) HT_.out (h := ?_)
       refine pA_ 8 (some 33) #[true, true, true, true, true, true, true, false, true, false, false, false, false, false] HT_.out (h := ?_)
       refine tA_ 7 (some 32) (bl 9 14) HT_.out HW_.out hHeld (h := ?_)
       refine pA_ 9 (some 34) (bl 10 14) HT_.out (h := ?_)
       refine tA_ 10 (some 35) (bl 11 14) HT_.out HW_.out hHeld (h := ?_)
       refine tA_ 11 (some 36) (bl 12 14) HT_.out HW_.out hHeld (h := ?_)
       refine pA_ 12 (some 37) (bl 13 14) HT_.out (h := ?_)
       refine pA_ 13 (some 38) (bl 14 14) HT_.out (h := ?_)
       refine done_ (done_of HT_.out (by kernel_rfl)) ?_
       have hcz29_0 : w28.cell? ⟨gb162, 0, none⟩ = some (.slice Ao21 t156.length co21) := (blk_cell BK162.out 0).trans rfl
       have hcz29_1 : w28.cell? ⟨gb162, 1, none⟩ = some (.slice Ao26 t159.length co26) := (blk_cell BK162.out 1).trans rfl
       have hfz29_0 := blk_frozen BK162.out 0
       have hfz29_1 := blk_frozen BK162.out 1
       have hnb30 := NB153_152.out
       have hnc30 := NB152_153.out
       have hcz31_0 : w28.cell? ⟨gb153, 0, none⟩ = some (.slice none 0 0) := (blk_cell BK153.out 0).trans rfl
       have hcz31_1 : w28.cell? ⟨gb153, 1, none⟩ = some (.slice none 0 0) := (blk_cell BK153.out 1).trans rfl
       have hfz31_0 := blk_frozen BK153.out 0
       have hfz31_1 := blk_frozen BK153.out 1
       try go_wp2
       refine bodyPost_ret (results_cell_row rfl _ _ gb153 32 #[.slice Ao21 t156.length co21, .slice Ao26 t159.length co26] (0, 0) _ rfl (by (with_reducible repeat (first | refine blk_drewN ?_ _ | refine blk_drew ?_ | refine blk_alloc ?_ _)); refine blk_put (cs := #[.slice Ao21 t156.length co21, .slice none 0 0]) ?_ 1 _ rfl; (with_reducible repeat (first | refine blk_drewN ?_ _ | refine blk_drew ?_ | refine blk_alloc ?_ _)); refine blk_put (cs := #[.slice none 0 0, .slice none 0 0]) ?_ 0 _ rfl; (with_reducible repeat (first | refine blk_drewN ?_ _ | refine blk_drew ?_ | refine blk_alloc ?_ _)); exact BK153.out) Try.underlying32 rfl (by kernel_rfl)) rfl ?_
       exact ⟨_, _, by first | rfl | (simp [errW_none, errW_some] <;> rfl) | (simp [*, errW_none, errW_some] <;> rfl), rz_ (Kd.R_mono (Kd.R_far (p := ⟨gb153, 1, none⟩) (Kd.R_far (p := ⟨gb153, 0, none⟩) (Kd.R_types HO158.out BK153.out (by decide)) (fun _ hk => hk.2) (.slice Ao21 t156.length co21)) (fun _ hk => hk.2) (.slice Ao26 t159.length co26)) (fun _ hk => trivial)), rz_ (Kd.R_mono (Kd.R_far (p := ⟨gb153, 1, none⟩) (Kd.R_far (p := ⟨gb153, 0, none⟩) (Kd.R_types HO161.out BK153.out (by decide)) (fun _ hk => hk.2) (.slice Ao21 t156.length co21)) (fun _ hk => hk.2) (.slice Ao26 t159.length co26)) (fun _ hk => trivial)), by repeat (first | (with_reducible first | exact HB.out | apply below_alloc | apply pw_below_drewN | apply below_drew1 | refine below_set ?_ GE151.out | refine below_set ?_ GE152.out | refine below_set ?_ GE153.out | refine below_set ?_ GE162.out) | exact HB.out)⟩
      ·rw [if_neg c13] at H
       have c13b0 : (((rd_T36 l0_1 x5_1).f0) == a1_0 && (((rd_T36 l0_1 x5_1).f1) == a1_1)) = false := by simpa using c13
       (try (have c13b1 : decide (((rd_T36 l0_1 x5_1).f0) = a1_0 && (((rd_T36 l0_1 x5_1).f1) == a1_1)) = false := by simpa using c13))
       (try (have c13b2 : (((rd_T36 l0_1 x5_1).f0) == a1_0 && (((rd_T36 l0_1 x5_1).f1) == a1_1)) = false := by simpa using c13))
       (try (have c13b3 : ¬ (((rd_T36 l0_1 x5_1).f0) = a1_0 && (((rd_T36 l0_1 x5_1).f1) == a1_1)) := by simpa using c13))
       clear c13
       obtain ⟨y164, hy164⟩ : ∃ y_ : List (S36), y_ = (([] : List (S36))) := ⟨_, rfl⟩
       replace H : (if x5_1 ≤ (l0_1.length : Int) then ((some (l0_1.take (x5_1 : Int).toNat : List (S36))).bind fun y167 => (if y164.length + y167.length < 8796093022208 then ((some (y164 ++ y167 : List (S36))).bind fun y171 => ((some (([(⟨a1_0, a1_1⟩ : S36)] : List (S36)) : List (S36))).bind fun y174 => (if y171.length + y174.length < 8796093022208 then ((some (y171 ++ y174 : List (S36))).bind fun y177 => ((some (l0_1.drop (x5_1 : Int).toNat : List (S36))).bind fun y180 => (if y177.length + y180.length < 8796093022208 then (some (t156, (y177 ++ y180))) else (none)))) else (none)))) else (none))) else (none)) = some (r1, r2) := by first | (rw [hy164]; with_reducible exact H) | (have H2_ := (Option.bind_some _ _).symm.trans H; rw [hy164]; with_reducible exact H2_) | (have H2_ := (Option.bind_some _ _).symm.trans H; with_reducible exact H2_) | with_reducible exact H | (rw [hy164]; exact H) | exact H
       have Ny164 := Aside0.mk hy164
       clear hy164
       have c32b0 := eq_true (of_decide_eq_true (by first | (with_reducible assumption) | assumption) : 0 ≤ x5_1)
       by_cases c33 : x5_1 ≤ (l0_1.length : Int)
       ·rw [if_pos c33] at H
        have c33b0 := eq_true c33
        have c33b1 : decide (x5_1 ≤ (l0_1.length : Int)) = true := decide_eq_true c33
        clear c33
        obtain ⟨y167, hy167⟩ : ∃ y_ : List (S36), y_ = (l0_1.take (x5_1 : Int).toNat) := ⟨_, rfl⟩
        replace H : (if y164.length + y167.length < 8796093022208 then ((some (y164 ++ y167 : List (S36))).bind fun y171 => ((some (([(⟨a1_0, a1_1⟩ : S36)] : List (S36)) : List (S36))).bind fun y174 => (if y171.length + y174.length < 8796093022208 then ((some (y171 ++ y174 : List (S36))).bind fun y177 => ((some (l0_1.drop (x5_1 : Int).toNat : List (S36))).bind fun y180 => (if y177.length + y180.length < 8796093022208 then (some (t156, (y177 ++ y180))) else (none)))) else (none)))) else (none)) = some (r1, r2) := by first | (rw [hy167]; with_reducible exact H) | (have H2_ := (Option.bind_some _ _).symm.trans H; rw [hy167]; with_reducible exact H2_) | (have H2_ := (Option.bind_some _ _).symm.trans H; with_reducible exact H2_) | with_reducible exact H | (rw [hy167]; exact H) | exact H
        have Ny167 := Aside0.mk hy167
        clear hy167
        by_cases c34 : y164.length + y167.length < 8796093022208
        ·rw [if_pos c34] at H
         have LMc34 := Aside0.mk c34
         clear c34
         obtain ⟨y171, hy171⟩ : ∃ y_ : List (S36), y_ = (y164 ++ y167) := ⟨_, rfl⟩
         replace H : ((some (([(⟨a1_0, a1_1⟩ : S36)] : List (S36)) : List (S36))).bind fun y174 => (if y171.length + y174.length < 8796093022208 then ((some (y171 ++ y174 : List (S36))).bind fun y177 => ((some (l0_1.drop (x5_1 : Int).toNat : List (S36))).bind fun y180 => (if y177.length + y180.length < 8796093022208 then (some (t156, (y177 ++ y180))) else (none)))) else (none))) = some (r1, r2) := by first | (rw [hy171]; with_reducible exact H) | (have H2_ := (Option.bind_some _ _).symm.trans H; rw [hy171]; with_reducible exact H2_) | (have H2_ := (Option.bind_some _ _).symm.trans H; with_reducible exact H2_) | with_reducible exact H | (rw [hy171]; exact H) | exact H
         have Ny171 := Aside0.mk hy171
         clear hy171
         obtain ⟨y174, hy174⟩ : ∃ y_ : List (S36), y_ = (([(⟨a1_0, a1_1⟩ : S36)] : List (S36))) := ⟨_, rfl⟩
         replace H : (if y171.length + y174.length < 8796093022208 then ((some (y171 ++ y174 : List (S36))).bind fun y177 => ((some (l0_1.drop (x5_1 : Int).toNat : List (S36))).bind fun y180 => (if y177.length + y180.length < 8796093022208 then (some (t156, (y177 ++ y180))) else (none)))) else (none)) = some (r1, r2) := by first | (rw [hy174]; with_reducible exact H) | (have H2_ := (Option.bind_some _ _).symm.trans H; rw [hy174]; with_reducible exact H2_) | (have H2_ := (Option.bind_some _ _).symm.trans H; with_reducible exact H2_) | with_reducible exact H | (rw [hy174]; exact H) | exact H
         have Ny174 := Aside0.mk hy174
         clear hy174
         by_cases c35 : y171.length + y174.length < 8796093022208
         ·rw [if_pos c35] at H
          have LMc35 := Aside0.mk c35
          clear c35
          obtain ⟨y177, hy177⟩ : ∃ y_ : List (S36), y_ = (y171 ++ y174) := ⟨_, rfl⟩
          replace H : ((some (l0_1.drop (x5_1 : Int).toNat : List (S36))).bind fun y180 => (if y177.length + y180.length < 8796093022208 then (some (t156, (y177 ++ y180))) else (none))) = some (r1, r2) := by first | (rw [hy177]; with_reducible exact H) | (have H2_ := (Option.bind_some _ _).symm.trans H; rw [hy177]; with_reducible exact H2_) | (have H2_ := (Option.bind_some _ _).symm.trans H; with_reducible exact H2_) | with_reducible exact H | (rw [hy177]; exact H) | exact H
          have Ny177 := Aside0.mk hy177
          clear hy177
          have c36b0 := eq_true (of_decide_eq_true (by first | (with_reducible assumption) | assumption) : 0 ≤ x5_1)
          have c37b0 := eq_true (of_decide_eq_true (by first | (with_reducible assumption) | assumption) : x5_1 ≤ (l0_1.length : Int))
          obtain ⟨y180, hy180⟩ : ∃ y_ : List (S36), y_ = (l0_1.drop (x5_1 : Int).toNat) := ⟨_, rfl⟩
          replace H : (if y177.length + y180.length < 8796093022208 then (some (t156, (y177 ++ y180))) else (none)) = some (r1, r2) := by first | (rw [hy180]; with_reducible exact H) | (have H2_ := (Option.bind_some _ _).symm.trans H; rw [hy180]; with_reducible exact H2_) | (have H2_ := (Option.bind_some _ _).symm.trans H; with_reducible exact H2_) | with_reducible exact H | (rw [hy180]; exact H) | exact H
          have Ny180 := Aside0.mk hy180
          clear hy180
          by_cases c38 : y177.length + y180.length < 8796093022208
          ·rw [if_pos c38] at H
           have LMc38 := Aside0.mk c38
           clear c38
           obtain ⟨y184, hy184⟩ : ∃ y_ : List (S36), y_ = (y177 ++ y180) := ⟨_, rfl⟩
           replace H : (some (t156, y184)) = some (r1, r2) := by first | (rw [hy184]; with_reducible exact H) | (have H2_ := (Option.bind_some _ _).symm.trans H; rw [hy184]; with_reducible exact H2_) | (have H2_ := (Option.bind_some _ _).symm.trans H; with_reducible exact H2_) | with_reducible exact H | (rw [hy184]; exact H) | exact H
           have Ny184 := Aside0.mk hy184
           clear hy184
           simp only [Option.some.injEq, Prod.mk.injEq] at H
           obtain ⟨rfl, rfl⟩ := H
           try go_wp2
           have n0_ := Aside0.mk (blk_drew BK151.out)
           have n1_ := Aside0.mk (blk_drew BK152.out)
           have n2_ := Aside0.mk (blk_drew BK153.out)
           have n3_ := Aside0.mk (below_drew1 HB.out)
           clear BK151
           clear BK152
           clear BK153
           clear HB
           have BK151 := n0_
           have BK152 := n1_
           have BK153 := n2_
           have HB := n3_
           clear n0_ n1_ n2_ n3_
           have p154 : 0 ≤ (x5_1 : Int) := of_decide_eq_true (by first | (with_reducible assumption) | assumption)
           have q154 : x5_1 < (l0_1.length : Int) := of_decide_eq_true (by first | (with_reducible assumption) | assumption)
           obtain ⟨ad154, e154, hx154_0, hx154_1⟩ := at_T36 HR0_1.out x5_1 p154 q154
           have hw154_1 := hx154_1
           have hw154_0 := hx154_0
           cases e154
           replace hx154_0 := (HB.out.cell (World.block_lt_of_cell? w _ hx154_0)).trans hx154_0
           replace hx154_1 := (HB.out.cell (World.block_lt_of_cell? w _ hx154_1)).trans hx154_1
           replace p154 := eq_true p154
           replace q154 := eq_true q154
           refine start_ (n := 14) (S := fun w' => w'.cell? ⟨gb151, 0, none⟩ = some (.slice A0_0 l0_0.length c0_0) ∧ w'.cell? ⟨gb151, 1, none⟩ = some (.slice (some ad154) l0_1.length c0_1) ∧ w'.cell? ⟨gb152, 0, none⟩ = some (.int .i64 a1_0) ∧ w'.cell? ⟨gb152, 1, none⟩ = some (.int .i64 a1_1) ∧ w'.cell? (ad154.add ((x5_1).toNat * 2)) = some (.int .i64 ((rd_T36 l0_1 x5_1).f0)) ∧ w'.cell? ⟨(ad154.add ((x5_1).toNat * 2)).block, (ad154.add ((x5_1).toNat * 2)).off + 1, none⟩ = some (.int .i64 ((rd_T36 l0_1 x5_1).f1))) (ds := []) #[false, false, false, false, false, false, false, false, false, false, false, false, false, false] (by kernel_rfl) rfl rfl ⟨(blk_cell BK151.out 0).trans rfl, (blk_cell BK151.out 1).trans rfl, (blk_cell BK152.out 0).trans rfl, (blk_cell BK152.out 1).trans rfl, ((HB.out.cell (World.block_lt_of_cell? w _ hw154_0)).trans hw154_0), ((HB.out.cell (World.block_lt_of_cell? w _ hw154_1)).trans hw154_1)⟩ (fun hHeld => ?_); refine with_tabW spec_l2Link.tab2 spec_l2Link.bits2 (fun HT_ HW_ => ?_)
           generalize wr.drew = w39 at BK151 BK152 BK153 HB hx154_0 hx154_1 hHeld ⊢
           refine pA_ 0 (some 7) (bl 1 14) HT_.out (h := ?_)
           refine pA_ 1 (some 8) (bl 2 14) HT_.out (h := ?_)
           refine tA_ 2 (some 9) (bl 3 14) HT_.out HW_.out hHeld (h := ?_)
           refine pA_ 3 (some 10) (bl 4 14) HT_.out (h := ?_)
           refine pA_ 4 (some 11) (bl 5 14) HT_.out (h := ?_)
           refine pA_ 5 (some 12) (bl 6 14) HT_.out (h := ?_)
           refine pA_ 6 (some 13) (bl 7 14) HT_.out (h := ?_)
           refine pA_ 8 (some 15) #[true, true, true, true, true, true, true, false, true, false, false, false, false, false] HT_.out (h := ?_)
           refine tA_ 7 (some 14) (bl 9 14) HT_.out HW_.out hHeld (h := ?_)
           refine pA_ 9 (some 16) (bl 10 14) HT_.out (h := ?_)
           refine tA_ 10 (some 17) (bl 11 14) HT_.out HW_.out hHeld (h := ?_)
           refine tA_ 11 (some 18) (bl 12 14) HT_.out HW_.out hHeld (h := ?_)
           refine one_ (i := 12) (N := some 19) (bl 13 14) rfl rfl (one_of HT_.out (by kernel_rfl)) (by decide) (fun K hK => ?_)
           refine goes_ Try.func63 (by kernel_rfl) rfl #[.agg #[.int .i64 ((rd_T36 l0_1 x5_1).f0), .int .i64 ((rd_T36 l0_1 x5_1).f1)], .agg #[.int .i64 a1_0, .int .i64 a1_1]] (by rfl) rfl rfl (by (try simp only [List.map_toArray, List.map_cons, List.map_nil]); first | done | rfl | (simp only [List.length_drop, List.length_take]; rfl)) ?_
           with_reducible refine (spec_l2Before.calls ((rd_T36 l0_1 x5_1).f0) ((rd_T36 l0_1 x5_1).f1) a1_0 a1_1 false _ A8.out).mono ?_
           rintro e w40 ⟨rfl, hb⟩
           refine ⟨_, rfl, ?_⟩
           have n0_ := Aside0.mk (blk_below (bz_ BK151.out) hb)
           have n1_ := Aside0.mk (blk_below (bz_ BK152.out) hb)
           have n2_ := Aside0.mk (blk_below (bz_ BK153.out) hb)
           have n3_ := Aside0.mk (below_step (by repeat (first | (with_reducible first | exact HB.out | apply below_alloc | apply pw_below_drewN | apply below_drew1 | refine below_set ?_ GE151.out | refine below_set ?_ GE152.out | refine below_set ?_ GE153.out) | exact HB.out)) hb)
           clear BK151
           clear BK152
           clear BK153
           clear HB
           have BK151 := n0_
           have BK152 := n1_
           have BK153 := n2_
           have HB := n3_
           clear n0_ n1_ n2_ n3_
           (try clear hb)
           (try clear hb2)
           (try clear hk)
           (try clear hi)
           refine hK.out _ _ ⟨(blk_cell BK151.out 0).trans rfl, (blk_cell BK151.out 1).trans rfl, (blk_cell BK152.out 0).trans rfl, (blk_cell BK152.out 1).trans rfl, ((HB.out.cell (World.block_lt_of_cell? w _ hw154_0)).trans hw154_0), ((HB.out.cell (World.block_lt_of_cell? w _ hw154_1)).trans hw154_1)⟩ (fun hHeld => ?_)
           clear hK K
           refine norm_ (a' := ?_) ?_ ?_
           rotate_left
           ·show Act.put _ (some 19) _ = _
            simp only [Act.put, List.setIfInBounds_toArray, List.set_cons_zero, List.set_cons_succ, i64_w, i32_w]
            rfl
           refine pA_ 13 (some 20) (bl 14 14) HT_.out (h := ?_)
           refine done_ (done_of HT_.out (by kernel_rfl)) ?_
           have hnb41 := NB151_152.out
           have hnc41 := NB152_151.out
           have hnb42 := NB151_153.out
           have hnc42 := NB153_151.out
           have hcz43_0 : w40.cell? ⟨gb151, 0, none⟩ = some (.slice A0_0 l0_0.length c0_0) := (blk_cell BK151.out 0).trans rfl
           have hcz43_1 : w40.cell? ⟨gb151, 1, none⟩ = some (.slice (some ad154) l0_1.length c0_1) := (blk_cell BK151.out 1).trans rfl
           have hfz43_0 := blk_frozen BK151.out 0
           have hfz43_1 := blk_frozen BK151.out 1
           try go_wp2_with (first | ((with_reducible refine gate_callee (f := 72) rfl ?_); refine goesL_ (some 24) rfl rfl Try.func72 (by kernel_rfl) rfl #[.agg #[.slice A0_0 l0_0.length c0_0, .slice (some ad154) l0_1.length c0_1]] rfl (by (try simp only [List.map_toArray, List.map_cons, List.map_nil]); first | done | rfl | (simp only [List.length_drop, List.length_take]; rfl)) ?_; (with_reducible refine (spec_l2Own.calls _ _ l0_0 _ _ l0_1 t156 t159 _ ?side1 ?side2 ?side3 ?side4 A12.out).mono ?_); (case side1 => exact cz_ (Kd.C_below HR0_0.out HB.out)); (case side2 => exact HC0_0.out); (case side3 => exact cz_ (Kd.C_below HR0_1.out HB.out)); (case side4 => exact HC0_1.out); rintro e w44 ⟨v157, v160, rfl, ho0, ho1, hb⟩; refine ⟨_, rfl, ?_⟩; have n0_ := Aside0.mk (Kd.R_lower ho0 (below_size (by repeat (first | (with_reducible first | exact HB.out | apply below_alloc | apply pw_below_drewN | apply below_drew1 | refine below_set ?_ GE151.out | refine below_set ?_ GE152.out | refine below_set ?_ GE153.out) | exact HB.out)))); have n1_ := Aside0.mk (Kd.R_lower (Kd.R_newB ho1 (g := gb152) (o := .cells #[.int .i64 a1_0, .int .i64 a1_1] 36 (0, 0)) (bz_ BK152.out)) (below_size (by repeat (first | (with_reducible first | exact HB.out | apply below_alloc | apply pw_below_drewN | apply below_drew1 | refine below_set ?_ GE151.out | refine below_set ?_ GE152.out | refine below_set ?_ GE153.out) | exact HB.out)))); have n2_ := Aside0.mk (blk_below (bz_ BK151.out) hb); have n3_ := Aside0.mk (blk_below (bz_ BK152.out) hb); have n4_ := Aside0.mk (blk_below (bz_ BK153.out) hb); have n5_ := Aside0.mk (below_step (by repeat (first | (with_reducible first | exact HB.out | apply below_alloc | apply pw_below_drewN | apply below_drew1 | refine below_set ?_ GE151.out | refine below_set ?_ GE152.out | refine below_set ?_ GE153.out) | exact HB.out)) hb); clear BK151; clear BK152; clear BK153; clear HB; have HO158 := n0_; have HO161 := n1_; have BK151 := n2_; have BK152 := n3_; have BK153 := n4_; have HB := n5_; clear n0_ n1_ n2_ n3_ n4_ n5_; (try clear hb); (try clear hb2); (try clear hk); (try clear hi); (try clear ho0); (try clear ho1)) | ((with_reducible refine gate_dst (N := 6) rfl ?_); refine box_event ?hg (N := 6) ?hd (cs := #[.slice none 0 0, .slice none 0 0]) (t := 32) ?hr ?_; (case hd => rfl); (case hg => rfl); (case hr => first | (go_simp; done) | (go_simp; rfl)); intro gb162 hg w45 hbox hb; have n0_ := Aside0.mk (Kd.R_below (rz_ HO158.out) hb); have n1_ := Aside0.mk (Kd.R_below (rz_ HO161.out) hb); have n2_ := Aside0.mk (blk_below (bz_ BK151.out) hb); have n3_ := Aside0.mk (blk_below (bz_ BK152.out) hb); have n4_ := Aside0.mk (blk_below (bz_ BK153.out) hb); have n5_ := Aside0.mk (below_step (by repeat (first | (with_reducible first | exact HB.out | apply below_alloc | apply pw_below_drewN | apply below_drew1 | refine below_set ?_ GE151.out | refine below_set ?_ GE152.out | refine below_set ?_ GE153.out) | exact HB.out)) hb); have n6_ := Aside0.mk (hbox); have n7_ := Aside0.mk ((by rw [hg]; exact (below_size (by repeat (first | (with_reducible first | exact HB.out | apply below_alloc | apply pw_below_drewN | apply below_drew1 | refine below_set ?_ GE151.out | refine below_set ?_ GE152.out | refine below_set ?_ GE153.out) | exact HB.out))) : w.heap.size ≤ gb162)); have n8_ := Aside0.mk ((by rw [hg]; exact (below_size (by repeat (first | (with_reducible first | exact HB.out | apply below_alloc | apply pw_below_drewN | apply below_drew1 | refine below_set ?_ GE151.out | refine below_set ?_ GE152.out | refine below_set ?_ GE153.out) | exact HB.out))) : w.heap.size ≤ gb162)); have n9_ := Aside0.mk ((by rw [hg]; exact Nat.ne_of_lt (blk_lt (g := gb151) (o := .cells #[.slice A0_0 l0_0.length c0_0, .slice (some ad154) l0_1.length c0_1] 32 (0, 0)) (bz_ BK151.out)) : gb151 ≠ gb162)); have n10_ := Aside0.mk ((by rw [hg]; exact Nat.ne_of_gt (blk_lt (g := gb151) (o := .cells #[.slice A0_0 l0_0.length c0_0, .slice (some ad154) l0_1.length c0_1] 32 (0, 0)) (bz_ BK151.out)) : gb162 ≠ gb151)); have n11_ := Aside0.mk ((by rw [hg]; exact Nat.ne_of_lt (blk_lt (g := gb152) (o := .cells #[.int .i64 a1_0, .int .i64 a1_1] 36 (0, 0)) (bz_ BK152.out)) : gb152 ≠ gb162)); have n12_ := Aside0.mk ((by rw [hg]; exact Nat.ne_of_gt (blk_lt (g := gb152) (o := .cells #[.int .i64 a1_0, .int .i64 a1_1] 36 (0, 0)) (bz_ BK152.out)) : gb162 ≠ gb152)); have n13_ := Aside0.mk ((by rw [hg]; exact Nat.ne_of_lt (blk_lt (g := gb153) (o := .cells #[.slice none 0 0, .slice none 0 0] 32 (0, 0)) (bz_ BK153.out)) : gb153 ≠ gb162)); have n14_ := Aside0.mk ((by rw [hg]; exact Nat.ne_of_gt (blk_lt (g := gb153) (o := .cells #[.slice none 0 0, .slice none 0 0] 32 (0, 0)) (bz_ BK153.out)) : gb162 ≠ gb153)); clear HO158; clear HO161; clear BK151; clear BK152; clear BK153; clear HB; have HO158 := n0_; have HO161 := n1_; have BK151 := n2_; have BK152 := n3_; have BK153 := n4_; have HB := n5_; have BK162 := n6_; have GW162 := n7_; have GE162 := n8_; have NB151_162 := n9_; have NB162_151 := n10_; have NB152_162 := n11_; have NB162_152 := n12_; have NB153_162 := n13_; have NB162_153 := n14_; clear n0_ n1_ n2_ n3_ n4_ n5_ n6_ n7_ n8_ n9_ n10_ n11_ n12_ n13_ n14_; clear hb hbox hg; obtain ⟨Ao46, co46, eo46⟩ := Kd.R_slice HO158.out; subst eo46; have hnb47 := NB162_151.out; have hnc47 := NB151_162.out; have hnb48 := NB162_152.out; have hnc48 := NB152_162.out; have hnb49 := NB162_153.out; have hnc49 := NB153_162.out; have hcz50_0 : w45.cell? ⟨gb162, 0, none⟩ = some (.slice none 0 0) := (blk_cell BK162.out 0).trans rfl; have hcz50_1 : w45.cell? ⟨gb162, 1, none⟩ = some (.slice none 0 0) := (blk_cell BK162.out 1).trans rfl; have hfz50_0 := blk_frozen BK162.out 0; have hfz50_1 := blk_frozen BK162.out 1; obtain ⟨Ao51, co51, eo51⟩ := Kd.R_slice HO161.out; subst eo51))
           have n0_ : Aside0 (Kd.R k44 44 ((w45.setCell ⟨gb162, 0, none⟩ (.slice Ao46 t156.length co46)).setCell ⟨gb162, 1, none⟩ (.slice Ao51 t159.length co51)) w.heap.size (fun _ => True) (.slice Ao46 t156.length co46) t156) := ⟨rz_ (Kd.R_mono (Kd.R_far (p := ⟨gb162, 1, none⟩) (Kd.R_far (p := ⟨gb162, 0, none⟩) (Kd.R_types HO158.out BK162.out (by decide)) (fun _ hk => hk.2) (.slice Ao46 t156.length co46)) (fun _ hk => hk.2) (.slice Ao51 t159.length co51)) (fun _ hk => trivial))⟩
           have n1_ : Aside0 (Kd.R k36 36 ((w45.setCell ⟨gb162, 0, none⟩ (.slice Ao46 t156.length co46)).setCell ⟨gb162, 1, none⟩ (.slice Ao51 t159.length co51)) w.heap.size (fun k_ => k_ ≠ gb152) (.slice Ao51 t159.length co51) t159) := ⟨rz_ (Kd.R_mono (Kd.R_far (p := ⟨gb162, 1, none⟩) (Kd.R_far (p := ⟨gb162, 0, none⟩) (Kd.R_types HO161.out BK162.out (by decide)) (fun _ hk => hk.2) (.slice Ao46 t156.length co46)) (fun _ hk => hk.2) (.slice Ao51 t159.length co51)) (fun _ hk => hk.1.2))⟩
           have n2_ : Aside0 (((w45.setCell ⟨gb162, 0, none⟩ (.slice Ao46 t156.length co46)).setCell ⟨gb162, 1, none⟩ (.slice Ao51 t159.length co51)).heap[gb151]? = some (.cells #[.slice A0_0 l0_0.length c0_0, .slice (some ad154) l0_1.length c0_1] 32 (0, 0))) := ⟨by (with_reducible repeat (first | refine blk_drewN ?_ _ | refine blk_drew ?_ | refine blk_alloc ?_ _)); refine blk_far ?_ NB151_162.out _; (with_reducible repeat (first | refine blk_drewN ?_ _ | refine blk_drew ?_ | refine blk_alloc ?_ _)); refine blk_far ?_ NB151_162.out _; (with_reducible repeat (first | refine blk_drewN ?_ _ | refine blk_drew ?_ | refine blk_alloc ?_ _)); exact BK151.out⟩
           have n3_ : Aside0 (((w45.setCell ⟨gb162, 0, none⟩ (.slice Ao46 t156.length co46)).setCell ⟨gb162, 1, none⟩ (.slice Ao51 t159.length co51)).heap[gb152]? = some (.cells #[.int .i64 a1_0, .int .i64 a1_1] 36 (0, 0))) := ⟨by (with_reducible repeat (first | refine blk_drewN ?_ _ | refine blk_drew ?_ | refine blk_alloc ?_ _)); refine blk_far ?_ NB152_162.out _; (with_reducible repeat (first | refine blk_drewN ?_ _ | refine blk_drew ?_ | refine blk_alloc ?_ _)); refine blk_far ?_ NB152_162.out _; (with_reducible repeat (first | refine blk_drewN ?_ _ | refine blk_drew ?_ | refine blk_alloc ?_ _)); exact BK152.out⟩
           have n4_ : Aside0 (((w45.setCell ⟨gb162, 0, none⟩ (.slice Ao46 t156.length co46)).setCell ⟨gb162, 1, none⟩ (.slice Ao51 t159.length co51)).heap[gb153]? = some (.cells #[.slice none 0 0, .slice none 0 0] 32 (0, 0))) := ⟨by (with_reducible repeat (first | refine blk_drewN ?_ _ | refine blk_drew ?_ | refine blk_alloc ?_ _)); refine blk_far ?_ NB153_162.out _; (with_reducible repeat (first | refine blk_drewN ?_ _ | refine blk_drew ?_ | refine blk_alloc ?_ _)); refine blk_far ?_ NB153_162.out _; (with_reducible repeat (first | refine blk_drewN ?_ _ | refine blk_drew ?_ | refine blk_alloc ?_ _)); exact BK153.out⟩
           have n5_ : Aside0 (((w45.setCell ⟨gb162, 0, none⟩ (.slice Ao46 t156.length co46)).setCell ⟨gb162, 1, none⟩ (.slice Ao51 t159.length co51)).heap[gb162]? = some (.cells #[.slice Ao46 t156.length co46, .slice Ao51 t159.length co51] 32 (0, 0))) := ⟨by (with_reducible repeat (first | refine blk_drewN ?_ _ | refine blk_drew ?_ | refine blk_alloc ?_ _)); refine blk_put (cs := #[.slice Ao46 t156.length co46, .slice none 0 0]) ?_ 1 _ rfl; (with_reducible repeat (first | refine blk_drewN ?_ _ | refine blk_drew ?_ | refine blk_alloc ?_ _)); refine blk_put (cs := #[.slice none 0 0, .slice none 0 0]) ?_ 0 _ rfl; (with_reducible repeat (first | refine blk_drewN ?_ _ | refine blk_drew ?_ | refine blk_alloc ?_ _)); exact BK162.out⟩
           have n6_ : Aside0 (Below w.heap.size w ((w45.setCell ⟨gb162, 0, none⟩ (.slice Ao46 t156.length co46)).setCell ⟨gb162, 1, none⟩ (.slice Ao51 t159.length co51))) := ⟨by repeat (first | (with_reducible first | exact HB.out | apply below_alloc | apply pw_below_drewN | apply below_drew1 | refine below_set ?_ GE151.out | refine below_set ?_ GE152.out | refine below_set ?_ GE153.out | refine below_set ?_ GE162.out) | exact HB.out)⟩
           (try clear HO158)
           (try clear HO161)
           (try clear BK151)
           (try clear BK152)
           (try clear BK153)
           (try clear BK162)
           (try clear HB)
           generalize ((w45.setCell ⟨gb162, 0, none⟩ (.slice Ao46 t156.length co46)).setCell ⟨gb162, 1, none⟩ (.slice Ao51 t159.length co51)) = w52 at n0_ n1_ n2_ n3_ n4_ n5_ n6_ ⊢
           have HO158 := n0_
           have HO161 := n1_
           have BK151 := n2_
           have BK152 := n3_
           have BK153 := n4_
           have BK162 := n5_
           have HB := n6_
           clear n0_ n1_ n2_ n3_ n4_ n5_ n6_
           have n0_ := Aside0.mk (Kd.R_drew HO158.out)
           have n1_ := Aside0.mk (Kd.R_drew HO161.out)
           have n2_ := Aside0.mk (blk_drew BK151.out)
           have n3_ := Aside0.mk (blk_drew BK152.out)
           have n4_ := Aside0.mk (blk_drew BK153.out)
           have n5_ := Aside0.mk (blk_drew BK162.out)
           have n6_ := Aside0.mk (below_drew1 HB.out)
           clear HO158
           clear HO161
           clear BK151
           clear BK152
           clear BK153
           clear BK162
           clear HB
           have HO158 := n0_
           have HO161 := n1_
           have BK151 := n2_
           have BK152 := n3_
           have BK153 := n4_
           have BK162 := n5_
           have HB := n6_
           clear n0_ n1_ n2_ n3_ n4_ n5_ n6_
           have p163 : 0 ≤ (x5_1 : Int) := of_decide_eq_true (by first | (with_reducible assumption) | assumption)
           have q163 : x5_1 < (l0_1.length : Int) := of_decide_eq_true (by first | (with_reducible assumption) | assumption)
           obtain ⟨ad163, e163, hx163_0, hx163_1⟩ := at_T36 HR0_1.out x5_1 p163 q163
           have hw163_1 := hx163_1
           have hw163_0 := hx163_0
           obtain rfl : ad154 = ad163 := (by injection e163)
           replace hx163_0 := (HB.out.cell (World.block_lt_of_cell? w _ hx163_0)).trans hx163_0
           replace hx163_1 := (HB.out.cell (World.block_lt_of_cell? w _ hx163_1)).trans hx163_1
           replace p163 := eq_true p163
           replace q163 := eq_true q163
           refine start_ (n := 14) (S := fun w' => w'.cell? ⟨gb151, 0, none⟩ = some (.slice A0_0 l0_0.length c0_0) ∧ w'.cell? ⟨gb151, 1, none⟩ = some (.slice (some ad154) l0_1.length c0_1) ∧ w'.cell? ⟨gb152, 0, none⟩ = some (.int .i64 a1_0) ∧ w'.cell? ⟨gb152, 1, none⟩ = some (.int .i64 a1_1) ∧ w'.cell? (ad154.add ((x5_1).toNat * 2)) = some (.int .i64 ((rd_T36 l0_1 x5_1).f0)) ∧ w'.cell? ⟨(ad154.add ((x5_1).toNat * 2)).block, (ad154.add ((x5_1).toNat * 2)).off + 1, none⟩ = some (.int .i64 ((rd_T36 l0_1 x5_1).f1))) (ds := []) #[false, false, false, false, false, false, false, false, false, false, false, false, false, false] (by kernel_rfl) rfl rfl ⟨(blk_cell BK151.out 0).trans rfl, (blk_cell BK151.out 1).trans rfl, (blk_cell BK152.out 0).trans rfl, (blk_cell BK152.out 1).trans rfl, ((HB.out.cell (World.block_lt_of_cell? w _ hw163_0)).trans hw163_0), ((HB.out.cell (World.block_lt_of_cell? w _ hw163_1)).trans hw163_1)⟩ (fun hHeld => ?_); refine with_tabW spec_l2Link.tab5 spec_l2Link.bits5 (fun HT_ HW_ => ?_)
           generalize w52.drew = w53 at HO158 HO161 BK151 BK152 BK153 BK162 HB hx163_0 hx163_1 hHeld ⊢
           refine pA_ 0 (some 25) (bl 1 14) HT_.out (h := ?_)
           refine pA_ 1 (some 26) (bl 2 14) HT_.out (h := ?_)
           refine tA_ 2 (some 27) (bl 3 14) HT_.out HW_.out hHeld (h := ?_)
           refine pA_ 3 (some 28) (bl 4 14) HT_.out (h := ?_)
           refine pA_ 4 (some 29) (bl 5 14) HT_.out (h := ?_)
           refine pA_ 5 (some 30) (bl 6 14) HT_.out (h := ?_)
           refine pA_ 6 (some 31) (bl 7 14) HT_.out (h := ?_)
           refine pA_ 8 (some 33) #[true, true, true, true, true, true, true, false, true, false, false, false, false, false] HT_.out (h := ?_)
           refine tA_ 7 (some 32) (bl 9 14) HT_.out HW_.out hHeld (h := ?_)
           refine pA_ 9 (some 34) (bl 10 14) HT_.out (h := ?_)
           refine tA_ 10 (some 35) (bl 11 14) HT_.out HW_.out hHeld (h := ?_)
           refine tA_ 11 (some 36) (bl 12 14) HT_.out HW_.out hHeld (h := ?_)
           refine pA_ 12 (some 37) (bl 13 14) HT_.out (h := ?_)
           refine pA_ 13 (some 38) (bl 14 14) HT_.out (h := ?_)
           refine done_ (done_of HT_.out (by kernel_rfl)) ?_
           try go_wp2
           have n0_ := Aside0.mk (Kd.R_drew HO158.out)
           have n1_ := Aside0.mk (Kd.R_drew HO161.out)
           have n2_ := Aside0.mk (blk_drew BK151.out)
           have n3_ := Aside0.mk (blk_drew BK152.out)
           have n4_ := Aside0.mk (blk_drew BK153.out)
           have n5_ := Aside0.mk (blk_drew BK162.out)
           have n6_ := Aside0.mk (below_drew1 HB.out)
           clear HO158
           clear HO161
           clear BK151
           clear BK152
           clear BK153
           clear BK162
           clear HB
           have HO158 := n0_
           have HO161 := n1_
           have BK151 := n2_
           have BK152 := n3_
           have BK153 := n4_
           have BK162 := n5_
           have HB := n6_
           clear n0_ n1_ n2_ n3_ n4_ n5_ n6_
           have q55 : (x5_1 : Int) ≤ ((l0_1.length : Int) : Int) := of_decide_eq_true (by first | (with_reducible assumption) | assumption)
           obtain ⟨i055, hi055, _, hsz55, _⟩ := info_parts info36
           have hroom55 : l0_1.length ≤ c0_1 := HC0_1.out
           have hC55 : Kd.C k36 _ (some ad154) l0_1.length l0_1 := HR0_1.out
           have hcut55 := cut_to (P := Try.prog) 30 36 .i64 Try.underlying30 hi055 (some ad154) l0_1.length c0_1 x5_1 (of_decide_eq_true (by first | (with_reducible assumption) | assumption)) q55 hroom55
           have hr55 := Kd.C_take (m := (x5_1 : Int).toNat) hC55 (by omega)
           have hy55 : y167.length = (x5_1 : Int).toNat := (by rw [Ny167.out, List.length_take]; omega)
           rw [← Ny167.out] at hr55
           rw [← hy55] at hcut55
           have HR170 := Aside0.mk hr55
           have HC170 := Aside0.mk (show y167.length ≤ c0_1 from by omega)
           clear hr55 hC55 hroom55 hi055 hsz55
           have KY55 := Aside0.mk hy55
           clear hy55
           replace q55 := eq_true q55
           have q56 : (x5_1 : Int) ≤ ((l0_1.length : Int) : Int) := of_decide_eq_true (by first | (with_reducible assumption) | assumption)
           obtain ⟨i056, hi056, _, hsz56, _⟩ := info_parts info36
           have hroom56 : l0_1.length ≤ c0_1 := HC0_1.out
           have hC56 : Kd.C k36 _ (some ad154) l0_1.length l0_1 := HR0_1.out
           have q056 : (0 : Int) ≤ (x5_1 : Int) := of_decide_eq_true (by first | (with_reducible assumption) | assumption)
           have hcut56 := cut_from (P := Try.prog) 30 36 .i64 Try.underlying30 hi056 2 hsz56 (some ad154) l0_1.length c0_1 x5_1 q056 q56
           have hr56 := Kd.C_drop (m := (x5_1 : Int).toNat) (c := c0_1) hC56 (by omega) hroom56
           obtain ⟨A56, hA56⟩ : ∃ A1, A1 = (if c0_1 = (x5_1 : Int).toNat then (some ad154) else ((some ad154) : Option Addr).map (·.add ((x5_1 : Int).toNat * 2))) := ⟨_, rfl⟩
           obtain ⟨c56, hc56⟩ : ∃ c1, c1 = c0_1 - (x5_1 : Int).toNat := ⟨_, rfl⟩
           have hy56 : y180.length = l0_1.length - (x5_1 : Int).toNat := (by rw [Ny180.out, List.length_drop] <;> omega)
           rw [show (l0_1).drop (x5_1 : Int).toNat = y180 from Ny180.out.symm] at hr56
           replace hr56 : Kd.C k36 _ A56 y180.length y180 := (by rw [hA56]; exact hr56)
           rw [← hy56, ← hA56, ← hc56] at hcut56
           have HR183 := Aside0.mk hr56
           have HC183 := Aside0.mk (show y180.length ≤ c56 from by rw [hy56, hc56]; exact Nat.sub_le_sub_right hroom56 _)
           clear hr56 hC56 hroom56 hi056 hsz56 hc56
           have KY56 := Aside0.mk hy56
           have KA56 := Aside0.mk hA56
           clear hy56 hA56
           replace q56 := eq_true q56
           refine start_ (n := 16) (S := fun w' => w'.cell? ⟨gb151, 0, none⟩ = some (.slice A0_0 l0_0.length c0_0) ∧ w'.cell? ⟨gb151, 1, none⟩ = some (.slice (some ad154) l0_1.length c0_1) ∧ w'.cell? ⟨gb152, 0, none⟩ = some (.int .i64 a1_0) ∧ w'.cell? ⟨gb152, 1, none⟩ = some (.int .i64 a1_1)) (ds := []) #[false, false, false, false, false, false, false, false, false, false, false, false, false, false, false, false] (by kernel_rfl) rfl rfl ⟨(blk_cell BK151.out 0).trans rfl, (blk_cell BK151.out 1).trans rfl, (blk_cell BK152.out 0).trans rfl, (blk_cell BK152.out 1).trans rfl⟩ (fun hHeld => ?_); refine with_tabW spec_l2Link.tab7 spec_l2Link.bits7 (fun HT_ HW_ => ?_)
           generalize w53.drew = w54 at HO158 HO161 BK151 BK152 BK153 BK162 HB HR170 HR183 hHeld ⊢
           refine pA_ 1 (some 41) #[false, true, false, false, false, false, false, false, false, false, false, false, false, false, false, false] HT_.out (h := ?_)
           refine pA_ 3 (some 43) #[false, true, false, true, false, false, false, false, false, false, false, false, false, false, false, false] HT_.out (h := ?_)
           refine pA_ 9 (some 49) #[false, true, false, true, false, false, false, false, false, true, false, false, false, false, false, false] HT_.out (h := ?_)
           refine pA_ 11 (some 51) #[false, true, false, true, false, false, false, false, false, true, false, true, false, false, false, false] HT_.out (h := ?_)
           refine tA_ 2 (some 42) #[false, true, true, true, false, false, false, false, false, true, false, true, false, false, false, false] HT_.out HW_.out hHeld (h := ?_)
           refine pA_ 4 (some 44) #[false, true, true, true, true, false, false, false, false, true, false, true, false, false, false, false] HT_.out (h := ?_)
           refine tA_ 6 (some 46) #[false, true, true, true, true, false, true, false, false, true, false, true, false, false, false, false] HT_.out HW_.out hHeld (h := ?_)
           refine tA_ 10 (some 50) #[false, true, true, true, true, false, true, false, false, true, true, true, false, false, false, false] HT_.out HW_.out hHeld (h := ?_)
           refine pA_ 12 (some 52) #[false, true, true, true, true, false, true, false, false, true, true, true, true, false, false, false] HT_.out (h := ?_)
           refine join_ (σ := Value × Value × Value) 4 #[true, true, true, true, true, true, true, true, false, true, true, true, true, false, false, false] (fun s_ => [(40, s_.1), (45, s_.2.1), (47, s_.2.2)]) (fun s_ w' => (w'.cell? ⟨gb151, 0, none⟩ = some (.slice A0_0 l0_0.length c0_0) ∧ w'.cell? ⟨gb151, 1, none⟩ = some (.slice (some ad154) l0_1.length c0_1) ∧ w'.cell? ⟨gb152, 0, none⟩ = some (.int .i64 a1_0) ∧ w'.cell? ⟨gb152, 1, none⟩ = some (.int .i64 a1_1)) ∧ (Kd.R k44 44 w' w.heap.size (fun _ => True) (.slice Ao46 t156.length co46) t156) ∧ (Kd.R k36 36 w' w.heap.size (fun k_ => some k_ ≠ (s_.2.1 : Value).ownBlock ∧ some k_ ≠ (s_.2.2 : Value).ownBlock ∧ k_ ≠ gb152) (.slice Ao51 t159.length co51) t159) ∧ (Kd.R k36 36 w' w.heap.size (fun k_ => some k_ ≠ (.slice Ao51 t159.length co51 : Value).ownBlock ∧ some k_ ≠ (s_.2.2 : Value).ownBlock ∧ k_ ≠ gb152) s_.2.1 y171) ∧ (Kd.R k36 36 w' w.heap.size (fun k_ => some k_ ≠ (.slice Ao51 t159.length co51 : Value).ownBlock ∧ some k_ ≠ (s_.2.1 : Value).ownBlock ∧ k_ ≠ gb152) s_.2.2 y174) ∧ (w'.heap[gb151]? = some (.cells #[.slice A0_0 l0_0.length c0_0, .slice (some ad154) l0_1.length c0_1] 32 (0, 0))) ∧ (w'.heap[gb152]? = some (.cells #[.int .i64 a1_0, .int .i64 a1_1] 36 (0, 0))) ∧ (w'.heap[gb153]? = some (.cells #[.slice none 0 0, .slice none 0 0] 32 (0, 0))) ∧ (w'.heap[gb162]? = some (.cells #[.slice Ao46 t156.length co46, .slice Ao51 t159.length co51] 32 (0, 0))) ∧ (Below w.heap.size w w')) ?_ ?_
           rotate_left
           ·intro hCont
            refine two_ (i := 0) (j := 7) (Ni := some 40) (Nj := some 47) #[true, true, true, true, true, false, true, false, false, true, true, true, true, false, false, false] #[false, true, true, true, true, false, true, true, false, true, true, true, true, false, false, false] rfl rfl rfl rfl (two_of HT_.out (by kernel_rfl)) (by decide) (by decide) (fun K hK => ?_) (fun K hK => ?_)
            ·skip
             refine Kd.R_lit_step k36 _ 36 ?hg (N := 40) ?hd (xs := ([] : List (S36))) (inner := []) (ok := fun _ => True) (okp := fun _ => True) ?hr ?hp (fun _ hk => hk) trivial (Below.refl _ _) (Nat.le_refl _) (by simp) ?_; (case hd => rfl); (case hg => rfl); (case hr => first | (go_simp; done) | (go_simp; rfl)); (case hp => exact (Reps.none _ _))
             intro v165 w57 ho58 hb hg_ hnew_
             clear hg_ hnew_
             (first | rw [← Ny164.out] at ho58 | (simp only [Int.reduceToNat] at ho58; rw [← Ny164.out] at ho58))
             have n0_ := Aside0.mk (Kd.R_below (rz_ HO158.out) hb)
             have n1_ := Aside0.mk (Kd.R_elder' (rz_ HO161.out) (Kd.R_base ho58) hb)
             have n2_ := Aside0.mk (Kd.R_lower (Kd.R_newB (Kd.R_new' ho58 (Kd.R_lt (rz_ HO161.out))) (g := gb152) (o := .cells #[.int .i64 a1_0, .int .i64 a1_1] 36 (0, 0)) (bz_ BK152.out)) (below_size (by repeat (first | (with_reducible first | exact HB.out | apply below_alloc | apply pw_below_drewN | apply below_drew1 | refine below_set ?_ GE151.out | refine below_set ?_ GE152.out | refine below_set ?_ GE153.out | refine below_set ?_ GE162.out) | exact HB.out))))
             have n3_ := Aside0.mk (blk_below (bz_ BK151.out) hb)
             have n4_ := Aside0.mk (blk_below (bz_ BK152.out) hb)
             have n5_ := Aside0.mk (blk_below (bz_ BK153.out) hb)
             have n6_ := Aside0.mk (blk_below (bz_ BK162.out) hb)
             have n7_ := Aside0.mk (below_step (by repeat (first | (with_reducible first | exact HB.out | apply below_alloc | apply pw_below_drewN | apply below_drew1 | refine below_set ?_ GE151.out | refine below_set ?_ GE152.out | refine below_set ?_ GE153.out | refine below_set ?_ GE162.out) | exact HB.out)) hb)
             clear HO158
             clear HO161
             clear BK151
             clear BK152
             clear BK153
             clear BK162
             clear HB
             have HO158 := n0_
             have HO161 := n1_
             have HO166 := n2_
             have BK151 := n3_
             have BK152 := n4_
             have BK153 := n5_
             have BK162 := n6_
             have HB := n7_
             clear n0_ n1_ n2_ n3_ n4_ n5_ n6_ n7_
             clear hb ho58
             refine hK.out _ _ ⟨(blk_cell BK151.out 0).trans rfl, (blk_cell BK151.out 1).trans rfl, (blk_cell BK152.out 0).trans rfl, (blk_cell BK152.out 1).trans rfl⟩ (fun hHeld => ?_)
             clear hK K
             refine norm_ (a' := ?_) ?_ ?_
             rotate_left
             ·show Act.put _ (some 40) _ = _
              simp only [Act.put, List.setIfInBounds_toArray, List.set_cons_zero, List.set_cons_succ, i64_w, i32_w]
              rfl
             refine two_ (i := 5) (j := 7) (Ni := some 45) (Nj := some 47) #[true, true, true, true, true, true, true, false, false, true, true, true, true, false, false, false] #[true, true, true, true, true, false, true, true, false, true, true, true, true, false, false, false] rfl rfl rfl rfl (two_of HT_.out (by kernel_rfl)) (by decide) (by decide) (fun K hK => ?_) (fun K hK => ?_)
             ·skip
              refine Kd.R_append_rows_step k36 (w0 := w) w.heap.size (by rfl) (.tmp 40) (.tmp 44) 30 36 (.agg #[(.int .i64 0), (.int .i64 0)]) 16 rfl Try.underlying30 info36 rfl (by decide) (by omega) v165 y164 y167 _ _ _ (fun k_ => some k_ ≠ (.slice Ao51 t159.length co51 : Value).ownBlock ∧ k_ ≠ gb152) (fun _ => False) rfl rfl ?aO ?aR (fun _ _ h => h) (fun _ h => h.elim) ?aF ?aB ?aS ?aL ?_
              (case aR => exact cz_ (Kd.C_below HR170.out HB.out))
              (case aB => exact (by repeat (first | (with_reducible first | exact HB.out | apply below_alloc | apply pw_below_drewN | apply below_drew1 | refine below_set ?_ GE151.out | refine below_set ?_ GE152.out | refine below_set ?_ GE153.out | refine below_set ?_ GE162.out) | exact HB.out)))
              (case aF => exact (fun k_ hk => ⟨Kd.fresh' (Kd.R_lt (rz_ HO161.out)) k_ hk, Kd.freshB (g := gb152) (o := .cells #[.int .i64 a1_0, .int .i64 a1_1] 36 (0, 0)) (bz_ BK152.out) k_ hk⟩))
              (case aO => exact (rz_ (Kd.R_mono HO166.out (fun _ hk => ⟨hk.1.2, hk.2⟩))))
              (case aS => exact (below_size (by repeat (first | (with_reducible first | exact HB.out | apply below_alloc | apply pw_below_drewN | apply below_drew1 | refine below_set ?_ GE151.out | refine below_set ?_ GE152.out | refine below_set ?_ GE153.out | refine below_set ?_ GE162.out) | exact HB.out))))
              (case aL => have := LMc34.out; omega)
              intro v172 w59 ho hb hg hat
              rw [← Ny171.out] at ho
              have n0_ := Aside0.mk (blk_grown (g := gb151) (o := .cells #[.slice A0_0 l0_0.length c0_0, .slice (some ad154) l0_1.length c0_1] 32 (0, 0)) (bz_ BK151.out) hg (Kd.R_ne HO166.out BK151.out (by decide)))
              have n1_ := Aside0.mk (blk_grown (g := gb152) (o := .cells #[.int .i64 a1_0, .int .i64 a1_1] 36 (0, 0)) (bz_ BK152.out) hg (Kd.R_away HO166.out (fun _ hk => hk.2)))
              have n2_ := Aside0.mk (blk_grown (g := gb153) (o := .cells #[.slice none 0 0, .slice none 0 0] 32 (0, 0)) (bz_ BK153.out) hg (Kd.R_ne HO166.out BK153.out (by decide)))
              have n3_ := Aside0.mk (Kd.R_over' (rz_ HO158.out) (Kd.R_typed (rz_ HO166.out)) (by decide) hg)
              have n4_ := Aside0.mk (Kd.R_after (ok := (fun k_ => k_ ≠ gb152)) (rz_ HO161.out) hg hat)
              have n5_ := Aside0.mk (blk_grown (g := gb162) (o := .cells #[.slice Ao46 t156.length co46, .slice Ao51 t159.length co51] 32 (0, 0)) (bz_ BK162.out) hg (Kd.R_ne HO166.out BK162.out (by decide)))
              have n6_ := Aside0.mk (hb)
              have n7_ := Aside0.mk (ho)
              clear BK151
              clear BK152
              clear BK153
              clear HO158
              clear HO161
              clear BK162
              clear HB
              clear HO166
              have BK151 := n0_
              have BK152 := n1_
              have BK153 := n2_
              have HO158 := n3_
              have HO161 := n4_
              have BK162 := n5_
              have HB := n6_
              have HO173 := n7_
              clear n0_ n1_ n2_ n3_ n4_ n5_ n6_ n7_
              clear ho hb hg hat
              refine hK.out _ _ ⟨(blk_cell BK151.out 0).trans rfl, (blk_cell BK151.out 1).trans rfl, (blk_cell BK152.out 0).trans rfl, (blk_cell BK152.out 1).trans rfl⟩ (fun hHeld => ?_)
              clear hK K
              refine norm_ (a' := ?_) ?_ ?_
              rotate_left
              ·show Act.put _ (some 45) _ = _
               simp only [Act.put, List.setIfInBounds_toArray, List.set_cons_zero, List.set_cons_succ, i64_w, i32_w]
               rfl
              refine one_ (i := 7) (N := some 47) #[true, true, true, true, true, true, true, true, false, true, true, true, true, false, false, false] rfl rfl (one_of HT_.out (by kernel_rfl)) (by decide) (fun K hK => ?_)
              refine Kd.R_lit_step k36 _ 36 ?hg (N := 47) ?hd (xs := ([(⟨a1_0, a1_1⟩ : S36)] : List (S36))) (inner := [.int .i64 a1_0, .int .i64 a1_1]) (ok := fun _ => True) (okp := fun _ => True) ?hr ?hp (fun _ hk => hk) trivial (Below.refl _ _) (Nat.le_refl _) (by simp) ?_; (case hd => rfl); (case hg => rfl); (case hr => first | (go_simp; done) | (go_simp; rfl)); (case hp => exact (Reps.c2 (show Kd.M k36 _ _ _ (⟨a1_0, a1_1⟩ : S36) [.int .i64 a1_0, .int .i64 a1_1] from (k36_mkM _ _ _ (⟨a1_0, a1_1⟩ : S36) )) (Reps.none _ _)))
              intro v175 w60 ho61 hb hg_ hnew_
              clear hg_ hnew_
              (first | rw [← Ny174.out] at ho61 | (simp only [Int.reduceToNat] at ho61; rw [← Ny174.out] at ho61))
              have n0_ := Aside0.mk (Kd.R_below (rz_ HO158.out) hb)
              have n1_ := Aside0.mk (Kd.R_elder' (rz_ HO161.out) (Kd.R_base ho61) hb)
              have n2_ := Aside0.mk (Kd.R_elder' (rz_ HO173.out) (Kd.R_base ho61) hb)
              have n3_ := Aside0.mk (Kd.R_lower (Kd.R_newB (Kd.R_new' (Kd.R_new' ho61 (Kd.R_lt (rz_ HO161.out))) (Kd.R_lt (rz_ HO173.out))) (g := gb152) (o := .cells #[.int .i64 a1_0, .int .i64 a1_1] 36 (0, 0)) (bz_ BK152.out)) (below_size (by repeat (first | (with_reducible first | exact HB.out | apply below_alloc | apply pw_below_drewN | apply below_drew1 | refine below_set ?_ GE151.out | refine below_set ?_ GE152.out | refine below_set ?_ GE153.out | refine below_set ?_ GE162.out) | exact HB.out))))
              have n4_ := Aside0.mk (blk_below (bz_ BK151.out) hb)
              have n5_ := Aside0.mk (blk_below (bz_ BK152.out) hb)
              have n6_ := Aside0.mk (blk_below (bz_ BK153.out) hb)
              have n7_ := Aside0.mk (blk_below (bz_ BK162.out) hb)
              have n8_ := Aside0.mk (below_step (by repeat (first | (with_reducible first | exact HB.out | apply below_alloc | apply pw_below_drewN | apply below_drew1 | refine below_set ?_ GE151.out | refine below_set ?_ GE152.out | refine below_set ?_ GE153.out | refine below_set ?_ GE162.out) | exact HB.out)) hb)
              clear HO158
              clear HO161
              clear HO173
              clear BK151
              clear BK152
              clear BK153
              clear BK162
              clear HB
              have HO158 := n0_
              have HO161 := n1_
              have HO173 := n2_
              have HO176 := n3_
              have BK151 := n4_
              have BK152 := n5_
              have BK153 := n6_
              have BK162 := n7_
              have HB := n8_
              clear n0_ n1_ n2_ n3_ n4_ n5_ n6_ n7_ n8_
              clear hb ho61
              refine hK.out _ _ ⟨(blk_cell BK151.out 0).trans rfl, (blk_cell BK151.out 1).trans rfl, (blk_cell BK152.out 0).trans rfl, (blk_cell BK152.out 1).trans rfl⟩ (fun hHeld => ?_)
              clear hK K
              refine norm_ (a' := ?_) ?_ ?_
              rotate_left
              ·show Act.put _ (some 47) _ = _
               simp only [Act.put, List.setIfInBounds_toArray, List.set_cons_zero, List.set_cons_succ, i64_w, i32_w]
               rfl
              exact norm_ (by simp only [putAll, Act.put, List.setIfInBounds_toArray, List.set_cons_zero, List.set_cons_succ]) (hCont (v165, v172, v175) _ ⟨hHeld, (rz_ HO158.out), (rz_ (Kd.R_mono HO161.out (fun _ hk => ⟨hk.1.2, ⟨hk.2, hk.1.1⟩⟩))), (rz_ (Kd.R_mono HO173.out (fun _ hk => ⟨hk.1.1, ⟨hk.2, hk.1.2⟩⟩))), (rz_ (Kd.R_mono HO176.out (fun _ hk => ⟨hk.1.1.2, ⟨hk.1.2, hk.2⟩⟩))), (bz_ BK151.out), (bz_ BK152.out), (bz_ BK153.out), (bz_ BK162.out), (by repeat (first | (with_reducible first | exact HB.out | apply below_alloc | apply pw_below_drewN | apply below_drew1 | refine below_set ?_ GE151.out | refine below_set ?_ GE152.out | refine below_set ?_ GE153.out | refine below_set ?_ GE162.out) | exact HB.out))⟩)
             ·skip
              refine Kd.R_lit_step k36 _ 36 ?hg (N := 47) ?hd (xs := ([(⟨a1_0, a1_1⟩ : S36)] : List (S36))) (inner := [.int .i64 a1_0, .int .i64 a1_1]) (ok := fun _ => True) (okp := fun _ => True) ?hr ?hp (fun _ hk => hk) trivial (Below.refl _ _) (Nat.le_refl _) (by simp) ?_; (case hd => rfl); (case hg => rfl); (case hr => first | (go_simp; done) | (go_simp; rfl)); (case hp => exact (Reps.c2 (show Kd.M k36 _ _ _ (⟨a1_0, a1_1⟩ : S36) [.int .i64 a1_0, .int .i64 a1_1] from (k36_mkM _ _ _ (⟨a1_0, a1_1⟩ : S36) )) (Reps.none _ _)))
              intro v175 w59 ho60 hb hg_ hnew_
              clear hg_ hnew_
              (first | rw [← Ny174.out] at ho60 | (simp only [Int.reduceToNat] at ho60; rw [← Ny174.out] at ho60))
              have n0_ := Aside0.mk (Kd.R_below (rz_ HO158.out) hb)
              have n1_ := Aside0.mk (Kd.R_elder' (rz_ HO161.out) (Kd.R_base ho60) hb)
              have n2_ := Aside0.mk (Kd.R_elder' (rz_ HO166.out) (Kd.R_base ho60) hb)
              have n3_ := Aside0.mk (Kd.R_lower (Kd.R_newB (Kd.R_new' (Kd.R_new' ho60 (Kd.R_lt (rz_ HO161.out))) (Kd.R_lt (rz_ HO166.out))) (g := gb152) (o := .cells #[.int .i64 a1_0, .int .i64 a1_1] 36 (0, 0)) (bz_ BK152.out)) (below_size (by repeat (first | (with_reducible first | exact HB.out | apply below_alloc | apply pw_below_drewN | apply below_drew1 | refine below_set ?_ GE151.out | refine below_set ?_ GE152.out | refine below_set ?_ GE153.out | refine below_set ?_ GE162.out) | exact HB.out))))
              have n4_ := Aside0.mk (blk_below (bz_ BK151.out) hb)
              have n5_ := Aside0.mk (blk_below (bz_ BK152.out) hb)
              have n6_ := Aside0.mk (blk_below (bz_ BK153.out) hb)
              have n7_ := Aside0.mk (blk_below (bz_ BK162.out) hb)
              have n8_ := Aside0.mk (below_step (by repeat (first | (with_reducible first | exact HB.out | apply below_alloc | apply pw_below_drewN | apply below_drew1 | refine below_set ?_ GE151.out | refine below_set ?_ GE152.out | refine below_set ?_ GE153.out | refine below_set ?_ GE162.out) | exact HB.out)) hb)
              clear HO158
              clear HO161
              clear HO166
              clear BK151
              clear BK152
              clear BK153
              clear BK162
              clear HB
              have HO158 := n0_
              have HO161 := n1_
              have HO166 := n2_
              have HO176 := n3_
              have BK151 := n4_
              have BK152 := n5_
              have BK153 := n6_
              have BK162 := n7_
              have HB := n8_
              clear n0_ n1_ n2_ n3_ n4_ n5_ n6_ n7_ n8_
              clear hb ho60
              refine hK.out _ _ ⟨(blk_cell BK151.out 0).trans rfl, (blk_cell BK151.out 1).trans rfl, (blk_cell BK152.out 0).trans rfl, (blk_cell BK152.out 1).trans rfl⟩ (fun hHeld => ?_)
              clear hK K
              refine norm_ (a' := ?_) ?_ ?_
              rotate_left
              ·show Act.put _ (some 47) _ = _
               simp only [Act.put, List.setIfInBounds_toArray, List.set_cons_zero, List.set_cons_succ, i64_w, i32_w]
               rfl
              refine one_ (i := 5) (N := some 45) #[true, true, true, true, true, true, true, true, false, true, true, true, true, false, false, false] rfl rfl (one_of HT_.out (by kernel_rfl)) (by decide) (fun K hK => ?_)
              refine Kd.R_append_rows_step k36 (w0 := w) w.heap.size (by rfl) (.tmp 40) (.tmp 44) 30 36 (.agg #[(.int .i64 0), (.int .i64 0)]) 16 rfl Try.underlying30 info36 rfl (by decide) (by omega) v165 y164 y167 _ _ _ (fun k_ => some k_ ≠ (.slice Ao51 t159.length co51 : Value).ownBlock ∧ some k_ ≠ (v175 : Value).ownBlock ∧ k_ ≠ gb152) (fun _ => False) rfl rfl ?aO ?aR (fun _ _ h => h) (fun _ h => h.elim) ?aF ?aB ?aS ?aL ?_
              (case aR => exact cz_ (Kd.C_below HR170.out HB.out))
              (case aB => exact (by repeat (first | (with_reducible first | exact HB.out | apply below_alloc | apply pw_below_drewN | apply below_drew1 | refine below_set ?_ GE151.out | refine below_set ?_ GE152.out | refine below_set ?_ GE153.out | refine below_set ?_ GE162.out) | exact HB.out)))
              (case aF => exact (fun k_ hk => ⟨Kd.fresh' (Kd.R_lt (rz_ HO161.out)) k_ hk, Kd.fresh' (Kd.R_lt (rz_ HO176.out)) k_ hk, Kd.freshB (g := gb152) (o := .cells #[.int .i64 a1_0, .int .i64 a1_1] 36 (0, 0)) (bz_ BK152.out) k_ hk⟩))
              (case aO => exact (rz_ (Kd.R_mono HO166.out (fun _ hk => ⟨hk.1.1.2, ⟨hk.2, hk.1.2⟩⟩))))
              (case aS => exact (below_size (by repeat (first | (with_reducible first | exact HB.out | apply below_alloc | apply pw_below_drewN | apply below_drew1 | refine below_set ?_ GE151.out | refine below_set ?_ GE152.out | refine below_set ?_ GE153.out | refine below_set ?_ GE162.out) | exact HB.out))))
              (case aL => have := LMc34.out; omega)
              intro v172 w61 ho hb hg hat
              rw [← Ny171.out] at ho
              have n0_ := Aside0.mk (blk_grown (g := gb151) (o := .cells #[.slice A0_0 l0_0.length c0_0, .slice (some ad154) l0_1.length c0_1] 32 (0, 0)) (bz_ BK151.out) hg (Kd.R_ne HO166.out BK151.out (by decide)))
              have n1_ := Aside0.mk (blk_grown (g := gb152) (o := .cells #[.int .i64 a1_0, .int .i64 a1_1] 36 (0, 0)) (bz_ BK152.out) hg (Kd.R_away HO166.out (fun _ hk => hk.1.2)))
              have n2_ := Aside0.mk (blk_grown (g := gb153) (o := .cells #[.slice none 0 0, .slice none 0 0] 32 (0, 0)) (bz_ BK153.out) hg (Kd.R_ne HO166.out BK153.out (by decide)))
              have n3_ := Aside0.mk (Kd.R_over' (rz_ HO158.out) (Kd.R_typed (rz_ HO166.out)) (by decide) hg)
              have n4_ := Aside0.mk (Kd.R_after (ok := (fun k_ => some k_ ≠ (v175 : Value).ownBlock ∧ k_ ≠ gb152)) (rz_ (Kd.R_mono HO161.out (fun _ hk => ⟨⟨hk.2, hk.1.1⟩, hk.1.2⟩))) hg hat)
              have n5_ := Aside0.mk (blk_grown (g := gb162) (o := .cells #[.slice Ao46 t156.length co46, .slice Ao51 t159.length co51] 32 (0, 0)) (bz_ BK162.out) hg (Kd.R_ne HO166.out BK162.out (by decide)))
              have n6_ := Aside0.mk (Kd.R_after (ok := (fun k_ => some k_ ≠ (.slice Ao51 t159.length co51 : Value).ownBlock ∧ k_ ≠ gb152)) (rz_ (Kd.R_mono HO176.out (fun _ hk => ⟨⟨hk.1.1.2, hk.2⟩, hk.1.2⟩))) hg hat)
              have n7_ := Aside0.mk (hb)
              have n8_ := Aside0.mk (ho)
              clear BK151
              clear BK152
              clear BK153
              clear HO158
              clear HO161
              clear BK162
              clear HO176
              clear HB
              clear HO166
              have BK151 := n0_
              have BK152 := n1_
              have BK153 := n2_
              have HO158 := n3_
              have HO161 := n4_
              have BK162 := n5_
              have HO176 := n6_
              have HB := n7_
              have HO173 := n8_
              clear n0_ n1_ n2_ n3_ n4_ n5_ n6_ n7_ n8_
              clear ho hb hg hat
              refine hK.out _ _ ⟨(blk_cell BK151.out 0).trans rfl, (blk_cell BK151.out 1).trans rfl, (blk_cell BK152.out 0).trans rfl, (blk_cell BK152.out 1).trans rfl⟩ (fun hHeld => ?_)
              clear hK K
              refine norm_ (a' := ?_) ?_ ?_
              rotate_left
              ·show Act.put _ (some 45) _ = _
               simp only [Act.put, List.setIfInBounds_toArray, List.set_cons_zero, List.set_cons_succ, i64_w, i32_w]
               rfl
              exact norm_ (by simp only [putAll, Act.put, List.setIfInBounds_toArray, List.set_cons_zero, List.set_cons_succ]) (hCont (v165, v172, v175) _ ⟨hHeld, (rz_ HO158.out), (rz_ (Kd.R_mono HO161.out (fun _ hk => ⟨hk.2, ⟨hk.1.1, hk.1.2⟩⟩))), (rz_ HO173.out), (rz_ (Kd.R_mono HO176.out (fun _ hk => ⟨hk.1.1, ⟨hk.2, hk.1.2⟩⟩))), (bz_ BK151.out), (bz_ BK152.out), (bz_ BK153.out), (bz_ BK162.out), (by repeat (first | (with_reducible first | exact HB.out | apply below_alloc | apply pw_below_drewN | apply below_drew1 | refine below_set ?_ GE151.out | refine below_set ?_ GE152.out | refine below_set ?_ GE153.out | refine below_set ?_ GE162.out) | exact HB.out))⟩)
            ·skip
             refine Kd.R_lit_step k36 _ 36 ?hg (N := 47) ?hd (xs := ([(⟨a1_0, a1_1⟩ : S36)] : List (S36))) (inner := [.int .i64 a1_0, .int .i64 a1_1]) (ok := fun _ => True) (okp := fun _ => True) ?hr ?hp (fun _ hk => hk) trivial (Below.refl _ _) (Nat.le_refl _) (by simp) ?_; (case hd => rfl); (case hg => rfl); (case hr => first | (go_simp; done) | (go_simp; rfl)); (case hp => exact (Reps.c2 (show Kd.M k36 _ _ _ (⟨a1_0, a1_1⟩ : S36) [.int .i64 a1_0, .int .i64 a1_1] from (k36_mkM _ _ _ (⟨a1_0, a1_1⟩ : S36) )) (Reps.none _ _)))
             intro v175 w57 ho58 hb hg_ hnew_
             clear hg_ hnew_
             (first | rw [← Ny174.out] at ho58 | (simp only [Int.reduceToNat] at ho58; rw [← Ny174.out] at ho58))
             have n0_ := Aside0.mk (Kd.R_below (rz_ HO158.out) hb)
             have n1_ := Aside0.mk (Kd.R_elder' (rz_ HO161.out) (Kd.R_base ho58) hb)
             have n2_ := Aside0.mk (Kd.R_lower (Kd.R_newB (Kd.R_new' ho58 (Kd.R_lt (rz_ HO161.out))) (g := gb152) (o := .cells #[.int .i64 a1_0, .int .i64 a1_1] 36 (0, 0)) (bz_ BK152.out)) (below_size (by repeat (first | (with_reducible first | exact HB.out | apply below_alloc | apply pw_below_drewN | apply below_drew1 | refine below_set ?_ GE151.out | refine below_set ?_ GE152.out | refine below_set ?_ GE153.out | refine below_set ?_ GE162.out) | exact HB.out))))
             have n3_ := Aside0.mk (blk_below (bz_ BK151.out) hb)
             have n4_ := Aside0.mk (blk_below (bz_ BK152.out) hb)
             have n5_ := Aside0.mk (blk_below (bz_ BK153.out) hb)
             have n6_ := Aside0.mk (blk_below (bz_ BK162.out) hb)
             have n7_ := Aside0.mk (below_step (by repeat (first | (with_reducible first | exact HB.out | apply below_alloc | apply pw_below_drewN | apply below_drew1 | refine below_set ?_ GE151.out | refine below_set ?_ GE152.out | refine below_set ?_ GE153.out | refine below_set ?_ GE162.out) | exact HB.out)) hb)
             clear HO158
             clear HO161
             clear BK151
             clear BK152
             clear BK153
             clear BK162
             clear HB
             have HO158 := n0_
             have HO161 := n1_
             have HO176 := n2_
             have BK151 := n3_
             have BK152 := n4_
             have BK153 := n5_
             have BK162 := n6_
             have HB := n7_
             clear n0_ n1_ n2_ n3_ n4_ n5_ n6_ n7_
             clear hb ho58
             refine hK.out _ _ ⟨(blk_cell BK151.out 0).trans rfl, (blk_cell BK151.out 1).trans rfl, (blk_cell BK152.out 0).trans rfl, (blk_cell BK152.out 1).trans rfl⟩ (fun hHeld => ?_)
             clear hK K
             refine norm_ (a' := ?_) ?_ ?_
             rotate_left
             ·show Act.put _ (some 47) _ = _
              simp only [Act.put, List.setIfInBounds_toArray, List.set_cons_zero, List.set_cons_succ, i64_w, i32_w]
              rfl
             refine one_ (i := 0) (N := some 40) #[true, true, true, true, true, false, true, true, false, true, true, true, true, false, false, false] rfl rfl (one_of HT_.out (by kernel_rfl)) (by decide) (fun K hK => ?_)
             refine Kd.R_lit_step k36 _ 36 ?hg (N := 40) ?hd (xs := ([] : List (S36))) (inner := []) (ok := fun _ => True) (okp := fun _ => True) ?hr ?hp (fun _ hk => hk) trivial (Below.refl _ _) (Nat.le_refl _) (by simp) ?_; (case hd => rfl); (case hg => rfl); (case hr => first | (go_simp; done) | (go_simp; rfl)); (case hp => exact (Reps.none _ _))
             intro v165 w59 ho60 hb hg_ hnew_
             clear hg_ hnew_
             (first | rw [← Ny164.out] at ho60 | (simp only [Int.reduceToNat] at ho60; rw [← Ny164.out] at ho60))
             have n0_ := Aside0.mk (Kd.R_below (rz_ HO158.out) hb)
             have n1_ := Aside0.mk (Kd.R_elder' (rz_ HO161.out) (Kd.R_base ho60) hb)
             have n2_ := Aside0.mk (Kd.R_elder' (rz_ HO176.out) (Kd.R_base ho60) hb)
             have n3_ := Aside0.mk (Kd.R_lower (Kd.R_newB (Kd.R_new' (Kd.R_new' ho60 (Kd.R_lt (rz_ HO161.out))) (Kd.R_lt (rz_ HO176.out))) (g := gb152) (o := .cells #[.int .i64 a1_0, .int .i64 a1_1] 36 (0, 0)) (bz_ BK152.out)) (below_size (by repeat (first | (with_reducible first | exact HB.out | apply below_alloc | apply pw_below_drewN | apply below_drew1 | refine below_set ?_ GE151.out | refine below_set ?_ GE152.out | refine below_set ?_ GE153.out | refine below_set ?_ GE162.out) | exact HB.out))))
             have n4_ := Aside0.mk (blk_below (bz_ BK151.out) hb)
             have n5_ := Aside0.mk (blk_below (bz_ BK152.out) hb)
             have n6_ := Aside0.mk (blk_below (bz_ BK153.out) hb)
             have n7_ := Aside0.mk (blk_below (bz_ BK162.out) hb)
             have n8_ := Aside0.mk (below_step (by repeat (first | (with_reducible first | exact HB.out | apply below_alloc | apply pw_below_drewN | apply below_drew1 | refine below_set ?_ GE151.out | refine below_set ?_ GE152.out | refine below_set ?_ GE153.out | refine below_set ?_ GE162.out) | exact HB.out)) hb)
             clear HO158
             clear HO161
             clear HO176
             clear BK151
             clear BK152
             clear BK153
             clear BK162
             clear HB
             have HO158 := n0_
             have HO161 := n1_
             have HO176 := n2_
             have HO166 := n3_
             have BK151 := n4_
             have BK152 := n5_
             have BK153 := n6_
             have BK162 := n7_
             have HB := n8_
             clear n0_ n1_ n2_ n3_ n4_ n5_ n6_ n7_ n8_
             clear hb ho60
             refine hK.out _ _ ⟨(blk_cell BK151.out 0).trans rfl, (blk_cell BK151.out 1).trans rfl, (blk_cell BK152.out 0).trans rfl, (blk_cell BK152.out 1).trans rfl⟩ (fun hHeld => ?_)
             clear hK K
             refine norm_ (a' := ?_) ?_ ?_
             rotate_left
             ·show Act.put _ (some 40) _ = _
              simp only [Act.put, List.setIfInBounds_toArray, List.set_cons_zero, List.set_cons_succ, i64_w, i32_w]
              rfl
             refine one_ (i := 5) (N := some 45) #[true, true, true, true, true, true, true, true, false, true, true, true, true, false, false, false] rfl rfl (one_of HT_.out (by kernel_rfl)) (by decide) (fun K hK => ?_)
             refine Kd.R_append_rows_step k36 (w0 := w) w.heap.size (by rfl) (.tmp 40) (.tmp 44) 30 36 (.agg #[(.int .i64 0), (.int .i64 0)]) 16 rfl Try.underlying30 info36 rfl (by decide) (by omega) v165 y164 y167 _ _ _ (fun k_ => some k_ ≠ (.slice Ao51 t159.length co51 : Value).ownBlock ∧ some k_ ≠ (v175 : Value).ownBlock ∧ k_ ≠ gb152) (fun _ => False) rfl rfl ?aO ?aR (fun _ _ h => h) (fun _ h => h.elim) ?aF ?aB ?aS ?aL ?_
             (case aR => exact cz_ (Kd.C_below HR170.out HB.out))
             (case aB => exact (by repeat (first | (with_reducible first | exact HB.out | apply below_alloc | apply pw_below_drewN | apply below_drew1 | refine below_set ?_ GE151.out | refine below_set ?_ GE152.out | refine below_set ?_ GE153.out | refine below_set ?_ GE162.out) | exact HB.out)))
             (case aF => exact (fun k_ hk => ⟨Kd.fresh' (Kd.R_lt (rz_ HO161.out)) k_ hk, Kd.fresh' (Kd.R_lt (rz_ HO176.out)) k_ hk, Kd.freshB (g := gb152) (o := .cells #[.int .i64 a1_0, .int .i64 a1_1] 36 (0, 0)) (bz_ BK152.out) k_ hk⟩))
             (case aO => exact (rz_ (Kd.R_mono HO166.out (fun _ hk => ⟨hk.1.1.2, ⟨hk.1.2, hk.2⟩⟩))))
             (case aS => exact (below_size (by repeat (first | (with_reducible first | exact HB.out | apply below_alloc | apply pw_below_drewN | apply below_drew1 | refine below_set ?_ GE151.out | refine below_set ?_ GE152.out | refine below_set ?_ GE153.out | refine below_set ?_ GE162.out) | exact HB.out))))
             (case aL => have := LMc34.out; omega)
             intro v172 w61 ho hb hg hat
             rw [← Ny171.out] at ho
             have n0_ := Aside0.mk (blk_grown (g := gb151) (o := .cells #[.slice A0_0 l0_0.length c0_0, .slice (some ad154) l0_1.length c0_1] 32 (0, 0)) (bz_ BK151.out) hg (Kd.R_ne HO166.out BK151.out (by decide)))
             have n1_ := Aside0.mk (blk_grown (g := gb152) (o := .cells #[.int .i64 a1_0, .int .i64 a1_1] 36 (0, 0)) (bz_ BK152.out) hg (Kd.R_away HO166.out (fun _ hk => hk.2)))
             have n2_ := Aside0.mk (blk_grown (g := gb153) (o := .cells #[.slice none 0 0, .slice none 0 0] 32 (0, 0)) (bz_ BK153.out) hg (Kd.R_ne HO166.out BK153.out (by decide)))
             have n3_ := Aside0.mk (Kd.R_over' (rz_ HO158.out) (Kd.R_typed (rz_ HO166.out)) (by decide) hg)
             have n4_ := Aside0.mk (Kd.R_after (ok := (fun k_ => some k_ ≠ (v175 : Value).ownBlock ∧ k_ ≠ gb152)) (rz_ (Kd.R_mono HO161.out (fun _ hk => ⟨⟨hk.1.2, hk.1.1⟩, hk.2⟩))) hg hat)
             have n5_ := Aside0.mk (blk_grown (g := gb162) (o := .cells #[.slice Ao46 t156.length co46, .slice Ao51 t159.length co51] 32 (0, 0)) (bz_ BK162.out) hg (Kd.R_ne HO166.out BK162.out (by decide)))
             have n6_ := Aside0.mk (Kd.R_after (ok := (fun k_ => some k_ ≠ (.slice Ao51 t159.length co51 : Value).ownBlock ∧ k_ ≠ gb152)) (rz_ (Kd.R_mono HO176.out (fun _ hk => ⟨⟨hk.1.1.2, hk.1.2⟩, hk.2⟩))) hg hat)
             have n7_ := Aside0.mk (hb)
             have n8_ := Aside0.mk (ho)
             clear BK151
             clear BK152
             clear BK153
             clear HO158
             clear HO161
             clear BK162
             clear HO176
             clear HB
             clear HO166
             have BK151 := n0_
             have BK152 := n1_
             have BK153 := n2_
             have HO158 := n3_
             have HO161 := n4_
             have BK162 := n5_
             have HO176 := n6_
             have HB := n7_
             have HO173 := n8_
             clear n0_ n1_ n2_ n3_ n4_ n5_ n6_ n7_ n8_
             clear ho hb hg hat
             refine hK.out _ _ ⟨(blk_cell BK151.out 0).trans rfl, (blk_cell BK151.out 1).trans rfl, (blk_cell BK152.out 0).trans rfl, (blk_cell BK152.out 1).trans rfl⟩ (fun hHeld => ?_)
             clear hK K
             refine norm_ (a' := ?_) ?_ ?_
             rotate_left
             ·show Act.put _ (some 45) _ = _
              simp only [Act.put, List.setIfInBounds_toArray, List.set_cons_zero, List.set_cons_succ, i64_w, i32_w]
              rfl
             exact norm_ (by simp only [putAll, Act.put, List.setIfInBounds_toArray, List.set_cons_zero, List.set_cons_succ]) (hCont (v165, v172, v175) _ ⟨hHeld, (rz_ HO158.out), (rz_ (Kd.R_mono HO161.out (fun _ hk => ⟨hk.2, ⟨hk.1.1, hk.1.2⟩⟩))), (rz_ HO173.out), (rz_ (Kd.R_mono HO176.out (fun _ hk => ⟨hk.1.1, ⟨hk.2, hk.1.2⟩⟩))), (bz_ BK151.out), (bz_ BK152.out), (bz_ BK153.out), (bz_ BK162.out), (by repeat (first | (with_reducible first | exact HB.out | apply below_alloc | apply pw_below_drewN | apply below_drew1 | refine below_set ?_ GE151.out | refine below_set ?_ GE152.out | refine below_set ?_ GE153.out | refine below_set ?_ GE162.out) | exact HB.out))⟩)
           rintro ⟨v165, v172, v175⟩ w62 ⟨hS_, h0_, h1_, h2_, h3_, h4_, h5_, h6_, h7_, h8_⟩
           have n0_ : Aside0 (Kd.R k44 44 w62 w.heap.size (fun _ => True) (.slice Ao46 t156.length co46) t156) := ⟨h0_⟩
           have n1_ : Aside0 (Kd.R k36 36 w62 w.heap.size (fun k_ => some k_ ≠ (v172 : Value).ownBlock ∧ some k_ ≠ (v175 : Value).ownBlock ∧ k_ ≠ gb152) (.slice Ao51 t159.length co51) t159) := ⟨h1_⟩
           have n2_ : Aside0 (Kd.R k36 36 w62 w.heap.size (fun k_ => some k_ ≠ (.slice Ao51 t159.length co51 : Value).ownBlock ∧ some k_ ≠ (v175 : Value).ownBlock ∧ k_ ≠ gb152) v172 y171) := ⟨h2_⟩
           have n3_ : Aside0 (Kd.R k36 36 w62 w.heap.size (fun k_ => some k_ ≠ (.slice Ao51 t159.length co51 : Value).ownBlock ∧ some k_ ≠ (v172 : Value).ownBlock ∧ k_ ≠ gb152) v175 y174) := ⟨h3_⟩
           have n4_ : Aside0 (w62.heap[gb151]? = some (.cells #[.slice A0_0 l0_0.length c0_0, .slice (some ad154) l0_1.length c0_1] 32 (0, 0))) := ⟨h4_⟩
           have n5_ : Aside0 (w62.heap[gb152]? = some (.cells #[.int .i64 a1_0, .int .i64 a1_1] 36 (0, 0))) := ⟨h5_⟩
           have n6_ : Aside0 (w62.heap[gb153]? = some (.cells #[.slice none 0 0, .slice none 0 0] 32 (0, 0))) := ⟨h6_⟩
           have n7_ : Aside0 (w62.heap[gb162]? = some (.cells #[.slice Ao46 t156.length co46, .slice Ao51 t159.length co51] 32 (0, 0))) := ⟨h7_⟩
           have n8_ : Aside0 (Below w.heap.size w w62) := ⟨h8_⟩
           clear HO158
           clear HO161
           clear BK151
           clear BK152
           clear BK153
           clear BK162
           clear HB
           clear h0_ h1_ h2_ h3_ h4_ h5_ h6_ h7_ h8_
           have HO158 := n0_
           have HO161 := n1_
           have HO173 := n2_
           have HO176 := n3_
           have BK151 := n4_
           have BK152 := n5_
           have BK153 := n6_
           have BK162 := n7_
           have HB := n8_
           clear n0_ n1_ n2_ n3_ n4_ n5_ n6_ n7_ n8_
           have hHeld : w62.cell? ⟨gb151, 0, none⟩ = some (.slice A0_0 l0_0.length c0_0) ∧ w62.cell? ⟨gb151, 1, none⟩ = some (.slice (some ad154) l0_1.length c0_1) ∧ w62.cell? ⟨gb152, 0, none⟩ = some (.int .i64 a1_0) ∧ w62.cell? ⟨gb152, 1, none⟩ = some (.int .i64 a1_1) := hS_
           obtain ⟨Ao64, co64, eo64⟩ := Kd.R_slice HO176.out
           (first | subst eo64 | (injection eo64 with f1_ f2_ f3_; have f4_ := f1_.symm; have f5_ := f3_.symm; clear f1_ f2_ f3_; subst f4_; subst f5_))
           refine norm_ (a' := ?_) ?_ ?_
           rotate_left
           ·simp only [putAll, Act.put, List.setIfInBounds_toArray, List.set_cons_zero, List.set_cons_succ]
            rfl
           refine one_ (i := 8) (N := some 48) (bl 13 16) rfl rfl (one_of HT_.out (by kernel_rfl)) (by decide) (fun K hK => ?_)
           refine Kd.R_append_rows_step k36 (w0 := w) w.heap.size (by rfl) (.tmp 45) (.tmp 47) 30 36 (.agg #[(.int .i64 0), (.int .i64 0)]) 16 rfl Try.underlying30 info36 rfl (by decide) (by omega) v172 y171 y174 _ _ _ (fun k_ => some k_ ≠ (.slice Ao51 t159.length co51 : Value).ownBlock ∧ some k_ ≠ (.slice Ao64 y174.length co64 : Value).ownBlock ∧ k_ ≠ gb152) (fun _ => False) rfl rfl ?aO ?aR (fun _ _ h => h) (fun _ h => h.elim) ?aF ?aB ?aS ?aL ?_
           (case aR => exact cz_ (Kd.R_reads' HO176.out).2.2)
           (case aB => exact (by repeat (first | (with_reducible first | exact HB.out | apply below_alloc | apply pw_below_drewN | apply below_drew1 | refine below_set ?_ GE151.out | refine below_set ?_ GE152.out | refine below_set ?_ GE153.out | refine below_set ?_ GE162.out) | exact HB.out)))
           (case aF => exact (fun k_ hk => ⟨Kd.fresh' (Kd.R_lt (rz_ HO161.out)) k_ hk, Kd.fresh' (Kd.R_lt (rz_ HO176.out)) k_ hk, Kd.freshB (g := gb152) (o := .cells #[.int .i64 a1_0, .int .i64 a1_1] 36 (0, 0)) (bz_ BK152.out) k_ hk⟩))
           (case aO => exact (rz_ HO173.out))
           (case aS => exact (below_size (by repeat (first | (with_reducible first | exact HB.out | apply below_alloc | apply pw_below_drewN | apply below_drew1 | refine below_set ?_ GE151.out | refine below_set ?_ GE152.out | refine below_set ?_ GE153.out | refine below_set ?_ GE162.out) | exact HB.out))))
           (case aL => have := LMc35.out; omega)
           intro v178 w63 ho hb hg hat
           rw [← Ny177.out] at ho
           have n0_ := Aside0.mk (blk_grown (g := gb151) (o := .cells #[.slice A0_0 l0_0.length c0_0, .slice (some ad154) l0_1.length c0_1] 32 (0, 0)) (bz_ BK151.out) hg (Kd.R_ne HO173.out BK151.out (by decide)))
           have n1_ := Aside0.mk (blk_grown (g := gb152) (o := .cells #[.int .i64 a1_0, .int .i64 a1_1] 36 (0, 0)) (bz_ BK152.out) hg (Kd.R_away HO173.out (fun _ hk => hk.2.2)))
           have n2_ := Aside0.mk (blk_grown (g := gb153) (o := .cells #[.slice none 0 0, .slice none 0 0] 32 (0, 0)) (bz_ BK153.out) hg (Kd.R_ne HO173.out BK153.out (by decide)))
           have n3_ := Aside0.mk (Kd.R_over' (rz_ HO158.out) (Kd.R_typed (rz_ HO173.out)) (by decide) hg)
           have n4_ := Aside0.mk (Kd.R_after (ok := (fun k_ => some k_ ≠ (.slice Ao64 y174.length co64 : Value).ownBlock ∧ k_ ≠ gb152)) (rz_ (Kd.R_mono HO161.out (fun _ hk => ⟨⟨hk.2.1, hk.2.2⟩, hk.1⟩))) hg hat)
           have n5_ := Aside0.mk (blk_grown (g := gb162) (o := .cells #[.slice Ao46 t156.length co46, .slice Ao51 t159.length co51] 32 (0, 0)) (bz_ BK162.out) hg (Kd.R_ne HO173.out BK162.out (by decide)))
           have n6_ := Aside0.mk (Kd.R_after (ok := (fun k_ => some k_ ≠ (.slice Ao51 t159.length co51 : Value).ownBlock ∧ k_ ≠ gb152)) (rz_ (Kd.R_mono HO176.out (fun _ hk => ⟨⟨hk.1, hk.2.2⟩, hk.2.1⟩))) hg hat)
           have n7_ := Aside0.mk (hb)
           have n8_ := Aside0.mk (ho)
           clear BK151
           clear BK152
           clear BK153
           clear HO158
           clear HO161
           clear BK162
           clear HO176
           clear HB
           clear HO173
           have BK151 := n0_
           have BK152 := n1_
           have BK153 := n2_
           have HO158 := n3_
           have HO161 := n4_
           have BK162 := n5_
           have HO176 := n6_
           have HB := n7_
           have HO179 := n8_
           clear n0_ n1_ n2_ n3_ n4_ n5_ n6_ n7_ n8_
           clear ho hb hg hat
           refine hK.out _ _ ⟨(blk_cell BK151.out 0).trans rfl, (blk_cell BK151.out 1).trans rfl, (blk_cell BK152.out 0).trans rfl, (blk_cell BK152.out 1).trans rfl⟩ (fun hHeld => ?_)
           clear hK K
           refine norm_ (a' := ?_) ?_ ?_
           rotate_left
           ·show Act.put _ (some 48) _ = _
            simp only [Act.put, List.setIfInBounds_toArray, List.set_cons_zero, List.set_cons_succ, i64_w, i32_w]
            rfl
           refine one_ (i := 13) (N := some 53) (bl 14 16) rfl rfl (one_of HT_.out (by kernel_rfl)) (by decide) (fun K hK => ?_)
           refine Kd.R_append_rows_step k36 (w0 := w) w.heap.size (by rfl) (.tmp 48) (.tmp 52) 30 36 (.agg #[(.int .i64 0), (.int .i64 0)]) 16 rfl Try.underlying30 info36 rfl (by decide) (by omega) v178 y177 y180 _ _ _ (fun k_ => some k_ ≠ (.slice Ao51 t159.length co51 : Value).ownBlock ∧ some k_ ≠ (.slice Ao64 y174.length co64 : Value).ownBlock ∧ k_ ≠ gb152) (fun _ => False) rfl rfl ?aO ?aR (fun _ _ h => h) (fun _ h => h.elim) ?aF ?aB ?aS ?aL ?_
           (case aR => exact cz_ (Kd.C_below HR183.out HB.out))
           (case aB => exact (by repeat (first | (with_reducible first | exact HB.out | apply below_alloc | apply pw_below_drewN | apply below_drew1 | refine below_set ?_ GE151.out | refine below_set ?_ GE152.out | refine below_set ?_ GE153.out | refine below_set ?_ GE162.out) | exact HB.out)))
           (case aF => exact (fun k_ hk => ⟨Kd.fresh' (Kd.R_lt (rz_ HO161.out)) k_ hk, Kd.fresh' (Kd.R_lt (rz_ HO176.out)) k_ hk, Kd.freshB (g := gb152) (o := .cells #[.int .i64 a1_0, .int .i64 a1_1] 36 (0, 0)) (bz_ BK152.out) k_ hk⟩))
           (case aO => exact (rz_ HO179.out))
           (case aS => exact (below_size (by repeat (first | (with_reducible first | exact HB.out | apply below_alloc | apply pw_below_drewN | apply below_drew1 | refine below_set ?_ GE151.out | refine below_set ?_ GE152.out | refine below_set ?_ GE153.out | refine below_set ?_ GE162.out) | exact HB.out))))
           (case aL => have := LMc38.out; omega)
           intro v185 w65 ho hb hg hat
           rw [← Ny184.out] at ho
           have n0_ := Aside0.mk (blk_grown (g := gb151) (o := .cells #[.slice A0_0 l0_0.length c0_0, .slice (some ad154) l0_1.length c0_1] 32 (0, 0)) (bz_ BK151.out) hg (Kd.R_ne HO179.out BK151.out (by decide)))
           have n1_ := Aside0.mk (blk_grown (g := gb152) (o := .cells #[.int .i64 a1_0, .int .i64 a1_1] 36 (0, 0)) (bz_ BK152.out) hg (Kd.R_away HO179.out (fun _ hk => hk.2.2)))
           have n2_ := Aside0.mk (blk_grown (g := gb153) (o := .cells #[.slice none 0 0, .slice none 0 0] 32 (0, 0)) (bz_ BK153.out) hg (Kd.R_ne HO179.out BK153.out (by decide)))
           have n3_ := Aside0.mk (Kd.R_over' (rz_ HO158.out) (Kd.R_typed (rz_ HO179.out)) (by decide) hg)
           have n4_ := Aside0.mk (Kd.R_after (ok := (fun k_ => some k_ ≠ (.slice Ao64 y174.length co64 : Value).ownBlock ∧ k_ ≠ gb152)) (rz_ HO161.out) hg hat)
           have n5_ := Aside0.mk (blk_grown (g := gb162) (o := .cells #[.slice Ao46 t156.length co46, .slice Ao51 t159.length co51] 32 (0, 0)) (bz_ BK162.out) hg (Kd.R_ne HO179.out BK162.out (by decide)))
           have n6_ := Aside0.mk (Kd.R_after (ok := (fun k_ => some k_ ≠ (.slice Ao51 t159.length co51 : Value).ownBlock ∧ k_ ≠ gb152)) (rz_ HO176.out) hg hat)
           have n7_ := Aside0.mk (hb)
           have n8_ := Aside0.mk (ho)
           clear BK151
           clear BK152
           clear BK153
           clear HO158
           clear HO161
           clear BK162
           clear HO176
           clear HB
           clear HO179
           have BK151 := n0_
           have BK152 := n1_
           have BK153 := n2_
           have HO158 := n3_
           have HO161 := n4_
           have BK162 := n5_
           have HO176 := n6_
           have HB := n7_
           have HO186 := n8_
           clear n0_ n1_ n2_ n3_ n4_ n5_ n6_ n7_ n8_
           clear ho hb hg hat
           obtain ⟨Ao66, co66, eo66⟩ := Kd.R_slice HO186.out
           (first | subst eo66 | (injection eo66 with f1_ f2_ f3_; have f4_ := f1_.symm; have f5_ := f3_.symm; clear f1_ f2_ f3_; subst f4_; subst f5_))
           refine hK.out _ _ ⟨(blk_cell BK151.out 0).trans rfl, (blk_cell BK151.out 1).trans rfl, (blk_cell BK152.out 0).trans rfl, (blk_cell BK152.out 1).trans rfl⟩ (fun hHeld => ?_)
           clear hK K
           refine norm_ (a' := ?_) ?_ ?_
           rotate_left
           ·show Act.put _ (some 53) _ = _
            simp only [Act.put, List.setIfInBounds_toArray, List.set_cons_zero, List.set_cons_succ, i64_w, i32_w]
            rfl
           refine pA_ 14 (some 54) (bl 15 16) HT_.out (h := ?_)
           refine one_ (i := 15) (N := none) (bl 16 16) rfl rfl (one_of HT_.out (by kernel_rfl)) (by decide) (fun K hK => ?_)
           have hs67 : w65.cell? ⟨gb162, 1, none⟩ = some (.slice Ao51 t159.length co51) := (blk_cell BK162.out 1).trans rfl
           have hfs67 := blk_frozen BK162.out 1
           have hns67_0 := NB151_162.out
           have hns67_1 := NB152_162.out
           have hns67_2 := NB153_162.out
           have hms67_0 := NB162_151.out
           have hms67_1 := NB162_152.out
           have hms67_2 := NB162_153.out
           refine skip_ (w1 := ?_) (by rfl) rfl ?_ ?_
           rotate_left
           ·go_simp
            rfl
           refine hK.out _ _ ⟨((cell_far (p := ⟨gb162, _, none⟩) NB151_162.out _).trans (hHeld.1)), ((cell_far (p := ⟨gb162, _, none⟩) NB151_162.out _).trans (hHeld.2.1)), ((cell_far (p := ⟨gb162, _, none⟩) NB152_162.out _).trans (hHeld.2.2.1)), ((cell_far (p := ⟨gb162, _, none⟩) NB152_162.out _).trans (hHeld.2.2.2))⟩ (fun hHeld => ?_)
           clear hK K
           refine done_ (done_of HT_.out (by kernel_rfl)) ?_
           have hcz68_0 : w65.cell? ⟨gb162, 0, none⟩ = some (.slice Ao46 t156.length co46) := (blk_cell BK162.out 0).trans rfl
           have hcz68_1 : w65.cell? ⟨gb162, 1, none⟩ = some (.slice Ao51 t159.length co51) := (blk_cell BK162.out 1).trans rfl
           have hfz68_0 := blk_frozen BK162.out 0
           have hfz68_1 := blk_frozen BK162.out 1
           have hnb69 := NB153_152.out
           have hnc69 := NB152_153.out
           have hcz70_0 : w65.cell? ⟨gb153, 0, none⟩ = some (.slice none 0 0) := (blk_cell BK153.out 0).trans rfl
           have hcz70_1 : w65.cell? ⟨gb153, 1, none⟩ = some (.slice none 0 0) := (blk_cell BK153.out 1).trans rfl
           have hfz70_0 := blk_frozen BK153.out 0
           have hfz70_1 := blk_frozen BK153.out 1
           try go_wp2
           refine bodyPost_ret (results_cell_row rfl _ _ gb153 32 #[.slice Ao46 t156.length co46, .slice Ao66 y184.length co66] (0, 0) _ rfl (by (with_reducible repeat (first | refine blk_drewN ?_ _ | refine blk_drew ?_ | refine blk_alloc ?_ _)); refine blk_put (cs := #[.slice Ao46 t156.length co46, .slice none 0 0]) ?_ 1 _ rfl; (with_reducible repeat (first | refine blk_drewN ?_ _ | refine blk_drew ?_ | refine blk_alloc ?_ _)); refine blk_put (cs := #[.slice none 0 0, .slice none 0 0]) ?_ 0 _ rfl; (with_reducible repeat (first | refine blk_drewN ?_ _ | refine blk_drew ?_ | refine blk_alloc ?_ _)); refine blk_far ?_ NB153_162.out _; (with_reducible repeat (first | refine blk_drewN ?_ _ | refine blk_drew ?_ | refine blk_alloc ?_ _)); exact BK153.out) Try.underlying32 rfl (by kernel_rfl)) rfl ?_
           exact ⟨_, _, by first | rfl | (simp [errW_none, errW_some] <;> rfl) | (simp [*, errW_none, errW_some] <;> rfl), rz_ (Kd.R_mono (Kd.R_far (p := ⟨gb153, 1, none⟩) (Kd.R_far (p := ⟨gb153, 0, none⟩) (Kd.R_far (p := ⟨gb162, 1, none⟩) (Kd.R_types (Kd.R_types HO158.out BK162.out (by decide)) BK153.out (by decide)) (fun _ hk => hk.1.2) (.slice Ao66 y184.length co66)) (fun _ hk => hk.2) (.slice Ao46 t156.length co46)) (fun _ hk => hk.2) (.slice Ao66 y184.length co66)) (fun _ hk => trivial)), rz_ (Kd.R_mono (Kd.R_far (p := ⟨gb153, 1, none⟩) (Kd.R_far (p := ⟨gb153, 0, none⟩) (Kd.R_far (p := ⟨gb162, 1, none⟩) (Kd.R_types (Kd.R_types HO186.out BK162.out (by decide)) BK153.out (by decide)) (fun _ hk => hk.1.2) (.slice Ao66 y184.length co66)) (fun _ hk => hk.2) (.slice Ao46 t156.length co46)) (fun _ hk => hk.2) (.slice Ao66 y184.length co66)) (fun _ hk => trivial)), by repeat (first | (with_reducible first | exact HB.out | apply below_alloc | apply pw_below_drewN | apply below_drew1 | refine below_set ?_ GE151.out | refine below_set ?_ GE152.out | refine below_set ?_ GE153.out | refine below_set ?_ GE162.out) | exact HB.out)⟩
          ·rw [if_neg c38] at H
           exact absurd H (by simp)
         ·rw [if_neg c35] at H
          exact absurd H (by simp)
        ·rw [if_neg c34] at H
         exact absurd H (by simp)
       ·rw [if_neg c33] at H
        exact absurd H (by simp)
    ·rw [if_neg c7] at H
     exact absurd H (by simp)
   ·rw [if_neg c6] at H
    have c6b0 : decide (x5_1 < (l0_1.length : Int)) = false := decide_eq_false c6
    clear c6
    replace H := Option.bind_eq_some_iff.mp H
    obtain ⟨⟨t187, t190⟩, A710, H⟩ := H
    replace H : ((some (([] : List (S36)) : List (S36))).bind fun y194 => (if 0 ≤ x5_1 then (if x5_1 ≤ (l0_1.length : Int) then ((some (l0_1.take (x5_1 : Int).toNat : List (S36))).bind fun y197 => (if y194.length + y197.length < 8796093022208 then ((some (y194 ++ y197 : List (S36))).bind fun y201 => ((some (([(⟨a1_0, a1_1⟩ : S36)] : List (S36)) : List (S36))).bind fun y204 => (if y201.length + y204.length < 8796093022208 then ((some (y201 ++ y204 : List (S36))).bind fun y207 => ((some (l0_1.drop (x5_1 : Int).toNat : List (S36))).bind fun y210 => (if y207.length + y210.length < 8796093022208 then (some (t187, (y207 ++ y210))) else (none)))) else (none)))) else (none))) else (none)) else (none))) = some (r1, r2) := H
    have A71 := Aside0.mk A710
    clear A710
    obtain ⟨y194, hy194⟩ : ∃ y_ : List (S36), y_ = (([] : List (S36))) := ⟨_, rfl⟩
    replace H : (if 0 ≤ x5_1 then (if x5_1 ≤ (l0_1.length : Int) then ((some (l0_1.take (x5_1 : Int).toNat : List (S36))).bind fun y197 => (if y194.length + y197.length < 8796093022208 then ((some (y194 ++ y197 : List (S36))).bind fun y201 => ((some (([(⟨a1_0, a1_1⟩ : S36)] : List (S36)) : List (S36))).bind fun y204 => (if y201.length + y204.length < 8796093022208 then ((some (y201 ++ y204 : List (S36))).bind fun y207 => ((some (l0_1.drop (x5_1 : Int).toNat : List (S36))).bind fun y210 => (if y207.length + y210.length < 8796093022208 then (some (t187, (y207 ++ y210))) else (none)))) else (none)))) else (none))) else (none)) else (none)) = some (r1, r2) := by first | (rw [hy194]; with_reducible exact H) | (have H2_ := (Option.bind_some _ _).symm.trans H; rw [hy194]; with_reducible exact H2_) | (have H2_ := (Option.bind_some _ _).symm.trans H; with_reducible exact H2_) | with_reducible exact H | (rw [hy194]; exact H) | exact H
    have Ny194 := Aside0.mk hy194
    clear hy194
    by_cases c72 : 0 ≤ x5_1
    ·rw [if_pos c72] at H
     have c72b0 := eq_true c72
     have c72b1 : decide (0 ≤ x5_1) = true := decide_eq_true c72
     clear c72
     by_cases c73 : x5_1 ≤ (l0_1.length : Int)
     ·rw [if_pos c73] at H
      have c73b0 := eq_true c73
      have c73b1 : decide (x5_1 ≤ (l0_1.length : Int)) = true := decide_eq_true c73
      clear c73
      obtain ⟨y197, hy197⟩ : ∃ y_ : List (S36), y_ = (l0_1.take (x5_1 : Int).toNat) := ⟨_, rfl⟩
      replace H : (if y194.length + y197.length < 8796093022208 then ((some (y194 ++ y197 : List (S36))).bind fun y201 => ((some (([(⟨a1_0, a1_1⟩ : S36)] : List (S36)) : List (S36))).bind fun y204 => (if y201.length + y204.length < 8796093022208 then ((some (y201 ++ y204 : List (S36))).bind fun y207 => ((some (l0_1.drop (x5_1 : Int).toNat : List (S36))).bind fun y210 => (if y207.length + y210.length < 8796093022208 then (some (t187, (y207 ++ y210))) else (none)))) else (none)))) else (none)) = some (r1, r2) := by first | (rw [hy197]; with_reducible exact H) | (have H2_ := (Option.bind_some _ _).symm.trans H; rw [hy197]; with_reducible exact H2_) | (have H2_ := (Option.bind_some _ _).symm.trans H; with_reducible exact H2_) | with_reducible exact H | (rw [hy197]; exact H) | exact H
      have Ny197 := Aside0.mk hy197
      clear hy197
      by_cases c74 : y194.length + y197.length < 8796093022208
      ·rw [if_pos c74] at H
       have LMc74 := Aside0.mk c74
       clear c74
       obtain ⟨y201, hy201⟩ : ∃ y_ : List (S36), y_ = (y194 ++ y197) := ⟨_, rfl⟩
       replace H : ((some (([(⟨a1_0, a1_1⟩ : S36)] : List (S36)) : List (S36))).bind fun y204 => (if y201.length + y204.length < 8796093022208 then ((some (y201 ++ y204 : List (S36))).bind fun y207 => ((some (l0_1.drop (x5_1 : Int).toNat : List (S36))).bind fun y210 => (if y207.length + y210.length < 8796093022208 then (some (t187, (y207 ++ y210))) else (none)))) else (none))) = some (r1, r2) := by first | (rw [hy201]; with_reducible exact H) | (have H2_ := (Option.bind_some _ _).symm.trans H; rw [hy201]; with_reducible exact H2_) | (have H2_ := (Option.bind_some _ _).symm.trans H; with_reducible exact H2_) | with_reducible exact H | (rw [hy201]; exact H) | exact H
       have Ny201 := Aside0.mk hy201
       clear hy201
       obtain ⟨y204, hy204⟩ : ∃ y_ : List (S36), y_ = (([(⟨a1_0, a1_1⟩ : S36)] : List (S36))) := ⟨_, rfl⟩
       replace H : (if y201.length + y204.length < 8796093022208 then ((some (y201 ++ y204 : List (S36))).bind fun y207 => ((some (l0_1.drop (x5_1 : Int).toNat : List (S36))).bind fun y210 => (if y207.length + y210.length < 8796093022208 then (some (t187, (y207 ++ y210))) else (none)))) else (none)) = some (r1, r2) := by first | (rw [hy204]; with_reducible exact H) | (have H2_ := (Option.bind_some _ _).symm.trans H; rw [hy204]; with_reducible exact H2_) | (have H2_ := (Option.bind_some _ _).symm.trans H; with_reducible exact H2_) | with_reducible exact H | (rw [hy204]; exact H) | exact H
       have Ny204 := Aside0.mk hy204
       clear hy204
       by_cases c75 : y201.length + y204.length < 8796093022208
       ·rw [if_pos c75] at H
        have LMc75 := Aside0.mk c75
        clear c75
        obtain ⟨y207, hy207⟩ : ∃ y_ : List (S36), y_ = (y201 ++ y204) := ⟨_, rfl⟩
        replace H : ((some (l0_1.drop (x5_1 : Int).toNat : List (S36))).bind fun y210 => (if y207.length + y210.length < 8796093022208 then (some (t187, (y207 ++ y210))) else (none))) = some (r1, r2) := by first | (rw [hy207]; with_reducible exact H) | (have H2_ := (Option.bind_some _ _).symm.trans H; rw [hy207]; with_reducible exact H2_) | (have H2_ := (Option.bind_some _ _).symm.trans H; with_reducible exact H2_) | with_reducible exact H | (rw [hy207]; exact H) | exact H
        have Ny207 := Aside0.mk hy207
        clear hy207
        have c76b0 := eq_true (of_decide_eq_true (by first | (with_reducible assumption) | assumption) : 0 ≤ x5_1)
        have c77b0 := eq_true (of_decide_eq_true (by first | (with_reducible assumption) | assumption) : x5_1 ≤ (l0_1.length : Int))
        obtain ⟨y210, hy210⟩ : ∃ y_ : List (S36), y_ = (l0_1.drop (x5_1 : Int).toNat) := ⟨_, rfl⟩
        replace H : (if y207.length + y210.length < 8796093022208 then (some (t187, (y207 ++ y210))) else (none)) = some (r1, r2) := by first | (rw [hy210]; with_reducible exact H) | (have H2_ := (Option.bind_some _ _).symm.trans H; rw [hy210]; with_reducible exact H2_) | (have H2_ := (Option.bind_some _ _).symm.trans H; with_reducible exact H2_) | with_reducible exact H | (rw [hy210]; exact H) | exact H
        have Ny210 := Aside0.mk hy210
        clear hy210
        by_cases c78 : y207.length + y210.length < 8796093022208
        ·rw [if_pos c78] at H
         have LMc78 := Aside0.mk c78
         clear c78
         obtain ⟨y214, hy214⟩ : ∃ y_ : List (S36), y_ = (y207 ++ y210) := ⟨_, rfl⟩
         replace H : (some (t187, y214)) = some (r1, r2) := by first | (rw [hy214]; with_reducible exact H) | (have H2_ := (Option.bind_some _ _).symm.trans H; rw [hy214]; with_reducible exact H2_) | (have H2_ := (Option.bind_some _ _).symm.trans H; with_reducible exact H2_) | with_reducible exact H | (rw [hy214]; exact H) | exact H
         have Ny214 := Aside0.mk hy214
         clear hy214
         simp only [Option.some.injEq, Prod.mk.injEq] at H
         obtain ⟨rfl, rfl⟩ := H
         try go_wp2
         have n0_ := Aside0.mk (blk_drew BK151.out)
         have n1_ := Aside0.mk (blk_drew BK152.out)
         have n2_ := Aside0.mk (blk_drew BK153.out)
         have n3_ := Aside0.mk (below_drew1 HB.out)
         clear BK151
         clear BK152
         clear BK153
         clear HB
         have BK151 := n0_
         have BK152 := n1_
         have BK153 := n2_
         have HB := n3_
         clear n0_ n1_ n2_ n3_
         refine start_ (n := 14) (S := fun w' => w'.cell? ⟨gb151, 0, none⟩ = some (.slice A0_0 l0_0.length c0_0) ∧ w'.cell? ⟨gb151, 1, none⟩ = some (.slice A0_1 l0_1.length c0_1)) (ds := []) #[false, false, false, false, false, false, false, false, false, false, false, false, false, false] (by kernel_rfl) rfl rfl ⟨(blk_cell BK151.out 0).trans rfl, (blk_cell BK151.out 1).trans rfl⟩ (fun hHeld => ?_); refine with_tabW spec_l2Link.tab2 spec_l2Link.bits2 (fun HT_ HW_ => ?_)
         generalize wr.drew = w79 at BK151 BK152 BK153 HB hHeld ⊢
         refine pA_ 0 (some 7) (bl 1 14) HT_.out (h := ?_)
         refine pA_ 1 (some 8) (bl 2 14) HT_.out (h := ?_)
         refine tA_ 2 (some 9) (bl 3 14) HT_.out HW_.out hHeld (h := ?_)
         refine pA_ 3 (some 10) (bl 4 14) HT_.out (h := ?_)
         refine pA_ 4 (some 11) (bl 5 14) HT_.out (h := ?_)
         refine pA_ 5 (some 12) (bl 6 14) HT_.out (h := ?_)
         refine pO_ 6 (some 13) (bl 7 14) HT_.out (h := ?_)
         refine pO_ 7 (some 14) (bl 8 14) HT_.out (h := ?_)
         refine pO_ 8 (some 15) (bl 9 14) HT_.out (h := ?_)
         refine pO_ 9 (some 16) (bl 10 14) HT_.out (h := ?_)
         refine pO_ 10 (some 17) (bl 11 14) HT_.out (h := ?_)
         refine pO_ 11 (some 18) (bl 12 14) HT_.out (h := ?_)
         refine pO_ 12 (some 19) (bl 13 14) HT_.out (h := ?_)
         refine pA_ 13 (some 20) (bl 14 14) HT_.out (h := ?_)
         refine done_ (done_of HT_.out (by kernel_rfl)) ?_
         have hnb80 := NB151_152.out
         have hnc80 := NB152_151.out
         have hnb81 := NB151_153.out
         have hnc81 := NB153_151.out
         have hcz82_0 : w79.cell? ⟨gb151, 0, none⟩ = some (.slice A0_0 l0_0.length c0_0) := (blk_cell BK151.out 0).trans rfl
         have hcz82_1 : w79.cell? ⟨gb151, 1, none⟩ = some (.slice A0_1 l0_1.length c0_1) := (blk_cell BK151.out 1).trans rfl
         have hfz82_0 := blk_frozen BK151.out 0
         have hfz82_1 := blk_frozen BK151.out 1
         try go_wp2_with (first | ((with_reducible refine gate_callee (f := 72) rfl ?_); refine goesL_ (some 24) rfl rfl Try.func72 (by kernel_rfl) rfl #[.agg #[.slice A0_0 l0_0.length c0_0, .slice A0_1 l0_1.length c0_1]] rfl (by (try simp only [List.map_toArray, List.map_cons, List.map_nil]); first | done | rfl | (simp only [List.length_drop, List.length_take]; rfl)) ?_; (with_reducible refine (spec_l2Own.calls _ _ l0_0 _ _ l0_1 t187 t190 _ ?side1 ?side2 ?side3 ?side4 A71.out).mono ?_); (case side1 => exact cz_ (Kd.C_below HR0_0.out HB.out)); (case side2 => exact HC0_0.out); (case side3 => exact cz_ (Kd.C_below HR0_1.out HB.out)); (case side4 => exact HC0_1.out); rintro e w83 ⟨v188, v191, rfl, ho0, ho1, hb⟩; refine ⟨_, rfl, ?_⟩; have n0_ := Aside0.mk (Kd.R_lower ho0 (below_size (by repeat (first | (with_reducible first | exact HB.out | apply below_alloc | apply pw_below_drewN | apply below_drew1 | refine below_set ?_ GE151.out | refine below_set ?_ GE152.out | refine below_set ?_ GE153.out) | exact HB.out)))); have n1_ := Aside0.mk (Kd.R_lower (Kd.R_newB ho1 (g := gb152) (o := .cells #[.int .i64 a1_0, .int .i64 a1_1] 36 (0, 0)) (bz_ BK152.out)) (below_size (by repeat (first | (with_reducible first | exact HB.out | apply below_alloc | apply pw_below_drewN | apply below_drew1 | refine below_set ?_ GE151.out | refine below_set ?_ GE152.out | refine below_set ?_ GE153.out) | exact HB.out)))); have n2_ := Aside0.mk (blk_below (bz_ BK151.out) hb); have n3_ := Aside0.mk (blk_below (bz_ BK152.out) hb); have n4_ := Aside0.mk (blk_below (bz_ BK153.out) hb); have n5_ := Aside0.mk (below_step (by repeat (first | (with_reducible first | exact HB.out | apply below_alloc | apply pw_below_drewN | apply below_drew1 | refine below_set ?_ GE151.out | refine below_set ?_ GE152.out | refine below_set ?_ GE153.out) | exact HB.out)) hb); clear BK151; clear BK152; clear BK153; clear HB; have HO189 := n0_; have HO192 := n1_; have BK151 := n2_; have BK152 := n3_; have BK153 := n4_; have HB := n5_; clear n0_ n1_ n2_ n3_ n4_ n5_; (try clear hb); (try clear hb2); (try clear hk); (try clear hi); (try clear ho0); (try clear ho1)) | ((with_reducible refine gate_dst (N := 6) rfl ?_); refine box_event ?hg (N := 6) ?hd (cs := #[.slice none 0 0, .slice none 0 0]) (t := 32) ?hr ?_; (case hd => rfl); (case hg => rfl); (case hr => first | (go_simp; done) | (go_simp; rfl)); intro gb193 hg w84 hbox hb; have n0_ := Aside0.mk (Kd.R_below (rz_ HO189.out) hb); have n1_ := Aside0.mk (Kd.R_below (rz_ HO192.out) hb); have n2_ := Aside0.mk (blk_below (bz_ BK151.out) hb); have n3_ := Aside0.mk (blk_below (bz_ BK152.out) hb); have n4_ := Aside0.mk (blk_below (bz_ BK153.out) hb); have n5_ := Aside0.mk (below_step (by repeat (first | (with_reducible first | exact HB.out | apply below_alloc | apply pw_below_drewN | apply below_drew1 | refine below_set ?_ GE151.out | refine below_set ?_ GE152.out | refine below_set ?_ GE153.out) | exact HB.out)) hb); have n6_ := Aside0.mk (hbox); have n7_ := Aside0.mk ((by rw [hg]; exact (below_size (by repeat (first | (with_reducible first | exact HB.out | apply below_alloc | apply pw_below_drewN | apply below_drew1 | refine below_set ?_ GE151.out | refine below_set ?_ GE152.out | refine below_set ?_ GE153.out) | exact HB.out))) : w.heap.size ≤ gb193)); have n8_ := Aside0.mk ((by rw [hg]; exact (below_size (by repeat (first | (with_reducible first | exact HB.out | apply below_alloc | apply pw_below_drewN | apply below_drew1 | refine below_set ?_ GE151.out | refine below_set ?_ GE152.out | refine below_set ?_ GE153.out) | exact HB.out))) : w.heap.size ≤ gb193)); have n9_ := Aside0.mk ((by rw [hg]; exact Nat.ne_of_lt (blk_lt (g := gb151) (o := .cells #[.slice A0_0 l0_0.length c0_0, .slice A0_1 l0_1.length c0_1] 32 (0, 0)) (bz_ BK151.out)) : gb151 ≠ gb193)); have n10_ := Aside0.mk ((by rw [hg]; exact Nat.ne_of_gt (blk_lt (g := gb151) (o := .cells #[.slice A0_0 l0_0.length c0_0, .slice A0_1 l0_1.length c0_1] 32 (0, 0)) (bz_ BK151.out)) : gb193 ≠ gb151)); have n11_ := Aside0.mk ((by rw [hg]; exact Nat.ne_of_lt (blk_lt (g := gb152) (o := .cells #[.int .i64 a1_0, .int .i64 a1_1] 36 (0, 0)) (bz_ BK152.out)) : gb152 ≠ gb193)); have n12_ := Aside0.mk ((by rw [hg]; exact Nat.ne_of_gt (blk_lt (g := gb152) (o := .cells #[.int .i64 a1_0, .int .i64 a1_1] 36 (0, 0)) (bz_ BK152.out)) : gb193 ≠ gb152)); have n13_ := Aside0.mk ((by rw [hg]; exact Nat.ne_of_lt (blk_lt (g := gb153) (o := .cells #[.slice none 0 0, .slice none 0 0] 32 (0, 0)) (bz_ BK153.out)) : gb153 ≠ gb193)); have n14_ := Aside0.mk ((by rw [hg]; exact Nat.ne_of_gt (blk_lt (g := gb153) (o := .cells #[.slice none 0 0, .slice none 0 0] 32 (0, 0)) (bz_ BK153.out)) : gb193 ≠ gb153)); clear HO189; clear HO192; clear BK151; clear BK152; clear BK153; clear HB; have HO189 := n0_; have HO192 := n1_; have BK151 := n2_; have BK152 := n3_; have BK153 := n4_; have HB := n5_; have BK193 := n6_; have GW193 := n7_; have GE193 := n8_; have NB151_193 := n9_; have NB193_151 := n10_; have NB152_193 := n11_; have NB193_152 := n12_; have NB153_193 := n13_; have NB193_153 := n14_; clear n0_ n1_ n2_ n3_ n4_ n5_ n6_ n7_ n8_ n9_ n10_ n11_ n12_ n13_ n14_; clear hb hbox hg; obtain ⟨Ao85, co85, eo85⟩ := Kd.R_slice HO189.out; subst eo85; have hnb86 := NB193_151.out; have hnc86 := NB151_193.out; have hnb87 := NB193_152.out; have hnc87 := NB152_193.out; have hnb88 := NB193_153.out; have hnc88 := NB153_193.out; have hcz89_0 : w84.cell? ⟨gb193, 0, none⟩ = some (.slice none 0 0) := (blk_cell BK193.out 0).trans rfl; have hcz89_1 : w84.cell? ⟨gb193, 1, none⟩ = some (.slice none 0 0) := (blk_cell BK193.out 1).trans rfl; have hfz89_0 := blk_frozen BK193.out 0; have hfz89_1 := blk_frozen BK193.out 1; obtain ⟨Ao90, co90, eo90⟩ := Kd.R_slice HO192.out; subst eo90))
         have n0_ : Aside0 (Kd.R k44 44 ((w84.setCell ⟨gb193, 0, none⟩ (.slice Ao85 t187.length co85)).setCell ⟨gb193, 1, none⟩ (.slice Ao90 t190.length co90)) w.heap.size (fun _ => True) (.slice Ao85 t187.length co85) t187) := ⟨rz_ (Kd.R_mono (Kd.R_far (p := ⟨gb193, 1, none⟩) (Kd.R_far (p := ⟨gb193, 0, none⟩) (Kd.R_types HO189.out BK193.out (by decide)) (fun _ hk => hk.2) (.slice Ao85 t187.length co85)) (fun _ hk => hk.2) (.slice Ao90 t190.length co90)) (fun _ hk => trivial))⟩
         have n1_ : Aside0 (Kd.R k36 36 ((w84.setCell ⟨gb193, 0, none⟩ (.slice Ao85 t187.length co85)).setCell ⟨gb193, 1, none⟩ (.slice Ao90 t190.length co90)) w.heap.size (fun k_ => k_ ≠ gb152) (.slice Ao90 t190.length co90) t190) := ⟨rz_ (Kd.R_mono (Kd.R_far (p := ⟨gb193, 1, none⟩) (Kd.R_far (p := ⟨gb193, 0, none⟩) (Kd.R_types HO192.out BK193.out (by decide)) (fun _ hk => hk.2) (.slice Ao85 t187.length co85)) (fun _ hk => hk.2) (.slice Ao90 t190.length co90)) (fun _ hk => hk.1.2))⟩
         have n2_ : Aside0 (((w84.setCell ⟨gb193, 0, none⟩ (.slice Ao85 t187.length co85)).setCell ⟨gb193, 1, none⟩ (.slice Ao90 t190.length co90)).heap[gb151]? = some (.cells #[.slice A0_0 l0_0.length c0_0, .slice A0_1 l0_1.length c0_1] 32 (0, 0))) := ⟨by (with_reducible repeat (first | refine blk_drewN ?_ _ | refine blk_drew ?_ | refine blk_alloc ?_ _)); refine blk_far ?_ NB151_193.out _; (with_reducible repeat (first | refine blk_drewN ?_ _ | refine blk_drew ?_ | refine blk_alloc ?_ _)); refine blk_far ?_ NB151_193.out _; (with_reducible repeat (first | refine blk_drewN ?_ _ | refine blk_drew ?_ | refine blk_alloc ?_ _)); exact BK151.out⟩
         have n3_ : Aside0 (((w84.setCell ⟨gb193, 0, none⟩ (.slice Ao85 t187.length co85)).setCell ⟨gb193, 1, none⟩ (.slice Ao90 t190.length co90)).heap[gb152]? = some (.cells #[.int .i64 a1_0, .int .i64 a1_1] 36 (0, 0))) := ⟨by (with_reducible repeat (first | refine blk_drewN ?_ _ | refine blk_drew ?_ | refine blk_alloc ?_ _)); refine blk_far ?_ NB152_193.out _; (with_reducible repeat (first | refine blk_drewN ?_ _ | refine blk_drew ?_ | refine blk_alloc ?_ _)); refine blk_far ?_ NB152_193.out _; (with_reducible repeat (first | refine blk_drewN ?_ _ | refine blk_drew ?_ | refine blk_alloc ?_ _)); exact BK152.out⟩
         have n4_ : Aside0 (((w84.setCell ⟨gb193, 0, none⟩ (.slice Ao85 t187.length co85)).setCell ⟨gb193, 1, none⟩ (.slice Ao90 t190.length co90)).heap[gb153]? = some (.cells #[.slice none 0 0, .slice none 0 0] 32 (0, 0))) := ⟨by (with_reducible repeat (first | refine blk_drewN ?_ _ | refine blk_drew ?_ | refine blk_alloc ?_ _)); refine blk_far ?_ NB153_193.out _; (with_reducible repeat (first | refine blk_drewN ?_ _ | refine blk_drew ?_ | refine blk_alloc ?_ _)); refine blk_far ?_ NB153_193.out _; (with_reducible repeat (first | refine blk_drewN ?_ _ | refine blk_drew ?_ | refine blk_alloc ?_ _)); exact BK153.out⟩
         have n5_ : Aside0 (((w84.setCell ⟨gb193, 0, none⟩ (.slice Ao85 t187.length co85)).setCell ⟨gb193, 1, none⟩ (.slice Ao90 t190.length co90)).heap[gb193]? = some (.cells #[.slice Ao85 t187.length co85, .slice Ao90 t190.length co90] 32 (0, 0))) := ⟨by (with_reducible repeat (first | refine blk_drewN ?_ _ | refine blk_drew ?_ | refine blk_alloc ?_ _)); refine blk_put (cs := #[.slice Ao85 t187.length co85, .slice none 0 0]) ?_ 1 _ rfl; (with_reducible repeat (first | refine blk_drewN ?_ _ | refine blk_drew ?_ | refine blk_alloc ?_ _)); refine blk_put (cs := #[.slice none 0 0, .slice none 0 0]) ?_ 0 _ rfl; (with_reducible repeat (first | refine blk_drewN ?_ _ | refine blk_drew ?_ | refine blk_alloc ?_ _)); exact BK193.out⟩
         have n6_ : Aside0 (Below w.heap.size w ((w84.setCell ⟨gb193, 0, none⟩ (.slice Ao85 t187.length co85)).setCell ⟨gb193, 1, none⟩ (.slice Ao90 t190.length co90))) := ⟨by repeat (first | (with_reducible first | exact HB.out | apply below_alloc | apply pw_below_drewN | apply below_drew1 | refine below_set ?_ GE151.out | refine below_set ?_ GE152.out | refine below_set ?_ GE153.out | refine below_set ?_ GE193.out) | exact HB.out)⟩
         (try clear HO189)
         (try clear HO192)
         (try clear BK151)
         (try clear BK152)
         (try clear BK153)
         (try clear BK193)
         (try clear HB)
         generalize ((w84.setCell ⟨gb193, 0, none⟩ (.slice Ao85 t187.length co85)).setCell ⟨gb193, 1, none⟩ (.slice Ao90 t190.length co90)) = w91 at n0_ n1_ n2_ n3_ n4_ n5_ n6_ ⊢
         have HO189 := n0_
         have HO192 := n1_
         have BK151 := n2_
         have BK152 := n3_
         have BK153 := n4_
         have BK193 := n5_
         have HB := n6_
         clear n0_ n1_ n2_ n3_ n4_ n5_ n6_
         have n0_ := Aside0.mk (Kd.R_drew HO189.out)
         have n1_ := Aside0.mk (Kd.R_drew HO192.out)
         have n2_ := Aside0.mk (blk_drew BK151.out)
         have n3_ := Aside0.mk (blk_drew BK152.out)
         have n4_ := Aside0.mk (blk_drew BK153.out)
         have n5_ := Aside0.mk (blk_drew BK193.out)
         have n6_ := Aside0.mk (below_drew1 HB.out)
         clear HO189
         clear HO192
         clear BK151
         clear BK152
         clear BK153
         clear BK193
         clear HB
         have HO189 := n0_
         have HO192 := n1_
         have BK151 := n2_
         have BK152 := n3_
         have BK153 := n4_
         have BK193 := n5_
         have HB := n6_
         clear n0_ n1_ n2_ n3_ n4_ n5_ n6_
         refine start_ (n := 14) (S := fun w' => w'.cell? ⟨gb151, 0, none⟩ = some (.slice A0_0 l0_0.length c0_0) ∧ w'.cell? ⟨gb151, 1, none⟩ = some (.slice A0_1 l0_1.length c0_1)) (ds := []) #[false, false, false, false, false, false, false, false, false, false, false, false, false, false] (by kernel_rfl) rfl rfl ⟨(blk_cell BK151.out 0).trans rfl, (blk_cell BK151.out 1).trans rfl⟩ (fun hHeld => ?_); refine with_tabW spec_l2Link.tab5 spec_l2Link.bits5 (fun HT_ HW_ => ?_)
         generalize w91.drew = w92 at HO189 HO192 BK151 BK152 BK153 BK193 HB hHeld ⊢
         refine pA_ 0 (some 25) (bl 1 14) HT_.out (h := ?_)
         refine pA_ 1 (some 26) (bl 2 14) HT_.out (h := ?_)
         refine tA_ 2 (some 27) (bl 3 14) HT_.out HW_.out hHeld (h := ?_)
         refine pA_ 3 (some 28) (bl 4 14) HT_.out (h := ?_)
         refine pA_ 4 (some 29) (bl 5 14) HT_.out (h := ?_)
         refine pA_ 5 (some 30) (bl 6 14) HT_.out (h := ?_)
         refine pO_ 6 (some 31) (bl 7 14) HT_.out (h := ?_)
         refine pO_ 7 (some 32) (bl 8 14) HT_.out (h := ?_)
         refine pO_ 8 (some 33) (bl 9 14) HT_.out (h := ?_)
         refine pO_ 9 (some 34) (bl 10 14) HT_.out (h := ?_)
         refine pO_ 10 (some 35) (bl 11 14) HT_.out (h := ?_)
         refine pO_ 11 (some 36) (bl 12 14) HT_.out (h := ?_)
         refine pO_ 12 (some 37) (bl 13 14) HT_.out (h := ?_)
         refine pA_ 13 (some 38) (bl 14 14) HT_.out (h := ?_)
         refine done_ (done_of HT_.out (by kernel_rfl)) ?_
         try go_wp2
         have n0_ := Aside0.mk (Kd.R_drew HO189.out)
         have n1_ := Aside0.mk (Kd.R_drew HO192.out)
         have n2_ := Aside0.mk (blk_drew BK151.out)
         have n3_ := Aside0.mk (blk_drew BK152.out)
         have n4_ := Aside0.mk (blk_drew BK153.out)
         have n5_ := Aside0.mk (blk_drew BK193.out)
         have n6_ := Aside0.mk (below_drew1 HB.out)
         clear HO189
         clear HO192
         clear BK151
         clear BK152
         clear BK153
         clear BK193
         clear HB
         have HO189 := n0_
         have HO192 := n1_
         have BK151 := n2_
         have BK152 := n3_
         have BK153 := n4_
         have BK193 := n5_
         have HB := n6_
         clear n0_ n1_ n2_ n3_ n4_ n5_ n6_
         have q94 : (x5_1 : Int) ≤ ((l0_1.length : Int) : Int) := of_decide_eq_true (by first | (with_reducible assumption) | assumption)
         obtain ⟨i094, hi094, _, hsz94, _⟩ := info_parts info36
         have hroom94 : l0_1.length ≤ c0_1 := HC0_1.out
         have hC94 : Kd.C k36 _ A0_1 l0_1.length l0_1 := HR0_1.out
         have hcut94 := cut_to (P := Try.prog) 30 36 .i64 Try.underlying30 hi094 A0_1 l0_1.length c0_1 x5_1 (of_decide_eq_true (by first | (with_reducible assumption) | assumption)) q94 hroom94
         have hr94 := Kd.C_take (m := (x5_1 : Int).toNat) hC94 (by omega)
         have hy94 : y197.length = (x5_1 : Int).toNat := (by rw [Ny197.out, List.length_take]; omega)
         rw [← Ny197.out] at hr94
         rw [← hy94] at hcut94
         have HR200 := Aside0.mk hr94
         have HC200 := Aside0.mk (show y197.length ≤ c0_1 from by omega)
         clear hr94 hC94 hroom94 hi094 hsz94
         have KY94 := Aside0.mk hy94
         clear hy94
         replace q94 := eq_true q94
         have q95 : (x5_1 : Int) ≤ ((l0_1.length : Int) : Int) := of_decide_eq_true (by first | (with_reducible assumption) | assumption)
         obtain ⟨i095, hi095, _, hsz95, _⟩ := info_parts info36
         have hroom95 : l0_1.length ≤ c0_1 := HC0_1.out
         have hC95 : Kd.C k36 _ A0_1 l0_1.length l0_1 := HR0_1.out
         have q095 : (0 : Int) ≤ (x5_1 : Int) := of_decide_eq_true (by first | (with_reducible assumption) | assumption)
         have hcut95 := cut_from (P := Try.prog) 30 36 .i64 Try.underlying30 hi095 2 hsz95 A0_1 l0_1.length c0_1 x5_1 q095 q95
         have hr95 := Kd.C_drop (m := (x5_1 : Int).toNat) (c := c0_1) hC95 (by omega) hroom95
         obtain ⟨A95, hA95⟩ : ∃ A1, A1 = (if c0_1 = (x5_1 : Int).toNat then A0_1 else (A0_1 : Option Addr).map (·.add ((x5_1 : Int).toNat * 2))) := ⟨_, rfl⟩
         obtain ⟨c95, hc95⟩ : ∃ c1, c1 = c0_1 - (x5_1 : Int).toNat := ⟨_, rfl⟩
         have hy95 : y210.length = l0_1.length - (x5_1 : Int).toNat := (by rw [Ny210.out, List.length_drop] <;> omega)
         rw [show (l0_1).drop (x5_1 : Int).toNat = y210 from Ny210.out.symm] at hr95
         replace hr95 : Kd.C k36 _ A95 y210.length y210 := (by rw [hA95]; exact hr95)
         rw [← hy95, ← hA95, ← hc95] at hcut95
         have HR213 := Aside0.mk hr95
         have HC213 := Aside0.mk (show y210.length ≤ c95 from by rw [hy95, hc95]; exact Nat.sub_le_sub_right hroom95 _)
         clear hr95 hC95 hroom95 hi095 hsz95 hc95
         have KY95 := Aside0.mk hy95
         have KA95 := Aside0.mk hA95
         clear hy95 hA95
         replace q95 := eq_true q95
         refine start_ (n := 16) (S := fun w' => w'.cell? ⟨gb151, 0, none⟩ = some (.slice A0_0 l0_0.length c0_0) ∧ w'.cell? ⟨gb151, 1, none⟩ = some (.slice A0_1 l0_1.length c0_1) ∧ w'.cell? ⟨gb152, 0, none⟩ = some (.int .i64 a1_0) ∧ w'.cell? ⟨gb152, 1, none⟩ = some (.int .i64 a1_1)) (ds := []) #[false, false, false, false, false, false, false, false, false, false, false, false, false, false, false, false] (by kernel_rfl) rfl rfl ⟨(blk_cell BK151.out 0).trans rfl, (blk_cell BK151.out 1).trans rfl, (blk_cell BK152.out 0).trans rfl, (blk_cell BK152.out 1).trans rfl⟩ (fun hHeld => ?_); refine with_tabW spec_l2Link.tab7 spec_l2Link.bits7 (fun HT_ HW_ => ?_)
         generalize w92.drew = w93 at HO189 HO192 BK151 BK152 BK153 BK193 HB HR200 HR213 hHeld ⊢
         refine pA_ 1 (some 41) #[false, true, false, false, false, false, false, false, false, false, false, false, false, false, false, false] HT_.out (h := ?_)
         refine pA_ 3 (some 43) #[false, true, false, true, false, false, false, false, false, false, false, false, false, false, false, false] HT_.out (h := ?_)
         refine pA_ 9 (some 49) #[false, true, false, true, false, false, false, false, false, true, false, false, false, false, false, false] HT_.out (h := ?_)
         refine pA_ 11 (some 51) #[false, true, false, true, false, false, false, false, false, true, false, true, false, false, false, false] HT_.out (h := ?_)
         refine tA_ 2 (some 42) #[false, true, true, true, false, false, false, false, false, true, false, true, false, false, false, false] HT_.out HW_.out hHeld (h := ?_)
         refine pA_ 4 (some 44) #[false, true, true, true, true, false, false, false, false, true, false, true, false, false, false, false] HT_.out (h := ?_)
         refine tA_ 6 (some 46) #[false, true, true, true, true, false, true, false, false, true, false, true, false, false, false, false] HT_.out HW_.out hHeld (h := ?_)
         refine tA_ 10 (some 50) #[false, true, true, true, true, false, true, false, false, true, true, true, false, false, false, false] HT_.out HW_.out hHeld (h := ?_)
         refine pA_ 12 (some 52) #[false, true, true, true, true, false, true, false, false, true, true, true, true, false, false, false] HT_.out (h := ?_)
         refine join_ (σ := Value × Value × Value) 4 #[true, true, true, true, true, true, true, true, false, true, true, true, true, false, false, false] (fun s_ => [(40, s_.1), (45, s_.2.1), (47, s_.2.2)]) (fun s_ w' => (w'.cell? ⟨gb151, 0, none⟩ = some (.slice A0_0 l0_0.length c0_0) ∧ w'.cell? ⟨gb151, 1, none⟩ = some (.slice A0_1 l0_1.length c0_1) ∧ w'.cell? ⟨gb152, 0, none⟩ = some (.int .i64 a1_0) ∧ w'.cell? ⟨gb152, 1, none⟩ = some (.int .i64 a1_1)) ∧ (Kd.R k44 44 w' w.heap.size (fun _ => True) (.slice Ao85 t187.length co85) t187) ∧ (Kd.R k36 36 w' w.heap.size (fun k_ => some k_ ≠ (s_.2.1 : Value).ownBlock ∧ some k_ ≠ (s_.2.2 : Value).ownBlock ∧ k_ ≠ gb152) (.slice Ao90 t190.length co90) t190) ∧ (Kd.R k36 36 w' w.heap.size (fun k_ => some k_ ≠ (.slice Ao90 t190.length co90 : Value).ownBlock ∧ some k_ ≠ (s_.2.2 : Value).ownBlock ∧ k_ ≠ gb152) s_.2.1 y201) ∧ (Kd.R k36 36 w' w.heap.size (fun k_ => some k_ ≠ (.slice Ao90 t190.length co90 : Value).ownBlock ∧ some k_ ≠ (s_.2.1 : Value).ownBlock ∧ k_ ≠ gb152) s_.2.2 y204) ∧ (w'.heap[gb151]? = some (.cells #[.slice A0_0 l0_0.length c0_0, .slice A0_1 l0_1.length c0_1] 32 (0, 0))) ∧ (w'.heap[gb152]? = some (.cells #[.int .i64 a1_0, .int .i64 a1_1] 36 (0, 0))) ∧ (w'.heap[gb153]? = some (.cells #[.slice none 0 0, .slice none 0 0] 32 (0, 0))) ∧ (w'.heap[gb193]? = some (.cells #[.slice Ao85 t187.length co85, .slice Ao90 t190.length co90] 32 (0, 0))) ∧ (Below w.heap.size w w')) ?_ ?_
         rotate_left
         ·intro hCont
          refine two_ (i := 0) (j := 7) (Ni := some 40) (Nj := some 47) #[true, true, true, true, true, false, true, false, false, true, true, true, true, false, false, false] #[false, true, true, true, true, false, true, true, false, true, true, true, true, false, false, false] rfl rfl rfl rfl (two_of HT_.out (by kernel_rfl)) (by decide) (by decide) (fun K hK => ?_) (fun K hK => ?_)
          ·skip
           refine Kd.R_lit_step k36 _ 36 ?hg (N := 40) ?hd (xs := ([] : List (S36))) (inner := []) (ok := fun _ => True) (okp := fun _ => True) ?hr ?hp (fun _ hk => hk) trivial (Below.refl _ _) (Nat.le_refl _) (by simp) ?_; (case hd => rfl); (case hg => rfl); (case hr => first | (go_simp; done) | (go_simp; rfl)); (case hp => exact (Reps.none _ _))
           intro v195 w96 ho97 hb hg_ hnew_
           clear hg_ hnew_
           (first | rw [← Ny194.out] at ho97 | (simp only [Int.reduceToNat] at ho97; rw [← Ny194.out] at ho97))
           have n0_ := Aside0.mk (Kd.R_below (rz_ HO189.out) hb)
           have n1_ := Aside0.mk (Kd.R_elder' (rz_ HO192.out) (Kd.R_base ho97) hb)
           have n2_ := Aside0.mk (Kd.R_lower (Kd.R_newB (Kd.R_new' ho97 (Kd.R_lt (rz_ HO192.out))) (g := gb152) (o := .cells #[.int .i64 a1_0, .int .i64 a1_1] 36 (0, 0)) (bz_ BK152.out)) (below_size (by repeat (first | (with_reducible first | exact HB.out | apply below_alloc | apply pw_below_drewN | apply below_drew1 | refine below_set ?_ GE151.out | refine below_set ?_ GE152.out | refine below_set ?_ GE153.out | refine below_set ?_ GE193.out) | exact HB.out))))
           have n3_ := Aside0.mk (blk_below (bz_ BK151.out) hb)
           have n4_ := Aside0.mk (blk_below (bz_ BK152.out) hb)
           have n5_ := Aside0.mk (blk_below (bz_ BK153.out) hb)
           have n6_ := Aside0.mk (blk_below (bz_ BK193.out) hb)
           have n7_ := Aside0.mk (below_step (by repeat (first | (with_reducible first | exact HB.out | apply below_alloc | apply pw_below_drewN | apply below_drew1 | refine below_set ?_ GE151.out | refine below_set ?_ GE152.out | refine below_set ?_ GE153.out | refine below_set ?_ GE193.out) | exact HB.out)) hb)
           clear HO189
           clear HO192
           clear BK151
           clear BK152
           clear BK153
           clear BK193
           clear HB
           have HO189 := n0_
           have HO192 := n1_
           have HO196 := n2_
           have BK151 := n3_
           have BK152 := n4_
           have BK153 := n5_
           have BK193 := n6_
           have HB := n7_
           clear n0_ n1_ n2_ n3_ n4_ n5_ n6_ n7_
           clear hb ho97
           refine hK.out _ _ ⟨(blk_cell BK151.out 0).trans rfl, (blk_cell BK151.out 1).trans rfl, (blk_cell BK152.out 0).trans rfl, (blk_cell BK152.out 1).trans rfl⟩ (fun hHeld => ?_)
           clear hK K
           refine norm_ (a' := ?_) ?_ ?_
           rotate_left
           ·show Act.put _ (some 40) _ = _
            simp only [Act.put, List.setIfInBounds_toArray, List.set_cons_zero, List.set_cons_succ, i64_w, i32_w]
            rfl
           refine two_ (i := 5) (j := 7) (Ni := some 45) (Nj := some 47) #[true, true, true, true, true, true, true, false, false, true, true, true, true, false, false, false] #[true, true, true, true, true, false, true, true, false, true, true, true, true, false, false, false] rfl rfl rfl rfl (two_of HT_.out (by kernel_rfl)) (by decide) (by decide) (fun K hK => ?_) (fun K hK => ?_)
           ·skip
            refine Kd.R_append_rows_step k36 (w0 := w) w.heap.size (by rfl) (.tmp 40) (.tmp 44) 30 36 (.agg #[(.int .i64 0), (.int .i64 0)]) 16 rfl Try.underlying30 info36 rfl (by decide) (by omega) v195 y194 y197 _ _ _ (fun k_ => some k_ ≠ (.slice Ao90 t190.length co90 : Value).ownBlock ∧ k_ ≠ gb152) (fun _ => False) rfl rfl ?aO ?aR (fun _ _ h => h) (fun _ h => h.elim) ?aF ?aB ?aS ?aL ?_
            (case aR => exact cz_ (Kd.C_below HR200.out HB.out))
            (case aB => exact (by repeat (first | (with_reducible first | exact HB.out | apply below_alloc | apply pw_below_drewN | apply below_drew1 | refine below_set ?_ GE151.out | refine below_set ?_ GE152.out | refine below_set ?_ GE153.out | refine below_set ?_ GE193.out) | exact HB.out)))
            (case aF => exact (fun k_ hk => ⟨Kd.fresh' (Kd.R_lt (rz_ HO192.out)) k_ hk, Kd.freshB (g := gb152) (o := .cells #[.int .i64 a1_0, .int .i64 a1_1] 36 (0, 0)) (bz_ BK152.out) k_ hk⟩))
            (case aO => exact (rz_ (Kd.R_mono HO196.out (fun _ hk => ⟨hk.1.2, hk.2⟩))))
            (case aS => exact (below_size (by repeat (first | (with_reducible first | exact HB.out | apply below_alloc | apply pw_below_drewN | apply below_drew1 | refine below_set ?_ GE151.out | refine below_set ?_ GE152.out | refine below_set ?_ GE153.out | refine below_set ?_ GE193.out) | exact HB.out))))
            (case aL => have := LMc74.out; omega)
            intro v202 w98 ho hb hg hat
            rw [← Ny201.out] at ho
            have n0_ := Aside0.mk (blk_grown (g := gb151) (o := .cells #[.slice A0_0 l0_0.length c0_0, .slice A0_1 l0_1.length c0_1] 32 (0, 0)) (bz_ BK151.out) hg (Kd.R_ne HO196.out BK151.out (by decide)))
            have n1_ := Aside0.mk (blk_grown (g := gb152) (o := .cells #[.int .i64 a1_0, .int .i64 a1_1] 36 (0, 0)) (bz_ BK152.out) hg (Kd.R_away HO196.out (fun _ hk => hk.2)))
            have n2_ := Aside0.mk (blk_grown (g := gb153) (o := .cells #[.slice none 0 0, .slice none 0 0] 32 (0, 0)) (bz_ BK153.out) hg (Kd.R_ne HO196.out BK153.out (by decide)))
            have n3_ := Aside0.mk (Kd.R_over' (rz_ HO189.out) (Kd.R_typed (rz_ HO196.out)) (by decide) hg)
            have n4_ := Aside0.mk (Kd.R_after (ok := (fun k_ => k_ ≠ gb152)) (rz_ HO192.out) hg hat)
            have n5_ := Aside0.mk (blk_grown (g := gb193) (o := .cells #[.slice Ao85 t187.length co85, .slice Ao90 t190.length co90] 32 (0, 0)) (bz_ BK193.out) hg (Kd.R_ne HO196.out BK193.out (by decide)))
            have n6_ := Aside0.mk (hb)
            have n7_ := Aside0.mk (ho)
            clear BK151
            clear BK152
            clear BK153
            clear HO189
            clear HO192
            clear BK193
            clear HB
            clear HO196
            have BK151 := n0_
            have BK152 := n1_
            have BK153 := n2_
            have HO189 := n3_
            have HO192 := n4_
            have BK193 := n5_
            have HB := n6_
            have HO203 := n7_
            clear n0_ n1_ n2_ n3_ n4_ n5_ n6_ n7_
            clear ho hb hg hat
            refine hK.out _ _ ⟨(blk_cell BK151.out 0).trans rfl, (blk_cell BK151.out 1).trans rfl, (blk_cell BK152.out 0).trans rfl, (blk_cell BK152.out 1).trans rfl⟩ (fun hHeld => ?_)
            clear hK K
            refine norm_ (a' := ?_) ?_ ?_
            rotate_left
            ·show Act.put _ (some 45) _ = _
             simp only [Act.put, List.setIfInBounds_toArray, List.set_cons_zero, List.set_cons_succ, i64_w, i32_w]
             rfl
            refine one_ (i := 7) (N := some 47) #[true, true, true, true, true, true, true, true, false, true, true, true, true, false, false, false] rfl rfl (one_of HT_.out (by kernel_rfl)) (by decide) (fun K hK => ?_)
            refine Kd.R_lit_step k36 _ 36 ?hg (N := 47) ?hd (xs := ([(⟨a1_0, a1_1⟩ : S36)] : List (S36))) (inner := [.int .i64 a1_0, .int .i64 a1_1]) (ok := fun _ => True) (okp := fun _ => True) ?hr ?hp (fun _ hk => hk) trivial (Below.refl _ _) (Nat.le_refl _) (by simp) ?_; (case hd => rfl); (case hg => rfl); (case hr => first | (go_simp; done) | (go_simp; rfl)); (case hp => exact (Reps.c2 (show Kd.M k36 _ _ _ (⟨a1_0, a1_1⟩ : S36) [.int .i64 a1_0, .int .i64 a1_1] from (k36_mkM _ _ _ (⟨a1_0, a1_1⟩ : S36) )) (Reps.none _ _)))
            intro v205 w99 ho100 hb hg_ hnew_
            clear hg_ hnew_
            (first | rw [← Ny204.out] at ho100 | (simp only [Int.reduceToNat] at ho100; rw [← Ny204.out] at ho100))
            have n0_ := Aside0.mk (Kd.R_below (rz_ HO189.out) hb)
            have n1_ := Aside0.mk (Kd.R_elder' (rz_ HO192.out) (Kd.R_base ho100) hb)
            have n2_ := Aside0.mk (Kd.R_elder' (rz_ HO203.out) (Kd.R_base ho100) hb)
            have n3_ := Aside0.mk (Kd.R_lower (Kd.R_newB (Kd.R_new' (Kd.R_new' ho100 (Kd.R_lt (rz_ HO192.out))) (Kd.R_lt (rz_ HO203.out))) (g := gb152) (o := .cells #[.int .i64 a1_0, .int .i64 a1_1] 36 (0, 0)) (bz_ BK152.out)) (below_size (by repeat (first | (with_reducible first | exact HB.out | apply below_alloc | apply pw_below_drewN | apply below_drew1 | refine below_set ?_ GE151.out | refine below_set ?_ GE152.out | refine below_set ?_ GE153.out | refine below_set ?_ GE193.out) | exact HB.out))))
            have n4_ := Aside0.mk (blk_below (bz_ BK151.out) hb)
            have n5_ := Aside0.mk (blk_below (bz_ BK152.out) hb)
            have n6_ := Aside0.mk (blk_below (bz_ BK153.out) hb)
            have n7_ := Aside0.mk (blk_below (bz_ BK193.out) hb)
            have n8_ := Aside0.mk (below_step (by repeat (first | (with_reducible first | exact HB.out | apply below_alloc | apply pw_below_drewN | apply below_drew1 | refine below_set ?_ GE151.out | refine below_set ?_ GE152.out | refine below_set ?_ GE153.out | refine below_set ?_ GE193.out) | exact HB.out)) hb)
            clear HO189
            clear HO192
            clear HO203
            clear BK151
            clear BK152
            clear BK153
            clear BK193
            clear HB
            have HO189 := n0_
            have HO192 := n1_
            have HO203 := n2_
            have HO206 := n3_
            have BK151 := n4_
            have BK152 := n5_
            have BK153 := n6_
            have BK193 := n7_
            have HB := n8_
            clear n0_ n1_ n2_ n3_ n4_ n5_ n6_ n7_ n8_
            clear hb ho100
            refine hK.out _ _ ⟨(blk_cell BK151.out 0).trans rfl, (blk_cell BK151.out 1).trans rfl, (blk_cell BK152.out 0).trans rfl, (blk_cell BK152.out 1).trans rfl⟩ (fun hHeld => ?_)
            clear hK K
            refine norm_ (a' := ?_) ?_ ?_
            rotate_left
            ·show Act.put _ (some 47) _ = _
             simp only [Act.put, List.setIfInBounds_toArray, List.set_cons_zero, List.set_cons_succ, i64_w, i32_w]
             rfl
            exact norm_ (by simp only [putAll, Act.put, List.setIfInBounds_toArray, List.set_cons_zero, List.set_cons_succ]) (hCont (v195, v202, v205) _ ⟨hHeld, (rz_ HO189.out), (rz_ (Kd.R_mono HO192.out (fun _ hk => ⟨hk.1.2, ⟨hk.2, hk.1.1⟩⟩))), (rz_ (Kd.R_mono HO203.out (fun _ hk => ⟨hk.1.1, ⟨hk.2, hk.1.2⟩⟩))), (rz_ (Kd.R_mono HO206.out (fun _ hk => ⟨hk.1.1.2, ⟨hk.1.2, hk.2⟩⟩))), (bz_ BK151.out), (bz_ BK152.out), (bz_ BK153.out), (bz_ BK193.out), (by repeat (first | (with_reducible first | exact HB.out | apply below_alloc | apply pw_below_drewN | apply below_drew1 | refine below_set ?_ GE151.out | refine below_set ?_ GE152.out | refine below_set ?_ GE153.out | refine below_set ?_ GE193.out) | exact HB.out))⟩)
           ·skip
            refine Kd.R_lit_step k36 _ 36 ?hg (N := 47) ?hd (xs := ([(⟨a1_0, a1_1⟩ : S36)] : List (S36))) (inner := [.int .i64 a1_0, .int .i64 a1_1]) (ok := fun _ => True) (okp := fun _ => True) ?hr ?hp (fun _ hk => hk) trivial (Below.refl _ _) (Nat.le_refl _) (by simp) ?_; (case hd => rfl); (case hg => rfl); (case hr => first | (go_simp; done) | (go_simp; rfl)); (case hp => exact (Reps.c2 (show Kd.M k36 _ _ _ (⟨a1_0, a1_1⟩ : S36) [.int .i64 a1_0, .int .i64 a1_1] from (k36_mkM _ _ _ (⟨a1_0, a1_1⟩ : S36) )) (Reps.none _ _)))
            intro v205 w98 ho99 hb hg_ hnew_
            clear hg_ hnew_
            (first | rw [← Ny204.out] at ho99 | (simp only [Int.reduceToNat] at ho99; rw [← Ny204.out] at ho99))
            have n0_ := Aside0.mk (Kd.R_below (rz_ HO189.out) hb)
            have n1_ := Aside0.mk (Kd.R_elder' (rz_ HO192.out) (Kd.R_base ho99) hb)
            have n2_ := Aside0.mk (Kd.R_elder' (rz_ HO196.out) (Kd.R_base ho99) hb)
            have n3_ := Aside0.mk (Kd.R_lower (Kd.R_newB (Kd.R_new' (Kd.R_new' ho99 (Kd.R_lt (rz_ HO192.out))) (Kd.R_lt (rz_ HO196.out))) (g := gb152) (o := .cells #[.int .i64 a1_0, .int .i64 a1_1] 36 (0, 0)) (bz_ BK152.out)) (below_size (by repeat (first | (with_reducible first | exact HB.out | apply below_alloc | apply pw_below_drewN | apply below_drew1 | refine below_set ?_ GE151.out | refine below_set ?_ GE152.out | refine below_set ?_ GE153.out | refine below_set ?_ GE193.out) | exact HB.out))))
            have n4_ := Aside0.mk (blk_below (bz_ BK151.out) hb)
            have n5_ := Aside0.mk (blk_below (bz_ BK152.out) hb)
            have n6_ := Aside0.mk (blk_below (bz_ BK153.out) hb)
            have n7_ := Aside0.mk (blk_below (bz_ BK193.out) hb)
            have n8_ := Aside0.mk (below_step (by repeat (first | (with_reducible first | exact HB.out | apply below_alloc | apply pw_below_drewN | apply below_drew1 | refine below_set ?_ GE151.out | refine below_set ?_ GE152.out | refine below_set ?_ GE153.out | refine below_set ?_ GE193.out) | exact HB.out)) hb)
            clear HO189
            clear HO192
            clear HO196
            clear BK151
            clear BK152
            clear BK153
            clear BK193
            clear HB
            have HO189 := n0_
            have HO192 := n1_
            have HO196 := n2_
            have HO206 := n3_
            have BK151 := n4_
            have BK152 := n5_
            have BK153 := n6_
            have BK193 := n7_
            have HB := n8_
            clear n0_ n1_ n2_ n3_ n4_ n5_ n6_ n7_ n8_
            clear hb ho99
            refine hK.out _ _ ⟨(blk_cell BK151.out 0).trans rfl, (blk_cell BK151.out 1).trans rfl, (blk_cell BK152.out 0).trans rfl, (blk_cell BK152.out 1).trans rfl⟩ (fun hHeld => ?_)
            clear hK K
            refine norm_ (a' := ?_) ?_ ?_
            rotate_left
            ·show Act.put _ (some 47) _ = _
             simp only [Act.put, List.setIfInBounds_toArray, List.set_cons_zero, List.set_cons_succ, i64_w, i32_w]
             rfl
            refine one_ (i := 5) (N := some 45) #[true, true, true, true, true, true, true, true, false, true, true, true, true, false, false, false] rfl rfl (one_of HT_.out (by kernel_rfl)) (by decide) (fun K hK => ?_)
            refine Kd.R_append_rows_step k36 (w0 := w) w.heap.size (by rfl) (.tmp 40) (.tmp 44) 30 36 (.agg #[(.int .i64 0), (.int .i64 0)]) 16 rfl Try.underlying30 info36 rfl (by decide) (by omega) v195 y194 y197 _ _ _ (fun k_ => some k_ ≠ (.slice Ao90 t190.length co90 : Value).ownBlock ∧ some k_ ≠ (v205 : Value).ownBlock ∧ k_ ≠ gb152) (fun _ => False) rfl rfl ?aO ?aR (fun _ _ h => h) (fun _ h => h.elim) ?aF ?aB ?aS ?aL ?_
            (case aR => exact cz_ (Kd.C_below HR200.out HB.out))
            (case aB => exact (by repeat (first | (with_reducible first | exact HB.out | apply below_alloc | apply pw_below_drewN | apply below_drew1 | refine below_set ?_ GE151.out | refine below_set ?_ GE152.out | refine below_set ?_ GE153.out | refine below_set ?_ GE193.out) | exact HB.out)))
            (case aF => exact (fun k_ hk => ⟨Kd.fresh' (Kd.R_lt (rz_ HO192.out)) k_ hk, Kd.fresh' (Kd.R_lt (rz_ HO206.out)) k_ hk, Kd.freshB (g := gb152) (o := .cells #[.int .i64 a1_0, .int .i64 a1_1] 36 (0, 0)) (bz_ BK152.out) k_ hk⟩))
            (case aO => exact (rz_ (Kd.R_mono HO196.out (fun _ hk => ⟨hk.1.1.2, ⟨hk.2, hk.1.2⟩⟩))))
            (case aS => exact (below_size (by repeat (first | (with_reducible first | exact HB.out | apply below_alloc | apply pw_below_drewN | apply below_drew1 | refine below_set ?_ GE151.out | refine below_set ?_ GE152.out | refine below_set ?_ GE153.out | refine below_set ?_ GE193.out) | exact HB.out))))
            (case aL => have := LMc74.out; omega)
            intro v202 w100 ho hb hg hat
            rw [← Ny201.out] at ho
            have n0_ := Aside0.mk (blk_grown (g := gb151) (o := .cells #[.slice A0_0 l0_0.length c0_0, .slice A0_1 l0_1.length c0_1] 32 (0, 0)) (bz_ BK151.out) hg (Kd.R_ne HO196.out BK151.out (by decide)))
            have n1_ := Aside0.mk (blk_grown (g := gb152) (o := .cells #[.int .i64 a1_0, .int .i64 a1_1] 36 (0, 0)) (bz_ BK152.out) hg (Kd.R_away HO196.out (fun _ hk => hk.1.2)))
            have n2_ := Aside0.mk (blk_grown (g := gb153) (o := .cells #[.slice none 0 0, .slice none 0 0] 32 (0, 0)) (bz_ BK153.out) hg (Kd.R_ne HO196.out BK153.out (by decide)))
            have n3_ := Aside0.mk (Kd.R_over' (rz_ HO189.out) (Kd.R_typed (rz_ HO196.out)) (by decide) hg)
            have n4_ := Aside0.mk (Kd.R_after (ok := (fun k_ => some k_ ≠ (v205 : Value).ownBlock ∧ k_ ≠ gb152)) (rz_ (Kd.R_mono HO192.out (fun _ hk => ⟨⟨hk.2, hk.1.1⟩, hk.1.2⟩))) hg hat)
            have n5_ := Aside0.mk (blk_grown (g := gb193) (o := .cells #[.slice Ao85 t187.length co85, .slice Ao90 t190.length co90] 32 (0, 0)) (bz_ BK193.out) hg (Kd.R_ne HO196.out BK193.out (by decide)))
            have n6_ := Aside0.mk (Kd.R_after (ok := (fun k_ => some k_ ≠ (.slice Ao90 t190.length co90 : Value).ownBlock ∧ k_ ≠ gb152)) (rz_ (Kd.R_mono HO206.out (fun _ hk => ⟨⟨hk.1.1.2, hk.2⟩, hk.1.2⟩))) hg hat)
            have n7_ := Aside0.mk (hb)
            have n8_ := Aside0.mk (ho)
            clear BK151
            clear BK152
            clear BK153
            clear HO189
            clear HO192
            clear BK193
            clear HO206
            clear HB
            clear HO196
            have BK151 := n0_
            have BK152 := n1_
            have BK153 := n2_
            have HO189 := n3_
            have HO192 := n4_
            have BK193 := n5_
            have HO206 := n6_
            have HB := n7_
            have HO203 := n8_
            clear n0_ n1_ n2_ n3_ n4_ n5_ n6_ n7_ n8_
            clear ho hb hg hat
            refine hK.out _ _ ⟨(blk_cell BK151.out 0).trans rfl, (blk_cell BK151.out 1).trans rfl, (blk_cell BK152.out 0).trans rfl, (blk_cell BK152.out 1).trans rfl⟩ (fun hHeld => ?_)
            clear hK K
            refine norm_ (a' := ?_) ?_ ?_
            rotate_left
            ·show Act.put _ (some 45) _ = _
             simp only [Act.put, List.setIfInBounds_toArray, List.set_cons_zero, List.set_cons_succ, i64_w, i32_w]
             rfl
            exact norm_ (by simp only [putAll, Act.put, List.setIfInBounds_toArray, List.set_cons_zero, List.set_cons_succ]) (hCont (v195, v202, v205) _ ⟨hHeld, (rz_ HO189.out), (rz_ (Kd.R_mono HO192.out (fun _ hk => ⟨hk.2, ⟨hk.1.1, hk.1.2⟩⟩))), (rz_ HO203.out), (rz_ (Kd.R_mono HO206.out (fun _ hk => ⟨hk.1.1, ⟨hk.2, hk.1.2⟩⟩))), (bz_ BK151.out), (bz_ BK152.out), (bz_ BK153.out), (bz_ BK193.out), (by repeat (first | (with_reducible first | exact HB.out | apply below_alloc | apply pw_below_drewN | apply below_drew1 | refine below_set ?_ GE151.out | refine below_set ?_ GE152.out | refine below_set ?_ GE153.out | refine below_set ?_ GE193.out) | exact HB.out))⟩)
          ·skip
           refine Kd.R_lit_step k36 _ 36 ?hg (N := 47) ?hd (xs := ([(⟨a1_0, a1_1⟩ : S36)] : List (S36))) (inner := [.int .i64 a1_0, .int .i64 a1_1]) (ok := fun _ => True) (okp := fun _ => True) ?hr ?hp (fun _ hk => hk) trivial (Below.refl _ _) (Nat.le_refl _) (by simp) ?_; (case hd => rfl); (case hg => rfl); (case hr => first | (go_simp; done) | (go_simp; rfl)); (case hp => exact (Reps.c2 (show Kd.M k36 _ _ _ (⟨a1_0, a1_1⟩ : S36) [.int .i64 a1_0, .int .i64 a1_1] from (k36_mkM _ _ _ (⟨a1_0, a1_1⟩ : S36) )) (Reps.none _ _)))
           intro v205 w96 ho97 hb hg_ hnew_
           clear hg_ hnew_
           (first | rw [← Ny204.out] at ho97 | (simp only [Int.reduceToNat] at ho97; rw [← Ny204.out] at ho97))
           have n0_ := Aside0.mk (Kd.R_below (rz_ HO189.out) hb)
           have n1_ := Aside0.mk (Kd.R_elder' (rz_ HO192.out) (Kd.R_base ho97) hb)
           have n2_ := Aside0.mk (Kd.R_lower (Kd.R_newB (Kd.R_new' ho97 (Kd.R_lt (rz_ HO192.out))) (g := gb152) (o := .cells #[.int .i64 a1_0, .int .i64 a1_1] 36 (0, 0)) (bz_ BK152.out)) (below_size (by repeat (first | (with_reducible first | exact HB.out | apply below_alloc | apply pw_below_drewN | apply below_drew1 | refine below_set ?_ GE151.out | refine below_set ?_ GE152.out | refine below_set ?_ GE153.out | refine below_set ?_ GE193.out) | exact HB.out))))
           have n3_ := Aside0.mk (blk_below (bz_ BK151.out) hb)
           have n4_ := Aside0.mk (blk_below (bz_ BK152.out) hb)
           have n5_ := Aside0.mk (blk_below (bz_ BK153.out) hb)
           have n6_ := Aside0.mk (blk_below (bz_ BK193.out) hb)
           have n7_ := Aside0.mk (below_step (by repeat (first | (with_reducible first | exact HB.out | apply below_alloc | apply pw_below_drewN | apply below_drew1 | refine below_set ?_ GE151.out | refine below_set ?_ GE152.out | refine below_set ?_ GE153.out | refine below_set ?_ GE193.out) | exact HB.out)) hb)
           clear HO189
           clear HO192
           clear BK151
           clear BK152
           clear BK153
           clear BK193
           clear HB
           have HO189 := n0_
           have HO192 := n1_
           have HO206 := n2_
           have BK151 := n3_
           have BK152 := n4_
           have BK153 := n5_
           have BK193 := n6_
           have HB := n7_
           clear n0_ n1_ n2_ n3_ n4_ n5_ n6_ n7_
           clear hb ho97
           refine hK.out _ _ ⟨(blk_cell BK151.out 0).trans rfl, (blk_cell BK151.out 1).trans rfl, (blk_cell BK152.out 0).trans rfl, (blk_cell BK152.out 1).trans rfl⟩ (fun hHeld => ?_)
           clear hK K
           refine norm_ (a' := ?_) ?_ ?_
           rotate_left
           ·show Act.put _ (some 47) _ = _
            simp only [Act.put, List.setIfInBounds_toArray, List.set_cons_zero, List.set_cons_succ, i64_w, i32_w]
            rfl
           refine one_ (i := 0) (N := some 40) #[true, true, true, true, true, false, true, true, false, true, true, true, true, false, false, false] rfl rfl (one_of HT_.out (by kernel_rfl)) (by decide) (fun K hK => ?_)
           refine Kd.R_lit_step k36 _ 36 ?hg (N := 40) ?hd (xs := ([] : List (S36))) (inner := []) (ok := fun _ => True) (okp := fun _ => True) ?hr ?hp (fun _ hk => hk) trivial (Below.refl _ _) (Nat.le_refl _) (by simp) ?_; (case hd => rfl); (case hg => rfl); (case hr => first | (go_simp; done) | (go_simp; rfl)); (case hp => exact (Reps.none _ _))
           intro v195 w98 ho99 hb hg_ hnew_
           clear hg_ hnew_
           (first | rw [← Ny194.out] at ho99 | (simp only [Int.reduceToNat] at ho99; rw [← Ny194.out] at ho99))
           have n0_ := Aside0.mk (Kd.R_below (rz_ HO189.out) hb)
           have n1_ := Aside0.mk (Kd.R_elder' (rz_ HO192.out) (Kd.R_base ho99) hb)
           have n2_ := Aside0.mk (Kd.R_elder' (rz_ HO206.out) (Kd.R_base ho99) hb)
           have n3_ := Aside0.mk (Kd.R_lower (Kd.R_newB (Kd.R_new' (Kd.R_new' ho99 (Kd.R_lt (rz_ HO192.out))) (Kd.R_lt (rz_ HO206.out))) (g := gb152) (o := .cells #[.int .i64 a1_0, .int .i64 a1_1] 36 (0, 0)) (bz_ BK152.out)) (below_size (by repeat (first | (with_reducible first | exact HB.out | apply below_alloc | apply pw_below_drewN | apply below_drew1 | refine below_set ?_ GE151.out | refine below_set ?_ GE152.out | refine below_set ?_ GE153.out | refine below_set ?_ GE193.out) | exact HB.out))))
           have n4_ := Aside0.mk (blk_below (bz_ BK151.out) hb)
           have n5_ := Aside0.mk (blk_below (bz_ BK152.out) hb)
           have n6_ := Aside0.mk (blk_below (bz_ BK153.out) hb)
           have n7_ := Aside0.mk (blk_below (bz_ BK193.out) hb)
           have n8_ := Aside0.mk (below_step (by repeat (first | (with_reducible first | exact HB.out | apply below_alloc | apply pw_below_drewN | apply below_drew1 | refine below_set ?_ GE151.out | refine below_set ?_ GE152.out | refine below_set ?_ GE153.out | refine below_set ?_ GE193.out) | exact HB.out)) hb)
           clear HO189
           clear HO192
           clear HO206
           clear BK151
           clear BK152
           clear BK153
           clear BK193
           clear HB
           have HO189 := n0_
           have HO192 := n1_
           have HO206 := n2_
           have HO196 := n3_
           have BK151 := n4_
           have BK152 := n5_
           have BK153 := n6_
           have BK193 := n7_
           have HB := n8_
           clear n0_ n1_ n2_ n3_ n4_ n5_ n6_ n7_ n8_
           clear hb ho99
           refine hK.out _ _ ⟨(blk_cell BK151.out 0).trans rfl, (blk_cell BK151.out 1).trans rfl, (blk_cell BK152.out 0).trans rfl, (blk_cell BK152.out 1).trans rfl⟩ (fun hHeld => ?_)
           clear hK K
           refine norm_ (a' := ?_) ?_ ?_
           rotate_left
           ·show Act.put _ (some 40) _ = _
            simp only [Act.put, List.setIfInBounds_toArray, List.set_cons_zero, List.set_cons_succ, i64_w, i32_w]
            rfl
           refine one_ (i := 5) (N := some 45) #[true, true, true, true, true, true, true, true, false, true, true, true, true, false, false, false] rfl rfl (one_of HT_.out (by kernel_rfl)) (by decide) (fun K hK => ?_)
           refine Kd.R_append_rows_step k36 (w0 := w) w.heap.size (by rfl) (.tmp 40) (.tmp 44) 30 36 (.agg #[(.int .i64 0), (.int .i64 0)]) 16 rfl Try.underlying30 info36 rfl (by decide) (by omega) v195 y194 y197 _ _ _ (fun k_ => some k_ ≠ (.slice Ao90 t190.length co90 : Value).ownBlock ∧ some k_ ≠ (v205 : Value).ownBlock ∧ k_ ≠ gb152) (fun _ => False) rfl rfl ?aO ?aR (fun _ _ h => h) (fun _ h => h.elim) ?aF ?aB ?aS ?aL ?_
           (case aR => exact cz_ (Kd.C_below HR200.out HB.out))
           (case aB => exact (by repeat (first | (with_reducible first | exact HB.out | apply below_alloc | apply pw_below_drewN | apply below_drew1 | refine below_set ?_ GE151.out | refine below_set ?_ GE152.out | refine below_set ?_ GE153.out | refine below_set ?_ GE193.out) | exact HB.out)))
           (case aF => exact (fun k_ hk => ⟨Kd.fresh' (Kd.R_lt (rz_ HO192.out)) k_ hk, Kd.fresh' (Kd.R_lt (rz_ HO206.out)) k_ hk, Kd.freshB (g := gb152) (o := .cells #[.int .i64 a1_0, .int .i64 a1_1] 36 (0, 0)) (bz_ BK152.out) k_ hk⟩))
           (case aO => exact (rz_ (Kd.R_mono HO196.out (fun _ hk => ⟨hk.1.1.2, ⟨hk.1.2, hk.2⟩⟩))))
           (case aS => exact (below_size (by repeat (first | (with_reducible first | exact HB.out | apply below_alloc | apply pw_below_drewN | apply below_drew1 | refine below_set ?_ GE151.out | refine below_set ?_ GE152.out | refine below_set ?_ GE153.out | refine below_set ?_ GE193.out) | exact HB.out))))
           (case aL => have := LMc74.out; omega)
           intro v202 w100 ho hb hg hat
           rw [← Ny201.out] at ho
           have n0_ := Aside0.mk (blk_grown (g := gb151) (o := .cells #[.slice A0_0 l0_0.length c0_0, .slice A0_1 l0_1.length c0_1] 32 (0, 0)) (bz_ BK151.out) hg (Kd.R_ne HO196.out BK151.out (by decide)))
           have n1_ := Aside0.mk (blk_grown (g := gb152) (o := .cells #[.int .i64 a1_0, .int .i64 a1_1] 36 (0, 0)) (bz_ BK152.out) hg (Kd.R_away HO196.out (fun _ hk => hk.2)))
           have n2_ := Aside0.mk (blk_grown (g := gb153) (o := .cells #[.slice none 0 0, .slice none 0 0] 32 (0, 0)) (bz_ BK153.out) hg (Kd.R_ne HO196.out BK153.out (by decide)))
           have n3_ := Aside0.mk (Kd.R_over' (rz_ HO189.out) (Kd.R_typed (rz_ HO196.out)) (by decide) hg)
           have n4_ := Aside0.mk (Kd.R_after (ok := (fun k_ => some k_ ≠ (v205 : Value).ownBlock ∧ k_ ≠ gb152)) (rz_ (Kd.R_mono HO192.out (fun _ hk => ⟨⟨hk.1.2, hk.1.1⟩, hk.2⟩))) hg hat)
           have n5_ := Aside0.mk (blk_grown (g := gb193) (o := .cells #[.slice Ao85 t187.length co85, .slice Ao90 t190.length co90] 32 (0, 0)) (bz_ BK193.out) hg (Kd.R_ne HO196.out BK193.out (by decide)))
           have n6_ := Aside0.mk (Kd.R_after (ok := (fun k_ => some k_ ≠ (.slice Ao90 t190.length co90 : Value).ownBlock ∧ k_ ≠ gb152)) (rz_ (Kd.R_mono HO206.out (fun _ hk => ⟨⟨hk.1.1.2, hk.1.2⟩, hk.2⟩))) hg hat)
           have n7_ := Aside0.mk (hb)
           have n8_ := Aside0.mk (ho)
           clear BK151
           clear BK152
           clear BK153
           clear HO189
           clear HO192
           clear BK193
           clear HO206
           clear HB
           clear HO196
           have BK151 := n0_
           have BK152 := n1_
           have BK153 := n2_
           have HO189 := n3_
           have HO192 := n4_
           have BK193 := n5_
           have HO206 := n6_
           have HB := n7_
           have HO203 := n8_
           clear n0_ n1_ n2_ n3_ n4_ n5_ n6_ n7_ n8_
           clear ho hb hg hat
           refine hK.out _ _ ⟨(blk_cell BK151.out 0).trans rfl, (blk_cell BK151.out 1).trans rfl, (blk_cell BK152.out 0).trans rfl, (blk_cell BK152.out 1).trans rfl⟩ (fun hHeld => ?_)
           clear hK K
           refine norm_ (a' := ?_) ?_ ?_
           rotate_left
           ·show Act.put _ (some 45) _ = _
            simp only [Act.put, List.setIfInBounds_toArray, List.set_cons_zero, List.set_cons_succ, i64_w, i32_w]
            rfl
           exact norm_ (by simp only [putAll, Act.put, List.setIfInBounds_toArray, List.set_cons_zero, List.set_cons_succ]) (hCont (v195, v202, v205) _ ⟨hHeld, (rz_ HO189.out), (rz_ (Kd.R_mono HO192.out (fun _ hk => ⟨hk.2, ⟨hk.1.1, hk.1.2⟩⟩))), (rz_ HO203.out), (rz_ (Kd.R_mono HO206.out (fun _ hk => ⟨hk.1.1, ⟨hk.2, hk.1.2⟩⟩))), (bz_ BK151.out), (bz_ BK152.out), (bz_ BK153.out), (bz_ BK193.out), (by repeat (first | (with_reducible first | exact HB.out | apply below_alloc | apply pw_below_drewN | apply below_drew1 | refine below_set ?_ GE151.out | refine below_set ?_ GE152.out | refine below_set ?_ GE153.out | refine below_set ?_ GE193.out) | exact HB.out))⟩)
         rintro ⟨v195, v202, v205⟩ w101 ⟨hS_, h0_, h1_, h2_, h3_, h4_, h5_, h6_, h7_, h8_⟩
         have n0_ : Aside0 (Kd.R k44 44 w101 w.heap.size (fun _ => True) (.slice Ao85 t187.length co85) t187) := ⟨h0_⟩
         have n1_ : Aside0 (Kd.R k36 36 w101 w.heap.size (fun k_ => some k_ ≠ (v202 : Value).ownBlock ∧ some k_ ≠ (v205 : Value).ownBlock ∧ k_ ≠ gb152) (.slice Ao90 t190.length co90) t190) := ⟨h1_⟩
         have n2_ : Aside0 (Kd.R k36 36 w101 w.heap.size (fun k_ => some k_ ≠ (.slice Ao90 t190.length co90 : Value).ownBlock ∧ some k_ ≠ (v205 : Value).ownBlock ∧ k_ ≠ gb152) v202 y201) := ⟨h2_⟩
         have n3_ : Aside0 (Kd.R k36 36 w101 w.heap.size (fun k_ => some k_ ≠ (.slice Ao90 t190.length co90 : Value).ownBlock ∧ some k_ ≠ (v202 : Value).ownBlock ∧ k_ ≠ gb152) v205 y204) := ⟨h3_⟩
         have n4_ : Aside0 (w101.heap[gb151]? = some (.cells #[.slice A0_0 l0_0.length c0_0, .slice A0_1 l0_1.length c0_1] 32 (0, 0))) := ⟨h4_⟩
         have n5_ : Aside0 (w101.heap[gb152]? = some (.cells #[.int .i64 a1_0, .int .i64 a1_1] 36 (0, 0))) := ⟨h5_⟩
         have n6_ : Aside0 (w101.heap[gb153]? = some (.cells #[.slice none 0 0, .slice none 0 0] 32 (0, 0))) := ⟨h6_⟩
         have n7_ : Aside0 (w101.heap[gb193]? = some (.cells #[.slice Ao85 t187.length co85, .slice Ao90 t190.length co90] 32 (0, 0))) := ⟨h7_⟩
         have n8_ : Aside0 (Below w.heap.size w w101) := ⟨h8_⟩
         clear HO189
         clear HO192
         clear BK151
         clear BK152
         clear BK153
         clear BK193
         clear HB
         clear h0_ h1_ h2_ h3_ h4_ h5_ h6_ h7_ h8_
         have HO189 := n0_
         have HO192 := n1_
         have HO203 := n2_
         have HO206 := n3_
         have BK151 := n4_
         have BK152 := n5_
         have BK153 := n6_
         have BK193 := n7_
         have HB := n8_
         clear n0_ n1_ n2_ n3_ n4_ n5_ n6_ n7_ n8_
         have hHeld : w101.cell? ⟨gb151, 0, none⟩ = some (.slice A0_0 l0_0.length c0_0) ∧ w101.cell? ⟨gb151, 1, none⟩ = some (.slice A0_1 l0_1.length c0_1) ∧ w101.cell? ⟨gb152, 0, none⟩ = some (.int .i64 a1_0) ∧ w101.cell? ⟨gb152, 1, none⟩ = some (.int .i64 a1_1) := hS_
         obtain ⟨Ao103, co103, eo103⟩ := Kd.R_slice HO206.out
         (first | subst eo103 | (injection eo103 with f1_ f2_ f3_; have f4_ := f1_.symm; have f5_ := f3_.symm; clear f1_ f2_ f3_; subst f4_; subst f5_))
         refine norm_ (a' := ?_) ?_ ?_
         rotate_left
         ·simp only [putAll, Act.put, List.setIfInBounds_toArray, List.set_cons_zero, List.set_cons_succ]
          rfl
         refine one_ (i := 8) (N := some 48) (bl 13 16) rfl rfl (one_of HT_.out (by kernel_rfl)) (by decide) (fun K hK => ?_)
         refine Kd.R_append_rows_step k36 (w0 := w) w.heap.size (by rfl) (.tmp 45) (.tmp 47) 30 36 (.agg #[(.int .i64 0), (.int .i64 0)]) 16 rfl Try.underlying30 info36 rfl (by decide) (by omega) v202 y201 y204 _ _ _ (fun k_ => some k_ ≠ (.slice Ao90 t190.length co90 : Value).ownBlock ∧ some k_ ≠ (.slice Ao103 y204.length co103 : Value).ownBlock ∧ k_ ≠ gb152) (fun _ => False) rfl rfl ?aO ?aR (fun _ _ h => h) (fun _ h => h.elim) ?aF ?aB ?aS ?aL ?_
         (case aR => exact cz_ (Kd.R_reads' HO206.out).2.2)
         (case aB => exact (by repeat (first | (with_reducible first | exact HB.out | apply below_alloc | apply pw_below_drewN | apply below_drew1 | refine below_set ?_ GE151.out | refine below_set ?_ GE152.out | refine below_set ?_ GE153.out | refine below_set ?_ GE193.out) | exact HB.out)))
         (case aF => exact (fun k_ hk => ⟨Kd.fresh' (Kd.R_lt (rz_ HO192.out)) k_ hk, Kd.fresh' (Kd.R_lt (rz_ HO206.out)) k_ hk, Kd.freshB (g := gb152) (o := .cells #[.int .i64 a1_0, .int .i64 a1_1] 36 (0, 0)) (bz_ BK152.out) k_ hk⟩))
         (case aO => exact (rz_ HO203.out))
         (case aS => exact (below_size (by repeat (first | (with_reducible first | exact HB.out | apply below_alloc | apply pw_below_drewN | apply below_drew1 | refine below_set ?_ GE151.out | refine below_set ?_ GE152.out | refine below_set ?_ GE153.out | refine below_set ?_ GE193.out) | exact HB.out))))
         (case aL => have := LMc75.out; omega)
         intro v208 w102 ho hb hg hat
         rw [← Ny207.out] at ho
         have n0_ := Aside0.mk (blk_grown (g := gb151) (o := .cells #[.slice A0_0 l0_0.length c0_0, .slice A0_1 l0_1.length c0_1] 32 (0, 0)) (bz_ BK151.out) hg (Kd.R_ne HO203.out BK151.out (by decide)))
         have n1_ := Aside0.mk (blk_grown (g := gb152) (o := .cells #[.int .i64 a1_0, .int .i64 a1_1] 36 (0, 0)) (bz_ BK152.out) hg (Kd.R_away HO203.out (fun _ hk => hk.2.2)))
         have n2_ := Aside0.mk (blk_grown (g := gb153) (o := .cells #[.slice none 0 0, .slice none 0 0] 32 (0, 0)) (bz_ BK153.out) hg (Kd.R_ne HO203.out BK153.out (by decide)))
         have n3_ := Aside0.mk (Kd.R_over' (rz_ HO189.out) (Kd.R_typed (rz_ HO203.out)) (by decide) hg)
         have n4_ := Aside0.mk (Kd.R_after (ok := (fun k_ => some k_ ≠ (.slice Ao103 y204.length co103 : Value).ownBlock ∧ k_ ≠ gb152)) (rz_ (Kd.R_mono HO192.out (fun _ hk => ⟨⟨hk.2.1, hk.2.2⟩, hk.1⟩))) hg hat)
         have n5_ := Aside0.mk (blk_grown (g := gb193) (o := .cells #[.slice Ao85 t187.length co85, .slice Ao90 t190.length co90] 32 (0, 0)) (bz_ BK193.out) hg (Kd.R_ne HO203.out BK193.out (by decide)))
         have n6_ := Aside0.mk (Kd.R_after (ok := (fun k_ => some k_ ≠ (.slice Ao90 t190.length co90 : Value).ownBlock ∧ k_ ≠ gb152)) (rz_ (Kd.R_mono HO206.out (fun _ hk => ⟨⟨hk.1, hk.2.2⟩, hk.2.1⟩))) hg hat)
         have n7_ := Aside0.mk (hb)
         have n8_ := Aside0.mk (ho)
         clear BK151
         clear BK152
         clear BK153
         clear HO189
         clear HO192
         clear BK193
         clear HO206
         clear HB
         clear HO203
         have BK151 := n0_
         have BK152 := n1_
         have BK153 := n2_
         have HO189 := n3_
         have HO192 := n4_
         have BK193 := n5_
         have HO206 := n6_
         have HB := n7_
         have HO209 := n8_
         clear n0_ n1_ n2_ n3_ n4_ n5_ n6_ n7_ n8_
         clear ho hb hg hat
         refine hK.out _ _ ⟨(blk_cell BK151.out 0).trans rfl, (blk_cell BK151.out 1).trans rfl, (blk_cell BK152.out 0).trans rfl, (blk_cell BK152.out 1).trans rfl⟩ (fun hHeld => ?_)
         clear hK K
         refine norm_ (a' := ?_) ?_ ?_
         rotate_left
         ·show Act.put _ (some 48) _ = _
          simp only [Act.put, List.setIfInBounds_toArray, List.set_cons_zero, List.set_cons_succ, i64_w, i32_w]
          rfl
         refine one_ (i := 13) (N := some 53) (bl 14 16) rfl rfl (one_of HT_.out (by kernel_rfl)) (by decide) (fun K hK => ?_)
         refine Kd.R_append_rows_step k36 (w0 := w) w.heap.size (by rfl) (.tmp 48) (.tmp 52) 30 36 (.agg #[(.int .i64 0), (.int .i64 0)]) 16 rfl Try.underlying30 info36 rfl (by decide) (by omega) v208 y207 y210 _ _ _ (fun k_ => some k_ ≠ (.slice Ao90 t190.length co90 : Value).ownBlock ∧ some k_ ≠ (.slice Ao103 y204.length co103 : Value).ownBlock ∧ k_ ≠ gb152) (fun _ => False) rfl rfl ?aO ?aR (fun _ _ h => h) (fun _ h => h.elim) ?aF ?aB ?aS ?aL ?_
         (case aR => exact cz_ (Kd.C_below HR213.out HB.out))
         (case aB => exact (by repeat (first | (with_reducible first | exact HB.out | apply below_alloc | apply pw_below_drewN | apply below_drew1 | refine below_set ?_ GE151.out | refine below_set ?_ GE152.out | refine below_set ?_ GE153.out | refine below_set ?_ GE193.out) | exact HB.out)))
         (case aF => exact (fun k_ hk => ⟨Kd.fresh' (Kd.R_lt (rz_ HO192.out)) k_ hk, Kd.fresh' (Kd.R_lt (rz_ HO206.out)) k_ hk, Kd.freshB (g := gb152) (o := .cells #[.int .i64 a1_0, .int .i64 a1_1] 36 (0, 0)) (bz_ BK152.out) k_ hk⟩))
         (case aO => exact (rz_ HO209.out))
         (case aS => exact (below_size (by repeat (first | (with_reducible first | exact HB.out | apply below_alloc | apply pw_below_drewN | apply below_drew1 | refine below_set ?_ GE151.out | refine below_set ?_ GE152.out | refine below_set ?_ GE153.out | refine below_set ?_ GE193.out) | exact HB.out))))
         (case aL => have := LMc78.out; omega)
         intro v215 w104 ho hb hg hat
         rw [← Ny214.out] at ho
         have n0_ := Aside0.mk (blk_grown (g := gb151) (o := .cells #[.slice A0_0 l0_0.length c0_0, .slice A0_1 l0_1.length c0_1] 32 (0, 0)) (bz_ BK151.out) hg (Kd.R_ne HO209.out BK151.out (by decide)))
         have n1_ := Aside0.mk (blk_grown (g := gb152) (o := .cells #[.int .i64 a1_0, .int .i64 a1_1] 36 (0, 0)) (bz_ BK152.out) hg (Kd.R_away HO209.out (fun _ hk => hk.2.2)))
         have n2_ := Aside0.mk (blk_grown (g := gb153) (o := .cells #[.slice none 0 0, .slice none 0 0] 32 (0, 0)) (bz_ BK153.out) hg (Kd.R_ne HO209.out BK153.out (by decide)))
         have n3_ := Aside0.mk (Kd.R_over' (rz_ HO189.out) (Kd.R_typed (rz_ HO209.out)) (by decide) hg)
         have n4_ := Aside0.mk (Kd.R_after (ok := (fun k_ => some k_ ≠ (.slice Ao103 y204.length co103 : Value).ownBlock ∧ k_ ≠ gb152)) (rz_ HO192.out) hg hat)
         have n5_ := Aside0.mk (blk_grown (g := gb193) (o := .cells #[.slice Ao85 t187.length co85, .slice Ao90 t190.length co90] 32 (0, 0)) (bz_ BK193.out) hg (Kd.R_ne HO209.out BK193.out (by decide)))
         have n6_ := Aside0.mk (Kd.R_after (ok := (fun k_ => some k_ ≠ (.slice Ao90 t190.length co90 : Value).ownBlock ∧ k_ ≠ gb152)) (rz_ HO206.out) hg hat)
         have n7_ := Aside0.mk (hb)
         have n8_ := Aside0.mk (ho)
         clear BK151
         clear BK152
         clear BK153
         clear HO189
         clear HO192
         clear BK193
         clear HO206
         clear HB
         clear HO209
         have BK151 := n0_
         have BK152 := n1_
         have BK153 := n2_
         have HO189 := n3_
         have HO192 := n4_
         have BK193 := n5_
         have HO206 := n6_
         have HB := n7_
         have HO216 := n8_
         clear n0_ n1_ n2_ n3_ n4_ n5_ n6_ n7_ n8_
         clear ho hb hg hat
         obtain ⟨Ao105, co105, eo105⟩ := Kd.R_slice HO216.out
         (first | subst eo105 | (injection eo105 with f1_ f2_ f3_; have f4_ := f1_.symm; have f5_ := f3_.symm; clear f1_ f2_ f3_; subst f4_; subst f5_))
         refine hK.out _ _ ⟨(blk_cell BK151.out 0).trans rfl, (blk_cell BK151.out 1).trans rfl, (blk_cell BK152.out 0).trans rfl, (blk_cell BK152.out 1).trans rfl⟩ (fun hHeld => ?_)
         clear hK K
         refine norm_ (a' := ?_) ?_ ?_
         rotate_left
         ·show Act.put _ (some 53) _ = _
          simp only [Act.put, List.setIfInBounds_toArray, List.set_cons_zero, List.set_cons_succ, i64_w, i32_w]
          rfl
         refine pA_ 14 (some 54) (bl 15 16) HT_.out (h := ?_)
         refine one_ (i := 15) (N := none) (bl 16 16) rfl rfl (one_of HT_.out (by kernel_rfl)) (by decide) (fun K hK => ?_)
         have hs106 : w104.cell? ⟨gb193, 1, none⟩ = some (.slice Ao90 t190.length co90) := (blk_cell BK193.out 1).trans rfl
         have hfs106 := blk_frozen BK193.out 1
         have hns106_0 := NB151_193.out
         have hns106_1 := NB152_193.out
         have hns106_2 := NB153_193.out
         have hms106_0 := NB193_151.out
         have hms106_1 := NB193_152.out
         have hms106_2 := NB193_153.out
         refine skip_ (w1 := ?_) (by rfl) rfl ?_ ?_
         rotate_left
         ·go_simp
          rfl
         refine hK.out _ _ ⟨((cell_far (p := ⟨gb193, _, none⟩) NB151_193.out _).trans (hHeld.1)), ((cell_far (p := ⟨gb193, _, none⟩) NB151_193.out _).trans (hHeld.2.1)), ((cell_far (p := ⟨gb193, _, none⟩) NB152_193.out _).trans (hHeld.2.2.1)), ((cell_far (p := ⟨gb193, _, none⟩) NB152_193.out _).trans (hHeld.2.2.2))⟩ (fun hHeld => ?_)
         clear hK K
         refine done_ (done_of HT_.out (by kernel_rfl)) ?_
         have hcz107_0 : w104.cell? ⟨gb193, 0, none⟩ = some (.slice Ao85 t187.length co85) := (blk_cell BK193.out 0).trans rfl
         have hcz107_1 : w104.cell? ⟨gb193, 1, none⟩ = some (.slice Ao90 t190.length co90) := (blk_cell BK193.out 1).trans rfl
         have hfz107_0 := blk_frozen BK193.out 0
         have hfz107_1 := blk_frozen BK193.out 1
         have hnb108 := NB153_152.out
         have hnc108 := NB152_153.out
         have hcz109_0 : w104.cell? ⟨gb153, 0, none⟩ = some (.slice none 0 0) := (blk_cell BK153.out 0).trans rfl
         have hcz109_1 : w104.cell? ⟨gb153, 1, none⟩ = some (.slice none 0 0) := (blk_cell BK153.out 1).trans rfl
         have hfz109_0 := blk_frozen BK153.out 0
         have hfz109_1 := blk_frozen BK153.out 1
         try go_wp2
         refine bodyPost_ret (results_cell_row rfl _ _ gb153 32 #[.slice Ao85 t187.length co85, .slice Ao105 y214.length co105] (0, 0) _ rfl (by (with_reducible repeat (first | refine blk_drewN ?_ _ | refine blk_drew ?_ | refine blk_alloc ?_ _)); refine blk_put (cs := #[.slice Ao85 t187.length co85, .slice none 0 0]) ?_ 1 _ rfl; (with_reducible repeat (first | refine blk_drewN ?_ _ | refine blk_drew ?_ | refine blk_alloc ?_ _)); refine blk_put (cs := #[.slice none 0 0, .slice none 0 0]) ?_ 0 _ rfl; (with_reducible repeat (first | refine blk_drewN ?_ _ | refine blk_drew ?_ | refine blk_alloc ?_ _)); refine blk_far ?_ NB153_193.out _; (with_reducible repeat (first | refine blk_drewN ?_ _ | refine blk_drew ?_ | refine blk_alloc ?_ _)); exact BK153.out) Try.underlying32 rfl (by kernel_rfl)) rfl ?_
         exact ⟨_, _, by first | rfl | (simp [errW_none, errW_some] <;> rfl) | (simp [*, errW_none, errW_some] <;> rfl), rz_ (Kd.R_mono (Kd.R_far (p := ⟨gb153, 1, none⟩) (Kd.R_far (p := ⟨gb153, 0, none⟩) (Kd.R_far (p := ⟨gb193, 1, none⟩) (Kd.R_types (Kd.R_types HO189.out BK193.out (by decide)) BK153.out (by decide)) (fun _ hk => hk.1.2) (.slice Ao105 y214.length co105)) (fun _ hk => hk.2) (.slice Ao85 t187.length co85)) (fun _ hk => hk.2) (.slice Ao105 y214.length co105)) (fun _ hk => trivial)), rz_ (Kd.R_mono (Kd.R_far (p := ⟨gb153, 1, none⟩) (Kd.R_far (p := ⟨gb153, 0, none⟩) (Kd.R_far (p := ⟨gb193, 1, none⟩) (Kd.R_types (Kd.R_types HO216.out BK193.out (by decide)) BK153.out (by decide)) (fun _ hk => hk.1.2) (.slice Ao105 y214.length co105)) (fun _ hk => hk.2) (.slice Ao85 t187.length co85)) (fun _ hk => hk.2) (.slice Ao105 y214.length co105)) (fun _ hk => trivial)), by repeat (first | (with_reducible first | exact HB.out | apply below_alloc | apply pw_below_drewN | apply below_drew1 | refine below_set ?_ GE151.out | refine below_set ?_ GE152.out | refine below_set ?_ GE153.out | refine below_set ?_ GE193.out) | exact HB.out)⟩
        ·rw [if_neg c78] at H
         exact absurd H (by simp)
       ·rw [if_neg c75] at H
        exact absurd H (by simp)
      ·rw [if_neg c74] at H
       exact absurd H (by simp)
     ·rw [if_neg c73] at H
      exact absurd H (by simp)
    ·rw [if_neg c72] at H
     exact absurd H (by simp)

end Go.Proofs.Ytlmdmnenljmdgaa.Q

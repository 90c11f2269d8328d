-- Written by a program of this session (wip/xprint.py over the kit's printer).
import Derived.Test.YtdpehkfjhfjobaaQ0
import Derived.Test.YtdpehkfjhfjobaaQF89
namespace Go.Proofs.Ytdpehkfjhfjobaa.Q
open Go.RowKit Go.Proofs.YtdpehkfjhfjobaaW.PrintWords Go.Proofs.YtdpehkfjhfjobaaW.PrintLast Go.Proofs.YtdpehkfjhfjobaaW.PrintMore
attribute [local go_sem] max2_int min2_int max_two min_two max_three min_three max_four min_four   -- for this text's walks alone
set_option linter.unusedVariables false
set_option linter.unusedSimpArgs false

/-! ### spec_l5Reduced: function 99 -/
def spec_l5Reduced.l0 : Nat → Int → List (S76) → List (S90) → List (S76) → List (S90) → Option ((List (S76)) × (List (S90)))
 | 0, _, _, _, _, _ => none
 | k + 1, x4, x152000, x152001, x160000, x160001 => if x4 < (x152001.length : Int) then (if 0 ≤ x4 then ((spec_l5Redundant.f k x152000 x152001 ((rd_T90 x152001 x4).f0) ((rd_T90 x152001 x4).f1)).bind fun t161 => (if t161 = true then (spec_l5Reduced.l0 k (wrap64 (x4 + 1)) x152000 x152001 x160000 x160001) else (if x160001.length < 8796093022208 then (spec_l5Reduced.l0 k (wrap64 (x4 + 1)) x152000 x152001 x160000 (x160001 ++ [(⟨(rd_T90 x152001 x4).f0, (rd_T90 x152001 x4).f1⟩ : S90)])) else (none)))) else (none)) else (some (x160000, x160001))
def spec_l5Reduced.f (k : Nat) (l0_0 : List (S76)) (l0_1 : List (S90)) : Option ((List (S76)) × (List (S90))) := (some (([] : List (S76)) : List (S76))).bind fun y153 => (if y153.length + l0_0.length < 8796093022208 then (spec_l5Reduced.l0 k 0 l0_0 l0_1 (y153 ++ l0_0) ([] : List (S90))) else (none))
theorem spec_l5Reduced.mono_l : ∀ k, (∀ y0 y1 y2 y3 y4, LeO (spec_l5Reduced.l0 k y0 y1 y2 y3 y4) (spec_l5Reduced.l0 (k + 1) y0 y1 y2 y3 y4))
 | 0 => fun _ _ _ _ _ r h => by simp [spec_l5Reduced.l0] at h
 | k + 1 => by
  have ih0 := spec_l5Reduced.mono_l k
  ·intro y0 y1 y2 y3 y4
   unfold spec_l5Reduced.l0
   repeat' first
   | (with_reducible exact ih0 _ _ _ _ _)
   | (with_reducible exact spec_l5Redundant.mono _ _ _ _ _)
   | (with_reducible exact LeO.refl _)
   | (with_reducible exact LeO.none _)
   | (with_reducible refine LeO.ite ?_ ?_)
   | (with_reducible refine LeO.bind ?_ (fun _ => ?_))
   | exact ih0 _ _ _ _ _
   | exact spec_l5Redundant.mono _ _ _ _ _
   | exact LeO.none _
   | refine LeO.ite ?_ ?_
   | refine LeO.bind ?_ (fun _ => ?_)
theorem spec_l5Reduced.mono : ∀ a0 a1 k, LeO (spec_l5Reduced.f k a0 a1) (spec_l5Reduced.f (k + 1) a0 a1) := by
 intro a0 a1 k
 have ih0 := spec_l5Reduced.mono_l k
 unfold spec_l5Reduced.f
 repeat' first
   | (with_reducible exact ih0 _ _ _ _ _)
   | (with_reducible exact spec_l5Redundant.mono _ _ _ _ _)
   | (with_reducible exact LeO.refl _)
   | (with_reducible exact LeO.none _)
   | (with_reducible refine LeO.ite ?_ ?_)
   | (with_reducible refine LeO.bind ?_ (fun _ => ?_))
   | exact ih0 _ _ _ _ _
   | exact spec_l5Redundant.mono _ _ _ _ _
   | exact LeO.none _
   | refine LeO.ite ?_ ?_
   | refine LeO.bind ?_ (fun _ => ?_)
def spec_l5Reduced.T5 : Bool × List (List Nat × List Nat) := (true, [([], []), ([], []), ([1], [1]), ([], []), ([2, 3], [2, 3]), ([4], [4]), ([0, 5], [0, 5]), ([6], [6])])
def spec_l5Reduced.B5 : List Nat := [0, 0, 2, 0, 14, 30, 63, 127]
theorem spec_l5Reduced.tab5 : rtab .any (opsOf Try.f99 5) = spec_l5Reduced.T5 := by kernel_rfl
theorem spec_l5Reduced.bits5 : waitsOk spec_l5Reduced.T5.2 spec_l5Reduced.B5 = true := by kernel_rfl
def spec_l5Reduced.T6 : Bool × List (List Nat × List Nat) := (true, [([], []), ([0], [0]), ([], []), ([2], [2]), ([], []), ([3, 4], [3, 4]), ([5], [5]), ([6], [6]), ([1, 7], [1, 7]), ([0, 1, 2, 3, 4, 5, 6, 7, 8], []), ([9, 8, 8, 0, 1, 2, 3, 4, 5, 6, 7, 8], [8, 9])])
def spec_l5Reduced.B6 : List Nat := [0, 1, 0, 4, 0, 28, 60, 124, 255, 511, 1023]
theorem spec_l5Reduced.tab6 : rtab .any (opsOf Try.f99 6) = spec_l5Reduced.T6 := by kernel_rfl
theorem spec_l5Reduced.bits6 : waitsOk spec_l5Reduced.T6.2 spec_l5Reduced.B6 = true := by kernel_rfl
set_option maxHeartbeats 8000000 in
set_option maxRecDepth 100000 in
theorem spec_l5Reduced.calls (k : Nat) (A0_0 : Option Addr) (c0_0 : Nat) (l0_0 : List (S76)) (A0_1 : Option Addr) (c0_1 : Nat) (l0_1 : List (S90)) (r1 : List (S76)) (r2 : List (S90)) (w : World) (hr0_0 : Kd.C k76 w A0_0 l0_0.length l0_0) (hc0_0 : l0_0.length ≤ c0_0) (hr0_1 : Kd.C k90 w A0_1 l0_1.length l0_1) (hc0_1 : l0_1.length ≤ c0_1) (h : spec_l5Reduced.f k l0_0 l0_1 = some (r1, r2)) :
  Calls Try.prog 99 #[.agg #[.slice A0_0 l0_0.length c0_0, .slice A0_1 l0_1.length c0_1]] w fun e w' => ∃ v0_ v1_ : Value, e = .returned (.agg #[v0_, v1_]) ∧ Kd.R k76 76 w' w.heap.size (fun _ => True) v0_ r1 ∧ Kd.R k90 90 w' w.heap.size (fun _ => True) v1_ r2 ∧ Below w.heap.size w w' := by
 have hu32 := Try.underlying32
 have hu90 := Try.underlying90
 have HR0_0 := Aside0.mk hr0_0
 have HC0_0 := Aside0.mk hc0_0
 clear hr0_0 hc0_0
 have HR0_1 := Aside0.mk hr0_1
 have HC0_1 := Aside0.mk hc0_1
 clear hr0_1 hc0_1
 have HB := Aside0.mk (Below.refl w.heap.size w)
 have H : ((some (([] : List (S76)) : List (S76))).bind fun y153 => (if y153.length + l0_0.length < 8796093022208 then (spec_l5Reduced.l0 k 0 l0_0 l0_1 (y153 ++ l0_0) ([] : List (S90))) else (none))) = some (r1, r2) := h
 clear h
 obtain ⟨y153, hy153⟩ : ∃ y_ : List (S76), y_ = (([] : List (S76))) := ⟨_, rfl⟩
 replace H : (if y153.length + l0_0.length < 8796093022208 then (spec_l5Reduced.l0 k 0 l0_0 l0_1 (y153 ++ l0_0) ([] : List (S90))) else (none)) = some (r1, r2) := by first | (rw [hy153]; with_reducible exact H) | (have H2_ := (Option.bind_some _ _).symm.trans H; rw [hy153]; with_reducible exact H2_) | (have H2_ := (Option.bind_some _ _).symm.trans H; with_reducible exact H2_) | with_reducible exact H | (rw [hy153]; exact H) | exact H
 have Ny153 := Aside0.mk hy153
 clear hy153
 by_cases c2 : y153.length + l0_0.length < 8796093022208
 ·rw [if_pos c2] at H
  have LMc2 := Aside0.mk c2
  clear c2
  obtain ⟨y156, hy156⟩ : ∃ y_ : List (S76), y_ = (y153 ++ l0_0) := ⟨_, rfl⟩
  replace H : (spec_l5Reduced.l0 k 0 l0_0 l0_1 y156 ([] : List (S90))) = some (r1, r2) := by first | (rw [hy156]; with_reducible exact H) | (have H2_ := (Option.bind_some _ _).symm.trans H; rw [hy156]; with_reducible exact H2_) | (have H2_ := (Option.bind_some _ _).symm.trans H; with_reducible exact H2_) | with_reducible exact H | (rw [hy156]; exact H) | exact H
  have Ny156 := Aside0.mk hy156
  clear hy156
  have H' := Aside0.mk H
  clear H
  go_enter Try.func99, Try.ntmps99
  go_wp2_with (first | ((with_reducible refine gate_dst (N := 1) rfl ?_); refine box_event ?hg (N := 1) ?hd (cs := #[.slice A0_0 l0_0.length c0_0, .slice A0_1 l0_1.length c0_1]) (t := 32) ?hr ?_; (case hd => rfl); (case hg => rfl); (case hr => first | (go_simp; done) | (go_simp; rfl)); intro gb151 hg w3 hbox hb; have n0_ := Aside0.mk (below_step (wz_ HB.out) hb); have n1_ := Aside0.mk (hbox); have n2_ := Aside0.mk ((by rw [hg]; exact (below_size (wz_ HB.out)) : w.heap.size ≤ gb151)); have n3_ := Aside0.mk ((by rw [hg]; exact (below_size (wz_ HB.out)) : w.heap.size ≤ gb151)); clear HB; have HB := n0_; have BK151 := n1_; have GW151 := n2_; have GE151 := n3_; clear n0_ n1_ n2_ n3_; clear hb hbox hg) | ((with_reducible refine gate_dst (N := 2) rfl ?_); refine box_event ?hg (N := 2) ?hd (cs := #[.slice none 0 0, .slice none 0 0]) (t := 32) ?hr ?_; (case hd => rfl); (case hg => rfl); (case hr => first | (go_simp; done) | (go_simp; rfl)); intro gb152 hg w4 hbox hb; have n0_ := Aside0.mk (blk_below (bz_ BK151.out) hb); have n1_ := Aside0.mk (below_step (by repeat (first | (with_reducible first | exact HB.out | apply below_alloc | apply pw_below_drewN | apply below_drew1 | refine below_set ?_ GE151.out) | exact HB.out)) hb); have n2_ := Aside0.mk (hbox); have n3_ := Aside0.mk ((by rw [hg]; exact (below_size (by repeat (first | (with_reducible first | exact HB.out | apply below_alloc | apply pw_below_drewN | apply below_drew1 | refine below_set ?_ GE151.out) | exact HB.out))) : w.heap.size ≤ gb152)); have n4_ := Aside0.mk ((by rw [hg]; exact (below_size (by repeat (first | (with_reducible first | exact HB.out | apply below_alloc | apply pw_below_drewN | apply below_drew1 | refine below_set ?_ GE151.out) | exact HB.out))) : w.heap.size ≤ gb152)); have n5_ := Aside0.mk ((by rw [hg]; exact Nat.ne_of_lt (blk_lt (g := gb151) (o := .cells #[.slice A0_0 l0_0.length c0_0, .slice A0_1 l0_1.length c0_1] 32 (0, 0)) (bz_ BK151.out)) : gb151 ≠ gb152)); have n6_ := Aside0.mk ((by rw [hg]; exact Nat.ne_of_gt (blk_lt (g := gb151) (o := .cells #[.slice A0_0 l0_0.length c0_0, .slice A0_1 l0_1.length c0_1] 32 (0, 0)) (bz_ BK151.out)) : gb152 ≠ gb151)); clear BK151; clear HB; have BK151 := n0_; have HB := n1_; have BK152 := n2_; have GW152 := n3_; have GE152 := n4_; have NB151_152 := n5_; have NB152_151 := n6_; clear n0_ n1_ n2_ n3_ n4_ n5_ n6_; clear hb hbox hg) | ((with_reducible refine gate_dst (N := 5) rfl ?_); refine Kd.R_lit k76 _ 76 ?hg (N := 5) ?hd (xs := ([] : List (S76))) (inner := []) (ok := fun _ => True) (okp := fun _ => True) ?hr ?hp (fun _ hk => hk) trivial (Below.refl _ _) (Nat.le_refl _) (by simp) ?_; (case hd => rfl); (case hg => rfl); (case hr => first | (go_simp; done) | (go_simp; rfl)); (case hp => exact (Reps.none _ _)); intro v154 w5 ho6 hb hg_ hnew_; clear hg_ hnew_; (first | rw [← Ny153.out] at ho6 | (simp only [Int.reduceToNat] at ho6; rw [← Ny153.out] at ho6)); have n0_ := Aside0.mk (Kd.R_lower ho6 (below_size (by repeat (first | (with_reducible first | exact HB.out | apply below_alloc | apply pw_below_drewN | apply below_drew1 | refine below_set ?_ GE151.out | refine below_set ?_ GE152.out) | exact HB.out)))); have n1_ := Aside0.mk (blk_below (bz_ BK151.out) hb); have n2_ := Aside0.mk (blk_below (bz_ BK152.out) hb); have n3_ := Aside0.mk (below_step (by repeat (first | (with_reducible first | exact HB.out | apply below_alloc | apply pw_below_drewN | apply below_drew1 | refine below_set ?_ GE151.out | refine below_set ?_ GE152.out) | exact HB.out)) hb); clear BK151; clear BK152; clear HB; have HO155 := n0_; have BK151 := n1_; have BK152 := n2_; have HB := n3_; clear n0_ n1_ n2_ n3_; clear hb ho6; have hnb7 := NB151_152.out; have hnc7 := NB152_151.out; have hcz8_0 : w5.cell? ⟨gb151, 0, none⟩ = some (.slice A0_0 l0_0.length c0_0) := (blk_cell BK151.out 0).trans rfl; have hcz8_1 : w5.cell? ⟨gb151, 1, none⟩ = some (.slice A0_1 l0_1.length c0_1) := (blk_cell BK151.out 1).trans rfl; have hfz8_0 := blk_frozen BK151.out 0; have hfz8_1 := blk_frozen BK151.out 1) | ((with_reducible refine gate_builtin (b := .append) (xs := #[.tmp 5, .tmp 7]) rfl ?_); at_builtin; refine Kd.R_append_rows k76 (w0 := w) w.heap.size rfl (.tmp 5) (.tmp 7) 29 76 (.agg #[(.int .i64 0), (.int .i64 0)]) 16 rfl Try.underlying29 info76 rfl (by decide) (by omega) v154 y153 l0_0 _ _ _ (fun _ => True) (fun _ => False) rfl rfl ?aO ?aR (fun _ _ h => h) (fun _ h => h.elim) ?aF ?aB ?aS ?aL ?_; (case aR => exact cz_ (Kd.C_below HR0_0.out HB.out)); (case aB => exact (by repeat (first | (with_reducible first | exact HB.out | apply below_alloc | apply pw_below_drewN | apply below_drew1 | refine below_set ?_ GE151.out | refine below_set ?_ GE152.out) | exact HB.out))); (case aF => exact (fun _ _ => trivial)); (case aO => exact (rz_ HO155.out)); (case aS => exact (below_size (by repeat (first | (with_reducible first | exact HB.out | apply below_alloc | apply pw_below_drewN | apply below_drew1 | refine below_set ?_ GE151.out | refine below_set ?_ GE152.out) | exact HB.out)))); (case aL => have := LMc2.out; omega); intro v157 w9 ho hb hg hat; rw [← Ny156.out] at ho; have n0_ := Aside0.mk (blk_grown (g := gb151) (o := .cells #[.slice A0_0 l0_0.length c0_0, .slice A0_1 l0_1.length c0_1] 32 (0, 0)) (bz_ BK151.out) hg (Kd.R_ne HO155.out BK151.out (by decide))); have n1_ := Aside0.mk (blk_grown (g := gb152) (o := .cells #[.slice none 0 0, .slice none 0 0] 32 (0, 0)) (bz_ BK152.out) hg (Kd.R_ne HO155.out BK152.out (by decide))); have n2_ := Aside0.mk (hb); have n3_ := Aside0.mk (ho); clear BK151; clear BK152; clear HB; clear HO155; have BK151 := n0_; have BK152 := n1_; have HB := n2_; have HO158 := n3_; clear n0_ n1_ n2_ n3_; clear ho hb hg hat; obtain ⟨Ao10, co10, eo10⟩ := Kd.R_slice HO158.out; subst eo10) | ((with_reducible refine gate_dst (N := 3) rfl ?_); refine box_event ?hg (N := 3) ?hd (cs := #[.slice none 0 0, .slice none 0 0]) (t := 32) ?hr ?_; (case hd => rfl); (case hg => rfl); (case hr => first | (go_simp; done) | (go_simp; rfl)); intro gb159 hg w11 hbox hb; have n0_ := Aside0.mk (Kd.R_below (rz_ HO158.out) hb); have n1_ := Aside0.mk (blk_below (bz_ BK151.out) hb); have n2_ := Aside0.mk (blk_below (bz_ BK152.out) hb); have n3_ := Aside0.mk (below_step (by repeat (first | (with_reducible first | exact HB.out | apply below_alloc | apply pw_below_drewN | apply below_drew1 | refine below_set ?_ GE151.out | refine below_set ?_ GE152.out) | exact HB.out)) hb); have n4_ := Aside0.mk (hbox); have n5_ := Aside0.mk ((by rw [hg]; exact (below_size (by repeat (first | (with_reducible first | exact HB.out | apply below_alloc | apply pw_below_drewN | apply below_drew1 | refine below_set ?_ GE151.out | refine below_set ?_ GE152.out) | exact HB.out))) : w.heap.size ≤ gb159)); have n6_ := Aside0.mk ((by rw [hg]; exact (below_size (by repeat (first | (with_reducible first | exact HB.out | apply below_alloc | apply pw_below_drewN | apply below_drew1 | refine below_set ?_ GE151.out | refine below_set ?_ GE152.out) | exact HB.out))) : w.heap.size ≤ gb159)); have n7_ := Aside0.mk ((by rw [hg]; exact Nat.ne_of_lt (blk_lt (g := gb151) (o := .cells #[.slice A0_0 l0_0.length c0_0, .slice A0_1 l0_1.length c0_1] 32 (0, 0)) (bz_ BK151.out)) : gb151 ≠ gb159)); have n8_ := Aside0.mk ((by rw [hg]; exact Nat.ne_of_gt (blk_lt (g := gb151) (o := .cells #[.slice A0_0 l0_0.length c0_0, .slice A0_1 l0_1.length c0_1] 32 (0, 0)) (bz_ BK151.out)) : gb159 ≠ gb151)); have n9_ := Aside0.mk ((by rw [hg]; exact Nat.ne_of_lt (blk_lt (g := gb152) (o := .cells #[.slice none 0 0, .slice none 0 0] 32 (0, 0)) (bz_ BK152.out)) : gb152 ≠ gb159)); have n10_ := Aside0.mk ((by rw [hg]; exact Nat.ne_of_gt (blk_lt (g := gb152) (o := .cells #[.slice none 0 0, .slice none 0 0] 32 (0, 0)) (bz_ BK152.out)) : gb159 ≠ gb152)); clear HO158; clear BK151; clear BK152; clear HB; have HO158 := n0_; have BK151 := n1_; have BK152 := n2_; have HB := n3_; have BK159 := n4_; have GW159 := n5_; have GE159 := n6_; have NB151_159 := n7_; have NB159_151 := n8_; have NB152_159 := n9_; have NB159_152 := n10_; clear n0_ n1_ n2_ n3_ n4_ n5_ n6_ n7_ n8_ n9_ n10_; clear hb hbox hg; have hnb12 := NB159_151.out; have hnc12 := NB151_159.out; have hnb13 := NB159_152.out; have hnc13 := NB152_159.out; have hcz14_0 : w11.cell? ⟨gb159, 0, none⟩ = some (.slice none 0 0) := (blk_cell BK159.out 0).trans rfl; have hcz14_1 : w11.cell? ⟨gb159, 1, none⟩ = some (.slice none 0 0) := (blk_cell BK159.out 1).trans rfl; have hfz14_0 := blk_frozen BK159.out 0; have hfz14_1 := blk_frozen BK159.out 1))
  go_loopg [4] k (fun kq v4 w' => ∃ (x4_1 : Int) (x160001_1 : List (S90)) (u160001 : Value), v4 = .int .i64 x4_1 ∧ Aside0 (spec_l5Reduced.l0 kq x4_1 l0_0 l0_1 y156 x160001_1 = some (r1, r2)) ∧ Aside0 (kq ≤ k) ∧ Aside0 (Kd.R k76 76 w' w.heap.size (fun _ => True) (.slice Ao10 y156.length co10) y156) ∧ Aside0 (Kd.R k90 90 w' w.heap.size (fun _ => True) u160001 x160001_1) ∧ Aside0 (w'.heap[gb151]? = some (.cells #[(.slice A0_0 l0_0.length c0_0), (.slice A0_1 l0_1.length c0_1)] 32 (0, 0))) ∧ Aside0 (w'.heap[gb152]? = some (.cells #[(.slice none 0 0), (.slice none 0 0)] 32 (0, 0))) ∧ Aside0 (w'.heap[gb159]? = some (.cells #[(.slice Ao10 y156.length co10), u160001] 32 (0, 0))) ∧ Aside0 (Below w.heap.size w w'))
  case atStart => exact ⟨(0), (([] : List (S90))), (.slice none 0 0), (by first | rfl | (simp; done) | (simp [*]; done)), H', ⟨Nat.le_refl _⟩, ⟨rz_ (Kd.R_mono (Kd.R_far (p := ⟨gb159, 1, none⟩) (Kd.R_far (p := ⟨gb159, 0, none⟩) (Kd.R_types HO158.out BK159.out (by decide)) (fun _ hk => hk.2) (.slice Ao10 y156.length co10)) (fun _ hk => hk.2) (.slice none 0 0)) (fun _ hk => trivial))⟩, ⟨by first | exact Kd.R_nil _ _ _ _ _ | exact Kd.N_nil _ _ _ _ _ | exact Kd.V_nil _ _ _ _ _ | exact Kd.Q_nil _ _ _ _ _ | exact Kd.S_nil _ _ _ _ _⟩, ⟨by (with_reducible repeat (first | refine blk_drewN ?_ _ | refine blk_drew ?_ | refine blk_alloc ?_ _)); refine blk_far ?_ NB151_159.out _; (with_reducible repeat (first | refine blk_drewN ?_ _ | refine blk_drew ?_ | refine blk_alloc ?_ _)); refine blk_far ?_ NB151_159.out _; (with_reducible repeat (first | refine blk_drewN ?_ _ | refine blk_drew ?_ | refine blk_alloc ?_ _)); exact BK151.out⟩, ⟨by (with_reducible repeat (first | refine blk_drewN ?_ _ | refine blk_drew ?_ | refine blk_alloc ?_ _)); refine blk_far ?_ NB152_159.out _; (with_reducible repeat (first | refine blk_drewN ?_ _ | refine blk_drew ?_ | refine blk_alloc ?_ _)); refine blk_far ?_ NB152_159.out _; (with_reducible repeat (first | refine blk_drewN ?_ _ | refine blk_drew ?_ | refine blk_alloc ?_ _)); exact BK152.out⟩, ⟨by (with_reducible repeat (first | refine blk_drewN ?_ _ | refine blk_drew ?_ | refine blk_alloc ?_ _)); refine blk_put (cs := #[.slice Ao10 y156.length co10, .slice none 0 0]) ?_ 1 _ rfl; (with_reducible repeat (first | refine blk_drewN ?_ _ | refine blk_drew ?_ | refine blk_alloc ?_ _)); refine blk_put (cs := #[.slice none 0 0, .slice none 0 0]) ?_ 0 _ rfl; (with_reducible repeat (first | refine blk_drewN ?_ _ | refine blk_drew ?_ | refine blk_alloc ?_ _)); exact BK159.out⟩, ⟨by repeat (first | (with_reducible first | exact HB.out | apply below_alloc | apply pw_below_drewN | apply below_drew1 | refine below_set ?_ GE151.out | refine below_set ?_ GE152.out | refine below_set ?_ GE159.out) | exact HB.out)⟩⟩
  case round =>
   clear H'
   try clear c1
   try clear c2
   try clear p2
   try clear c7
   try clear c9
   try clear c12
   try clear c13
   try clear hcz14_0
   try clear hcz14_1
   try clear hcz8_0
   try clear hcz8_1
   try clear hfz14_0
   try clear hfz14_1
   try clear hfz8_0
   try clear hfz8_1
   obtain ⟨x4_1, x160001_1, u160001, rfl, HA, HK1, HO_160000, HO_160001, BK151, BK152, BK159, HB⟩ := hrel
   cases gk with
   | zero => exact absurd HA.out (by simp [spec_l5Reduced.l0])
   | succ k1 =>
    have H := HA.out
    clear HA
    simp only [spec_l5Reduced.l0] at H
    by_cases c15 : x4_1 < (l0_1.length : Int)
    ·rw [if_pos c15] at H
     have c15b0 : decide (x4_1 < (l0_1.length : Int)) = true := decide_eq_true c15
     clear c15
     by_cases c16 : 0 ≤ x4_1
     ·rw [if_pos c16] at H
      have c16b0 : decide (0 ≤ x4_1) = true := decide_eq_true c16
      clear c16
      replace H := Option.bind_eq_some_iff.mp H
      obtain ⟨t161, A170, H⟩ := H
      replace H : (if t161 = true then (spec_l5Reduced.l0 k1 (wrap64 (x4_1 + 1)) l0_0 l0_1 y156 x160001_1) else (if x160001_1.length < 8796093022208 then (spec_l5Reduced.l0 k1 (wrap64 (x4_1 + 1)) l0_0 l0_1 y156 (x160001_1 ++ [(⟨(rd_T90 l0_1 x4_1).f0, (rd_T90 l0_1 x4_1).f1⟩ : S90)])) else (none))) = some (r1, r2) := H
      have A17 := Aside0.mk A170
      clear A170
      by_cases c18 : t161 = true
      ·subst c18
       have H1 : (spec_l5Reduced.l0 k1 (wrap64 (x4_1 + 1)) l0_0 l0_1 y156 x160001_1) = some (r1, r2) := by rw [if_pos rfl] at H; exact H
       clear H
       have H := H1
       clear H1
       have H' := Aside0.mk H
       clear H
       have hnb19 := NB151_152.out
       have hnc19 := NB152_151.out
       have hnb20 := NB151_159.out
       have hnc20 := NB159_151.out
       have hcz21_0 : wr.cell? ⟨gb151, 0, none⟩ = some (.slice A0_0 l0_0.length c0_0) := (blk_cell BK151.out 0).trans rfl
       have hcz21_1 : wr.cell? ⟨gb151, 1, none⟩ = some (.slice A0_1 l0_1.length c0_1) := (blk_cell BK151.out 1).trans rfl
       have hfz21_0 := blk_frozen BK151.out 0
       have hfz21_1 := blk_frozen BK151.out 1
       try go_wp2
       have n0_ := Aside0.mk (Kd.R_drew HO_160000.out)
       have n1_ := Aside0.mk (Kd.R_drew HO_160001.out)
       have n2_ := Aside0.mk (blk_drew BK151.out)
       have n3_ := Aside0.mk (blk_drew BK152.out)
       have n4_ := Aside0.mk (blk_drew BK159.out)
       have n5_ := Aside0.mk (below_drew1 HB.out)
       clear HO_160000
       clear HO_160001
       clear BK151
       clear BK152
       clear BK159
       clear HB
       have HO_160000 := n0_
       have HO_160001 := n1_
       have BK151 := n2_
       have BK152 := n3_
       have BK159 := n4_
       have HB := n5_
       clear n0_ n1_ n2_ n3_ n4_ n5_
       have p160 : 0 ≤ (x4_1 : Int) := of_decide_eq_true (by first | (with_reducible assumption) | assumption)
       have q160 : x4_1 < (l0_1.length : Int) := of_decide_eq_true (by first | (with_reducible assumption) | assumption)
       obtain ⟨ad160, e160, hx160_0, hx160_1⟩ := at_T90 HR0_1.out x4_1 p160 q160
       have hw160_1 := hx160_1
       have hw160_0 := hx160_0
       cases e160
       replace hx160_0 := (HB.out.cell (World.block_lt_of_cell? w _ hx160_0)).trans hx160_0
       replace hx160_1 := (HB.out.cell (World.block_lt_of_cell? w _ hx160_1)).trans hx160_1
       replace p160 := eq_true p160
       replace q160 := eq_true q160
       refine start_ (n := 8) (S := fun w' => w'.cell? ⟨gb151, 0, none⟩ = some (.slice A0_0 l0_0.length c0_0) ∧ w'.cell? ⟨gb151, 1, none⟩ = some (.slice (some ad160) l0_1.length c0_1) ∧ w'.cell? (ad160.add ((x4_1).toNat * 2)) = some (.int .i64 ((rd_T90 l0_1 x4_1).f0)) ∧ w'.cell? ⟨(ad160.add ((x4_1).toNat * 2)).block, (ad160.add ((x4_1).toNat * 2)).off + 1, none⟩ = some (.int .i64 ((rd_T90 l0_1 x4_1).f1))) (ds := []) #[false, false, false, false, false, false, false, false] (by kernel_rfl) rfl rfl ⟨(blk_cell BK151.out 0).trans rfl, (blk_cell BK151.out 1).trans rfl, ((HB.out.cell (World.block_lt_of_cell? w _ hw160_0)).trans hw160_0), ((HB.out.cell (World.block_lt_of_cell? w _ hw160_1)).trans hw160_1)⟩ (fun hHeld => ?_); refine with_tabW spec_l5Reduced.tab5 spec_l5Reduced.bits5 (fun HT_ HW_ => ?_)
       generalize wr.drew = w22 at HO_160000 HO_160001 BK151 BK152 BK159 HB hx160_0 hx160_1 hHeld ⊢
       refine pA_ 1 (some 18) #[false, true, false, false, false, false, false, false] HT_.out (h := ?_)
       refine pA_ 3 (some 20) #[false, true, false, true, false, false, false, false] HT_.out (h := ?_)
       refine tA_ 0 (some 17) #[true, true, false, true, false, false, false, false] HT_.out HW_.out hHeld (h := ?_)
       refine tA_ 2 (some 19) (bl 4 8) HT_.out HW_.out hHeld (h := ?_)
       refine pA_ 4 (some 21) (bl 5 8) HT_.out (h := ?_)
       refine tA_ 5 (some 22) (bl 6 8) HT_.out HW_.out hHeld (h := ?_)
       refine one_ (i := 6) (N := some 23) (bl 7 8) rfl rfl (one_of HT_.out (by kernel_rfl)) (by decide) (fun K hK => ?_)
       refine goes_ Try.func89 (by kernel_rfl) rfl #[.agg #[.slice A0_0 l0_0.length c0_0, .slice (some ad160) l0_1.length c0_1], .agg #[.int .i64 ((rd_T90 l0_1 x4_1).f0), .int .i64 ((rd_T90 l0_1 x4_1).f1)]] (by rfl) rfl rfl (by (try simp only [List.map_toArray, List.map_cons, List.map_nil]); first | done | rfl | (simp only [List.length_drop, List.length_take]; rfl)) ?_
       with_reducible refine (spec_l5Redundant.calls k1 _ _ l0_0 _ _ l0_1 ((rd_T90 l0_1 x4_1).f0) ((rd_T90 l0_1 x4_1).f1) true _ ?side1 ?side2 ?side3 ?side4 A17.out).mono ?_
       (case side1 => exact cz_ (Kd.C_below HR0_0.out HB.out))
       (case side2 => exact HC0_0.out)
       (case side3 => exact cz_ (Kd.C_below HR0_1.out HB.out))
       (case side4 => exact HC0_1.out)
       rintro e w23 ⟨rfl, hb⟩
       refine ⟨_, rfl, ?_⟩
       have n0_ := Aside0.mk (Kd.R_below (rz_ HO_160000.out) hb)
       have n1_ := Aside0.mk (Kd.R_below (rz_ HO_160001.out) hb)
       have n2_ := Aside0.mk (blk_below (bz_ BK151.out) hb)
       have n3_ := Aside0.mk (blk_below (bz_ BK152.out) hb)
       have n4_ := Aside0.mk (blk_below (bz_ BK159.out) hb)
       have n5_ := Aside0.mk (below_step (by repeat (first | (with_reducible first | exact HB.out | apply below_alloc | apply pw_below_drewN | apply below_drew1 | refine below_set ?_ GE151.out | refine below_set ?_ GE152.out | refine below_set ?_ GE159.out) | exact HB.out)) hb)
       clear HO_160000
       clear HO_160001
       clear BK151
       clear BK152
       clear BK159
       clear HB
       have HO_160000 := n0_
       have HO_160001 := n1_
       have BK151 := n2_
       have BK152 := n3_
       have BK159 := n4_
       have HB := n5_
       clear n0_ n1_ n2_ n3_ n4_ n5_
       (try clear hb)
       (try clear hb2)
       (try clear hk)
       (try clear hi)
       refine hK.out _ _ ⟨(blk_cell BK151.out 0).trans rfl, (blk_cell BK151.out 1).trans rfl, ((HB.out.cell (World.block_lt_of_cell? w _ hw160_0)).trans hw160_0), ((HB.out.cell (World.block_lt_of_cell? w _ hw160_1)).trans hw160_1)⟩ (fun hHeld => ?_)
       clear hK K
       refine norm_ (a' := ?_) ?_ ?_
       rotate_left
       ·show Act.put _ (some 23) _ = _
        simp only [Act.put, List.setIfInBounds_toArray, List.set_cons_zero, List.set_cons_succ, i64_w, i32_w]
        rfl
       refine pA_ 7 (some 24) (bl 8 8) HT_.out (h := ?_)
       refine done_ (done_of HT_.out (by kernel_rfl)) ?_
       try go_wp2
       go_roundg k1
       case measure => have := HK1.out; omega
       case rel => exact ⟨(wrap64 (x4_1 + 1)), (x160001_1), (u160001), (by first | rfl | (simp; done) | (simp [*]; done)), H', ⟨by have := HK1.out; omega⟩, ⟨rz_ HO_160000.out⟩, ⟨rz_ HO_160001.out⟩, ⟨bz_ BK151.out⟩, ⟨bz_ BK152.out⟩, ⟨bz_ BK159.out⟩, ⟨by repeat (first | (with_reducible first | exact HB.out | apply below_alloc | apply pw_below_drewN | apply below_drew1 | refine below_set ?_ GE151.out | refine below_set ?_ GE152.out | refine below_set ?_ GE159.out) | exact HB.out)⟩⟩
      ·replace c18 := Bool.eq_false_iff.mpr c18
       subst c18
       have H1 : (if x160001_1.length < 8796093022208 then (spec_l5Reduced.l0 k1 (wrap64 (x4_1 + 1)) l0_0 l0_1 y156 (x160001_1 ++ [(⟨(rd_T90 l0_1 x4_1).f0, (rd_T90 l0_1 x4_1).f1⟩ : S90)])) else (none)) = some (r1, r2) := by rw [if_neg (show ¬ (false = true) by decide)] at H; exact H
       clear H
       have H := H1
       clear H1
       by_cases c24 : x160001_1.length < 8796093022208
       ·rw [if_pos c24] at H
        have LMc24 := Aside0.mk c24
        clear c24
        obtain ⟨y163, hy163⟩ : ∃ y_ : List (S90), y_ = (x160001_1 ++ [(⟨(rd_T90 l0_1 x4_1).f0, (rd_T90 l0_1 x4_1).f1⟩ : S90)]) := ⟨_, rfl⟩
        replace H : (spec_l5Reduced.l0 k1 (wrap64 (x4_1 + 1)) l0_0 l0_1 y156 y163) = some (r1, r2) := by first | (rw [hy163]; with_reducible exact H) | (have H2_ := (Option.bind_some _ _).symm.trans H; rw [hy163]; with_reducible exact H2_) | (have H2_ := (Option.bind_some _ _).symm.trans H; with_reducible exact H2_) | with_reducible exact H | (rw [hy163]; exact H) | exact H
        have Ny163 := Aside0.mk hy163
        clear hy163
        have H' := Aside0.mk H
        clear H
        have hnb25 := NB151_152.out
        have hnc25 := NB152_151.out
        have hnb26 := NB151_159.out
        have hnc26 := NB159_151.out
        have hcz27_0 : wr.cell? ⟨gb151, 0, none⟩ = some (.slice A0_0 l0_0.length c0_0) := (blk_cell BK151.out 0).trans rfl
        have hcz27_1 : wr.cell? ⟨gb151, 1, none⟩ = some (.slice A0_1 l0_1.length c0_1) := (blk_cell BK151.out 1).trans rfl
        have hfz27_0 := blk_frozen BK151.out 0
        have hfz27_1 := blk_frozen BK151.out 1
        try go_wp2
        have n0_ := Aside0.mk (Kd.R_drew HO_160000.out)
        have n1_ := Aside0.mk (Kd.R_drew HO_160001.out)
        have n2_ := Aside0.mk (blk_drew BK151.out)
        have n3_ := Aside0.mk (blk_drew BK152.out)
        have n4_ := Aside0.mk (blk_drew BK159.out)
        have n5_ := Aside0.mk (below_drew1 HB.out)
        clear HO_160000
        clear HO_160001
        clear BK151
        clear BK152
        clear BK159
        clear HB
        have HO_160000 := n0_
        have HO_160001 := n1_
        have BK151 := n2_
        have BK152 := n3_
        have BK159 := n4_
        have HB := n5_
        clear n0_ n1_ n2_ n3_ n4_ n5_
        have p160 : 0 ≤ (x4_1 : Int) := of_decide_eq_true (by first | (with_reducible assumption) | assumption)
        have q160 : x4_1 < (l0_1.length : Int) := of_decide_eq_true (by first | (with_reducible assumption) | assumption)
        obtain ⟨ad160, e160, hx160_0, hx160_1⟩ := at_T90 HR0_1.out x4_1 p160 q160
        have hw160_1 := hx160_1
        have hw160_0 := hx160_0
        cases e160
        replace hx160_0 := (HB.out.cell (World.block_lt_of_cell? w _ hx160_0)).trans hx160_0
        replace hx160_1 := (HB.out.cell (World.block_lt_of_cell? w _ hx160_1)).trans hx160_1
        replace p160 := eq_true p160
        replace q160 := eq_true q160
        refine start_ (n := 8) (S := fun w' => w'.cell? ⟨gb151, 0, none⟩ = some (.slice A0_0 l0_0.length c0_0) ∧ w'.cell? ⟨gb151, 1, none⟩ = some (.slice (some ad160) l0_1.length c0_1) ∧ w'.cell? (ad160.add ((x4_1).toNat * 2)) = some (.int .i64 ((rd_T90 l0_1 x4_1).f0)) ∧ w'.cell? ⟨(ad160.add ((x4_1).toNat * 2)).block, (ad160.add ((x4_1).toNat * 2)).off + 1, none⟩ = some (.int .i64 ((rd_T90 l0_1 x4_1).f1))) (ds := []) #[false, false, false, false, false, false, false, false] (by kernel_rfl) rfl rfl ⟨(blk_cell BK151.out 0).trans rfl, (blk_cell BK151.out 1).trans rfl, ((HB.out.cell (World.block_lt_of_cell? w _ hw160_0)).trans hw160_0), ((HB.out.cell (World.block_lt_of_cell? w _ hw160_1)).trans hw160_1)⟩ (fun hHeld => ?_); refine with_tabW spec_l5Reduced.tab5 spec_l5Reduced.bits5 (fun HT_ HW_ => ?_)
        generalize wr.drew = w28 at HO_160000 HO_160001 BK151 BK152 BK159 HB hx160_0 hx160_1 hHeld ⊢
        refine pA_ 1 (some 18) #[false, true, false, false, false, false, false, false] HT_.out (h := ?_)
        refine pA_ 3 (some 20) #[false, true, false, true, false, false, false, false] HT_.out (h := ?_)
        refine tA_ 0 (some 17) #[true, true, false, true, false, false, false, false] HT_.out HW_.out hHeld (h := ?_)
        refine tA_ 2 (some 19) (bl 4 8) HT_.out HW_.out hHeld (h := ?_)
        refine pA_ 4 (some 21) (bl 5 8) HT_.out (h := ?_)
        refine tA_ 5 (some 22) (bl 6 8) HT_.out HW_.out hHeld (h := ?_)
        refine one_ (i := 6) (N := some 23) (bl 7 8) rfl rfl (one_of HT_.out (by kernel_rfl)) (by decide) (fun K hK => ?_)
        refine goes_ Try.func89 (by kernel_rfl) rfl #[.agg #[.slice A0_0 l0_0.length c0_0, .slice (some ad160) l0_1.length c0_1], .agg #[.int .i64 ((rd_T90 l0_1 x4_1).f0), .int .i64 ((rd_T90 l0_1 x4_1).f1)]] (by rfl) rfl rfl (by (try simp only [List.map_toArray, List.map_cons, List.map_nil]); first | done | rfl | (simp only [List.length_drop, List.length_take]; rfl)) ?_
        with_reducible refine (spec_l5Redundant.calls k1 _ _ l0_0 _ _ l0_1 ((rd_T90 l0_1 x4_1).f0) ((rd_T90 l0_1 x4_1).f1) false _ ?side1 ?side2 ?side3 ?side4 A17.out).mono ?_
        (case side1 => exact cz_ (Kd.C_below HR0_0.out HB.out))
        (case side2 => exact HC0_0.out)
        (case side3 => exact cz_ (Kd.C_below HR0_1.out HB.out))
        (case side4 => exact HC0_1.out)
        rintro e w29 ⟨rfl, hb⟩
        refine ⟨_, rfl, ?_⟩
        have n0_ := Aside0.mk (Kd.R_below (rz_ HO_160000.out) hb)
        have n1_ := Aside0.mk (Kd.R_below (rz_ HO_160001.out) hb)
        have n2_ := Aside0.mk (blk_below (bz_ BK151.out) hb)
        have n3_ := Aside0.mk (blk_below (bz_ BK152.out) hb)
        have n4_ := Aside0.mk (blk_below (bz_ BK159.out) hb)
        have n5_ := Aside0.mk (below_step (by repeat (first | (with_reducible first | exact HB.out | apply below_alloc | apply pw_below_drewN | apply below_drew1 | refine below_set ?_ GE151.out | refine below_set ?_ GE152.out | refine below_set ?_ GE159.out) | exact HB.out)) hb)
        clear HO_160000
        clear HO_160001
        clear BK151
        clear BK152
        clear BK159
        clear HB
        have HO_160000 := n0_
        have HO_160001 := n1_
        have BK151 := n2_
        have BK152 := n3_
        have BK159 := n4_
        have HB := n5_
        clear n0_ n1_ n2_ n3_ n4_ n5_
        (try clear hb)
        (try clear hb2)
        (try clear hk)
        (try clear hi)
        refine hK.out _ _ ⟨(blk_cell BK151.out 0).trans rfl, (blk_cell BK151.out 1).trans rfl, ((HB.out.cell (World.block_lt_of_cell? w _ hw160_0)).trans hw160_0), ((HB.out.cell (World.block_lt_of_cell? w _ hw160_1)).trans hw160_1)⟩ (fun hHeld => ?_)
        clear hK K
        refine norm_ (a' := ?_) ?_ ?_
        rotate_left
        ·show Act.put _ (some 23) _ = _
         simp only [Act.put, List.setIfInBounds_toArray, List.set_cons_zero, List.set_cons_succ, i64_w, i32_w]
         rfl
        refine pA_ 7 (some 24) (bl 8 8) HT_.out (h := ?_)
        refine done_ (done_of HT_.out (by kernel_rfl)) ?_
        try go_wp2
        have n0_ := Aside0.mk (Kd.R_drew HO_160000.out)
        have n1_ := Aside0.mk (Kd.R_drew HO_160001.out)
        have n2_ := Aside0.mk (blk_drew BK151.out)
        have n3_ := Aside0.mk (blk_drew BK152.out)
        have n4_ := Aside0.mk (blk_drew BK159.out)
        have n5_ := Aside0.mk (below_drew1 HB.out)
        clear HO_160000
        clear HO_160001
        clear BK151
        clear BK152
        clear BK159
        clear HB
        have HO_160000 := n0_
        have HO_160001 := n1_
        have BK151 := n2_
        have BK152 := n3_
        have BK159 := n4_
        have HB := n5_
        clear n0_ n1_ n2_ n3_ n4_ n5_
        have p162 : 0 ≤ (x4_1 : Int) := of_decide_eq_true (by first | (with_reducible assumption) | assumption)
        have q162 : x4_1 < (l0_1.length : Int) := of_decide_eq_true (by first | (with_reducible assumption) | assumption)
        obtain ⟨ad162, e162, hx162_0, hx162_1⟩ := at_T90 HR0_1.out x4_1 p162 q162
        have hw162_1 := hx162_1
        have hw162_0 := hx162_0
        obtain rfl : ad160 = ad162 := (by injection e162)
        replace hx162_0 := (HB.out.cell (World.block_lt_of_cell? w _ hx162_0)).trans hx162_0
        replace hx162_1 := (HB.out.cell (World.block_lt_of_cell? w _ hx162_1)).trans hx162_1
        replace p162 := eq_true p162
        replace q162 := eq_true q162
        refine start_ (n := 11) (S := fun w' => w'.cell? ⟨gb159, 0, none⟩ = some (.slice Ao10 y156.length co10) ∧ w'.cell? ⟨gb159, 1, none⟩ = some (u160001) ∧ w'.cell? ⟨gb151, 0, none⟩ = some (.slice A0_0 l0_0.length c0_0) ∧ w'.cell? ⟨gb151, 1, none⟩ = some (.slice (some ad160) l0_1.length c0_1) ∧ w'.cell? (ad160.add ((x4_1).toNat * 2)) = some (.int .i64 ((rd_T90 l0_1 x4_1).f0)) ∧ w'.cell? ⟨(ad160.add ((x4_1).toNat * 2)).block, (ad160.add ((x4_1).toNat * 2)).off + 1, none⟩ = some (.int .i64 ((rd_T90 l0_1 x4_1).f1))) (ds := [10]) #[false, false, false, false, false, false, false, false, false, false, false] (by kernel_rfl) rfl rfl ⟨(blk_cell BK159.out 0).trans rfl, (blk_cell BK159.out 1).trans rfl, (blk_cell BK151.out 0).trans rfl, (blk_cell BK151.out 1).trans rfl, ((HB.out.cell (World.block_lt_of_cell? w _ hw162_0)).trans hw162_0), ((HB.out.cell (World.block_lt_of_cell? w _ hw162_1)).trans hw162_1)⟩ (fun hHeld => ?_); refine with_tabW spec_l5Reduced.tab6 spec_l5Reduced.bits6 (fun HT_ HW_ => ?_)
        generalize w29.drew = w30 at HO_160000 HO_160001 BK151 BK152 BK159 HB hx162_0 hx162_1 hHeld ⊢
        refine pA_ 0 (some 25) (bl 1 11) HT_.out (h := ?_)
        refine pA_ 2 (some 27) #[true, false, true, false, false, false, false, false, false, false, false] HT_.out (h := ?_)
        refine pA_ 4 (some 29) #[true, false, true, false, true, false, false, false, false, false, false] HT_.out (h := ?_)
        refine tA_ 1 (some 26) #[true, true, true, false, true, false, false, false, false, false, false] HT_.out HW_.out hHeld (h := ?_)
        refine tA_ 3 (some 28) (bl 5 11) HT_.out HW_.out hHeld (h := ?_)
        refine pA_ 5 (some 30) (bl 6 11) HT_.out (h := ?_)
        refine tA_ 6 (some 31) (bl 7 11) HT_.out HW_.out hHeld (h := ?_)
        refine one_ (i := 7) (N := some 32) (bl 8 11) rfl rfl (one_of HT_.out (by kernel_rfl)) (by decide) (fun K hK => ?_)
        refine value_ (w1 := ?_) (v := ?_) (by rfl) rfl ?_ ?_
        rotate_left 2
        ·go_simp
         constructor
         ·rfl
         ·rfl
        refine hK.out _ _ ⟨(blk_cell (blk_alloc BK159.out _) 0).trans rfl, (blk_cell (blk_alloc BK159.out _) 1).trans rfl, (blk_cell (blk_alloc BK151.out _) 0).trans rfl, (blk_cell (blk_alloc BK151.out _) 1).trans rfl, (World.cell?_alloc_lt _ _ _ (World.block_lt_of_cell? _ _ (((HB.out.cell (World.block_lt_of_cell? w _ hw162_0)).trans hw162_0)))).trans (((HB.out.cell (World.block_lt_of_cell? w _ hw162_0)).trans hw162_0)), (World.cell?_alloc_lt _ _ _ (World.block_lt_of_cell? _ _ (((HB.out.cell (World.block_lt_of_cell? w _ hw162_1)).trans hw162_1)))).trans (((HB.out.cell (World.block_lt_of_cell? w _ hw162_1)).trans hw162_1))⟩ (fun hHeld => ?_)
        clear hK K
        refine norm_ (a' := ?_) ?_ ?_
        rotate_left
        ·show Act.put _ (some 32) _ = _
         simp only [Act.put, List.setIfInBounds_toArray, List.set_cons_zero, List.set_cons_succ, i64_w, i32_w]
         rfl
        refine one_ (i := 8) (N := some 33) (bl 9 11) rfl rfl (one_of HT_.out (by kernel_rfl)) (by decide) (fun K hK => ?_)
        refine Kd.R_append_step k90 (w0 := w) w.heap.size (by rfl) (.tmp 26) (.tmp 32) 30 90 (.agg #[(.int .i64 0), (.int .i64 0)]) 16 rfl Try.underlying30 info90 rfl (by decide) (by omega) u160001 x160001_1 (⟨(rd_T90 l0_1 x4_1).f0, (rd_T90 l0_1 x4_1).f1⟩ : S90) [.int .i64 ((rd_T90 l0_1 x4_1).f0), .int .i64 ((rd_T90 l0_1 x4_1).f1)] (fun _ => True) (fun _ => False) rfl rfl ?aP (fun _ hk => hk.elim) ?aF ?aO ?aB ?aS ?aL ?_
        (case aP => exact k90_mkM _ _ _ (⟨(rd_T90 l0_1 x4_1).f0, (rd_T90 l0_1 x4_1).f1⟩ : S90))
        (case aB => exact (by repeat (first | (with_reducible first | exact HB.out | apply below_alloc | apply pw_below_drewN | apply below_drew1 | refine below_set ?_ GE151.out | refine below_set ?_ GE152.out | refine below_set ?_ GE159.out) | exact HB.out)))
        (case aF => exact (fun _ _ => trivial))
        (case aO => exact (rz_ HO_160001.out))
        (case aS => exact (below_size (by repeat (first | (with_reducible first | exact HB.out | apply below_alloc | apply pw_below_drewN | apply below_drew1 | refine below_set ?_ GE151.out | refine below_set ?_ GE152.out | refine below_set ?_ GE159.out) | exact HB.out))))
        (case aL => have := LMc24.out; omega)
        intro v164 w31 ho hb hg hat
        rw [← Ny163.out] at ho
        have n0_ := Aside0.mk (Kd.R_over' (rz_ HO_160000.out) (Kd.R_typed (rz_ HO_160001.out)) (by decide) hg)
        have n1_ := Aside0.mk (blk_grown (g := gb151) (o := .cells #[.slice A0_0 l0_0.length c0_0, .slice (some ad160) l0_1.length c0_1] 32 (0, 0)) (bz_ BK151.out) hg (Kd.R_ne HO_160001.out BK151.out (by decide)))
        have n2_ := Aside0.mk (blk_grown (g := gb152) (o := .cells #[.slice none 0 0, .slice none 0 0] 32 (0, 0)) (bz_ BK152.out) hg (Kd.R_ne HO_160001.out BK152.out (by decide)))
        have n3_ := Aside0.mk (blk_grown (g := gb159) (o := .cells #[.slice Ao10 y156.length co10, u160001] 32 (0, 0)) (bz_ BK159.out) hg (Kd.R_ne HO_160001.out BK159.out (by decide)))
        have n4_ := Aside0.mk (hb)
        have n5_ := Aside0.mk (ho)
        clear HO_160000
        clear BK151
        clear BK152
        clear BK159
        clear HB
        clear HO_160001
        have HO_160000 := n0_
        have BK151 := n1_
        have BK152 := n2_
        have BK159 := n3_
        have HB := n4_
        have HO165 := n5_
        clear n0_ n1_ n2_ n3_ n4_ n5_
        clear ho hb hg hat
        obtain ⟨Ao32, co32, eo32⟩ := Kd.R_slice HO165.out
        (first | subst eo32 | (injection eo32 with f1_ f2_ f3_; have f4_ := f1_.symm; have f5_ := f3_.symm; clear f1_ f2_ f3_; subst f4_; subst f5_))
        refine hK.out _ _ ⟨(blk_cell BK159.out 0).trans rfl, (blk_cell BK159.out 1).trans rfl, (blk_cell BK151.out 0).trans rfl, (blk_cell BK151.out 1).trans rfl, ((HB.out.cell (World.block_lt_of_cell? w _ hw162_0)).trans hw162_0), ((HB.out.cell (World.block_lt_of_cell? w _ hw162_1)).trans hw162_1)⟩ (fun hHeld => ?_)
        clear hK K
        refine norm_ (a' := ?_) ?_ ?_
        rotate_left
        ·show Act.put _ (some 33) _ = _
         simp only [Act.put, List.setIfInBounds_toArray, List.set_cons_zero, List.set_cons_succ, i64_w, i32_w]
         rfl
        refine pA_ 9 (some 34) (bl 10 11) HT_.out (h := ?_)
        refine last_ (i := 10) (N := none) (bl 11 11) rfl rfl (one_of HT_.out (by kernel_rfl)) (by decide) (fun K hK => ?_)
        have hs33 : w31.cell? ⟨gb159, 1, none⟩ = some (u160001) := (blk_cell BK159.out 1).trans rfl
        have hfs33 := blk_frozen BK159.out 1
        have hns33_0 := NB151_159.out
        have hns33_1 := NB152_159.out
        have hms33_0 := NB159_151.out
        have hms33_1 := NB159_152.out
        refine skip_ (w1 := ?_) (by rfl) rfl ?_ ?_
        rotate_left
        ·go_simp
         rfl
        refine hK.out _ _ ?_
        clear hK K
        refine done_ (done_of HT_.out (by kernel_rfl)) ?_
        try go_wp2
        go_roundg k1
        case measure => have := HK1.out; omega
        case rel => exact ⟨(wrap64 (x4_1 + 1)), (y163), (.slice Ao32 y163.length co32), (by first | rfl | (simp; done) | (simp [*]; done)), H', ⟨by have := HK1.out; omega⟩, ⟨rz_ (Kd.R_mono (Kd.R_far (p := ⟨gb159, 1, none⟩) (Kd.R_types HO_160000.out BK159.out (by decide)) (fun _ hk => hk.2) (.slice Ao32 y163.length co32)) (fun _ hk => trivial))⟩, ⟨rz_ (Kd.R_mono (Kd.R_far (p := ⟨gb159, 1, none⟩) (Kd.R_types HO165.out BK159.out (by decide)) (fun _ hk => hk.2) (.slice Ao32 y163.length co32)) (fun _ hk => trivial))⟩, ⟨by (with_reducible repeat (first | refine blk_drewN ?_ _ | refine blk_drew ?_ | refine blk_alloc ?_ _)); refine blk_far ?_ NB151_159.out _; (with_reducible repeat (first | refine blk_drewN ?_ _ | refine blk_drew ?_ | refine blk_alloc ?_ _)); exact BK151.out⟩, ⟨by (with_reducible repeat (first | refine blk_drewN ?_ _ | refine blk_drew ?_ | refine blk_alloc ?_ _)); refine blk_far ?_ NB152_159.out _; (with_reducible repeat (first | refine blk_drewN ?_ _ | refine blk_drew ?_ | refine blk_alloc ?_ _)); exact BK152.out⟩, ⟨by (with_reducible repeat (first | refine blk_drewN ?_ _ | refine blk_drew ?_ | refine blk_alloc ?_ _)); refine blk_put (cs := #[.slice Ao10 y156.length co10, u160001]) ?_ 1 _ rfl; (with_reducible repeat (first | refine blk_drewN ?_ _ | refine blk_drew ?_ | refine blk_alloc ?_ _)); exact BK159.out⟩, ⟨by repeat (first | (with_reducible first | exact HB.out | apply below_alloc | apply pw_below_drewN | apply below_drew1 | refine below_set ?_ GE151.out | refine below_set ?_ GE152.out | refine below_set ?_ GE159.out) | exact HB.out)⟩⟩
       ·rw [if_neg c24] at H
        exact absurd H (by simp)
     ·rw [if_neg c16] at H
      exact absurd H (by simp)
    ·rw [if_neg c15] at H
     have c15b0 : decide (x4_1 < (l0_1.length : Int)) = false := decide_eq_false c15
     clear c15
     simp only [Option.some.injEq, Prod.mk.injEq] at H
     obtain ⟨rfl, rfl⟩ := H
     have hnb34 := NB151_152.out
     have hnc34 := NB152_151.out
     have hnb35 := NB151_159.out
     have hnc35 := NB159_151.out
     have hcz36_0 : wr.cell? ⟨gb151, 0, none⟩ = some (.slice A0_0 l0_0.length c0_0) := (blk_cell BK151.out 0).trans rfl
     have hcz36_1 : wr.cell? ⟨gb151, 1, none⟩ = some (.slice A0_1 l0_1.length c0_1) := (blk_cell BK151.out 1).trans rfl
     have hfz36_0 := blk_frozen BK151.out 0
     have hfz36_1 := blk_frozen BK151.out 1
     have hnb37 := NB159_152.out
     have hnc37 := NB152_159.out
     have hcz38_0 : wr.cell? ⟨gb159, 0, none⟩ = some (.slice Ao10 y156.length co10) := (blk_cell BK159.out 0).trans rfl
     have hcz38_1 : wr.cell? ⟨gb159, 1, none⟩ = some (u160001) := (blk_cell BK159.out 1).trans rfl
     have hfz38_0 := blk_frozen BK159.out 0
     have hfz38_1 := blk_frozen BK159.out 1
     have hcz39_0 : wr.cell? ⟨gb152, 0, none⟩ = some (.slice none 0 0) := (blk_cell BK152.out 0).trans rfl
     have hcz39_1 : wr.cell? ⟨gb152, 1, none⟩ = some (.slice none 0 0) := (blk_cell BK152.out 1).trans rfl
     have hfz39_0 := blk_frozen BK152.out 0
     have hfz39_1 := blk_frozen BK152.out 1
     obtain ⟨Ao40, co40, eo40⟩ := Kd.R_slice HO_160001.out
     subst eo40
     go_wp2
     refine bodyPost_ret (results_cell_row rfl _ _ gb152 32 #[.slice Ao10 y156.length co10, .slice Ao40 x160001_1.length co40] (0, 0) _ rfl (by (with_reducible repeat (first | refine blk_drewN ?_ _ | refine blk_drew ?_ | refine blk_alloc ?_ _)); refine blk_put (cs := #[.slice Ao10 y156.length co10, .slice none 0 0]) ?_ 1 _ rfl; (with_reducible repeat (first | refine blk_drewN ?_ _ | refine blk_drew ?_ | refine blk_alloc ?_ _)); refine blk_put (cs := #[.slice none 0 0, .slice none 0 0]) ?_ 0 _ rfl; (with_reducible repeat (first | refine blk_drewN ?_ _ | refine blk_drew ?_ | refine blk_alloc ?_ _)); exact BK152.out) Try.underlying32 rfl (by kernel_rfl)) rfl ?_
     exact ⟨_, _, by first | rfl | (simp [errW_none, errW_some] <;> rfl) | (simp [*, errW_none, errW_some] <;> rfl), rz_ (Kd.R_mono (Kd.R_far (p := ⟨gb152, 1, none⟩) (Kd.R_far (p := ⟨gb152, 0, none⟩) (Kd.R_types HO_160000.out BK152.out (by decide)) (fun _ hk => hk.2) (.slice Ao10 y156.length co10)) (fun _ hk => hk.2) (.slice Ao40 x160001_1.length co40)) (fun _ hk => trivial)), rz_ (Kd.R_mono (Kd.R_far (p := ⟨gb152, 1, none⟩) (Kd.R_far (p := ⟨gb152, 0, none⟩) (Kd.R_types HO_160001.out BK152.out (by decide)) (fun _ hk => hk.2) (.slice Ao10 y156.length co10)) (fun _ hk => hk.2) (.slice Ao40 x160001_1.length co40)) (fun _ hk => trivial)), by repeat (first | (with_reducible first | exact HB.out | apply below_alloc | apply pw_below_drewN | apply below_drew1 | refine below_set ?_ GE151.out | refine below_set ?_ GE152.out | refine below_set ?_ GE159.out) | exact HB.out)⟩
 ·rw [if_neg c2] at H
  exact absurd H (by simp)

end Go.Proofs.Ytdpehkfjhfjobaa.Q

-- Written by a program of this session (wip/xprint.py over the kit's printer).
import Derived.Test.YtdiejmhphhdcfaaQ0
import Derived.Test.YtdiejmhphhdcfaaQF27
import Derived.Test.YtdiejmhphhdcfaaQF61
namespace Go.Proofs.Ytdiejmhphhdcfaa.Q
open Go.RowKit Go.Proofs.YtdiejmhphhdcfaaW.PrintWords Go.Proofs.YtdiejmhphhdcfaaW.PrintLast
set_option linter.unusedVariables false
set_option linter.unusedSimpArgs false

/-! ### spec_l4Steps: function 117 -/
mutual
def spec_l4Steps.l0 : Nat → Int → List Int → Int → List (S86) → List (S95) → Option (List Int)
 | 0, _, _, _, _, _ => none
 | k + 1, x1, x5, x6, x152000, x152001 => if x6 ≤ (x5.length : Int) then (spec_l4Steps.l1 k x1 x5 x6 0 x152000 x152001) else (some x5)
def spec_l4Steps.l1 : Nat → Int → List Int → Int → Int → List (S86) → List (S95) → Option (List Int)
 | 0, _, _, _, _, _, _ => none
 | k + 1, x1, x5, x6, x7, x152000, x152001 => if x7 < (x152001.length : Int) then (if 0 ≤ x7 then ((spec_l2Find.f x152000 x152001 ((rd_T95 x152001 x7).f0)).bind fun t156 => ((spec_l2Find.f x152000 x152001 ((rd_T95 x152001 x7).f1)).bind fun t158 => (if 0 ≤ t156 then (if t156 < (x5.length : Int) then (if (rd x5 t156) = 0 then (if x6 = 1 then (if t158 = x1 then (spec_l4Steps.l1 k x1 (x5.set (t156 : Int).toNat x6) x6 (wrap64 (x7 + 1)) x152000 x152001) else (if x6 > 1 then (if 0 ≤ t158 then (if t158 < (x5.length : Int) then (if (rd x5 t158) = (wrap64 (x6 - 1)) then (spec_l4Steps.l1 k x1 (x5.set (t156 : Int).toNat x6) x6 (wrap64 (x7 + 1)) x152000 x152001) else (spec_l4Steps.l1 k x1 x5 x6 (wrap64 (x7 + 1)) x152000 x152001)) else (none)) else (none)) else (spec_l4Steps.l1 k x1 x5 x6 (wrap64 (x7 + 1)) x152000 x152001))) else (if x6 > 1 then (if 0 ≤ t158 then (if t158 < (x5.length : Int) then (if (rd x5 t158) = (wrap64 (x6 - 1)) then (spec_l4Steps.l1 k x1 (x5.set (t156 : Int).toNat x6) x6 (wrap64 (x7 + 1)) x152000 x152001) else (spec_l4Steps.l1 k x1 x5 x6 (wrap64 (x7 + 1)) x152000 x152001)) else (none)) else (none)) else (spec_l4Steps.l1 k x1 x5 x6 (wrap64 (x7 + 1)) x152000 x152001))) else (spec_l4Steps.l1 k x1 x5 x6 (wrap64 (x7 + 1)) x152000 x152001)) else (none)) else (none)))) else (none)) else (spec_l4Steps.l0 k x1 x5 (wrap64 (x6 + 1)) x152000 x152001)
end
def spec_l4Steps.f (k : Nat) (l0_0 : List (S86)) (l0_1 : List (S95)) (a1 : Int) : Option (List Int) := if 0 ≤ (l0_0.length : Int) then (if ((l0_0.length : Int) : Int).toNat ≤ 35184372088832 then (spec_l4Steps.l0 k a1 (List.replicate ((l0_0.length : Int) : Int).toNat 0) 1 l0_0 l0_1) else (none)) else (none)
theorem spec_l4Steps.mono_l : ∀ k, (∀ y0 y1 y2 y3 y4, LeO (spec_l4Steps.l0 k y0 y1 y2 y3 y4) (spec_l4Steps.l0 (k + 1) y0 y1 y2 y3 y4)) ∧ (∀ y0 y1 y2 y3 y4 y5, LeO (spec_l4Steps.l1 k y0 y1 y2 y3 y4 y5) (spec_l4Steps.l1 (k + 1) y0 y1 y2 y3 y4 y5))
 | 0 => ⟨fun _ _ _ _ _ r h => by simp [spec_l4Steps.l0] at h, fun _ _ _ _ _ _ r h => by simp [spec_l4Steps.l1] at h⟩
 | k + 1 => by
  obtain ⟨ih0, ih1⟩ := spec_l4Steps.mono_l k
  refine ⟨?_, ?_⟩
  ·intro y0 y1 y2 y3 y4
   unfold spec_l4Steps.l0
   repeat' first
   | (with_reducible exact ih0 _ _ _ _ _)
   | (with_reducible exact ih1 _ _ _ _ _ _)
   | (with_reducible exact LeO.refl _)
   | (with_reducible exact LeO.none _)
   | (with_reducible refine LeO.ite ?_ ?_)
   | (with_reducible refine LeO.bind ?_ (fun _ => ?_))
   | exact ih0 _ _ _ _ _
   | exact ih1 _ _ _ _ _ _
   | exact LeO.none _
   | refine LeO.ite ?_ ?_
   | refine LeO.bind ?_ (fun _ => ?_)
  ·intro y0 y1 y2 y3 y4 y5
   unfold spec_l4Steps.l1
   repeat' first
   | (with_reducible exact ih0 _ _ _ _ _)
   | (with_reducible exact ih1 _ _ _ _ _ _)
   | (with_reducible exact LeO.refl _)
   | (with_reducible exact LeO.none _)
   | (with_reducible refine LeO.ite ?_ ?_)
   | (with_reducible refine LeO.bind ?_ (fun _ => ?_))
   | exact ih0 _ _ _ _ _
   | exact ih1 _ _ _ _ _ _
   | exact LeO.none _
   | refine LeO.ite ?_ ?_
   | refine LeO.bind ?_ (fun _ => ?_)
theorem spec_l4Steps.mono : ∀ a0 a1 a2 k, LeO (spec_l4Steps.f k a0 a1 a2) (spec_l4Steps.f (k + 1) a0 a1 a2) := by
 intro a0 a1 a2 k
 obtain ⟨ih0, ih1⟩ := spec_l4Steps.mono_l k
 unfold spec_l4Steps.f
 repeat' first
   | (with_reducible exact ih0 _ _ _ _ _)
   | (with_reducible exact ih1 _ _ _ _ _ _)
   | (with_reducible exact LeO.refl _)
   | (with_reducible exact LeO.none _)
   | (with_reducible refine LeO.ite ?_ ?_)
   | (with_reducible refine LeO.bind ?_ (fun _ => ?_))
   | exact ih0 _ _ _ _ _
   | exact ih1 _ _ _ _ _ _
   | exact LeO.none _
   | refine LeO.ite ?_ ?_
   | refine LeO.bind ?_ (fun _ => ?_)
def spec_l4Steps.T8 : Bool × List (List Nat × List Nat) := (true, [([], []), ([], []), ([1], [1]), ([], []), ([2, 3], [2, 3]), ([4], [4]), ([5], [5]), ([0, 6], [0, 6]), ([], []), ([], []), ([9], [9]), ([], []), ([10, 11], [10, 11]), ([12], [12]), ([13], [13]), ([8, 14, 7], [8, 14]), ([7, 15, 0, 1, 2, 3, 4, 5, 6, 7], [7]), ([15, 16, 0, 1, 2, 3, 4, 5, 6, 7, 8, 9, 10, 11, 12, 13, 14, 15, 16], [15])])
def spec_l4Steps.B8 : List Nat := [0, 0, 2, 0, 14, 30, 62, 127, 0, 0, 512, 0, 3584, 7680, 15872, 32767, 65535, 131071]
theorem spec_l4Steps.tab8 : rtab .any (opsOf Try.f117 8) = spec_l4Steps.T8 := by kernel_rfl
theorem spec_l4Steps.bits8 : waitsOk spec_l4Steps.T8.2 spec_l4Steps.B8 = true := by kernel_rfl
set_option maxHeartbeats 8000000 in
set_option maxRecDepth 100000 in
theorem spec_l4Steps.calls (k : Nat) (A0_0 : Option Addr) (c0_0 : Nat) (l0_0 : List (S86)) (A0_1 : Option Addr) (c0_1 : Nat) (l0_1 : List (S95)) (a1 : Int) (r : List Int) (w : World) (hr0_0 : Kd.C k86 w A0_0 l0_0.length l0_0) (hc0_0 : l0_0.length ≤ c0_0) (hr0_1 : Kd.C k95 w A0_1 l0_1.length l0_1) (hc0_1 : l0_1.length ≤ c0_1) (h : spec_l4Steps.f k l0_0 l0_1 a1 = some r) :
  Calls Try.prog 117 #[.agg #[.slice A0_0 l0_0.length c0_0, .slice A0_1 l0_1.length c0_1], .int .i64 a1] w fun e w' => ∃ v0_ : Value, e = .returned (v0_) ∧ Kd.R (Kd.int .i64) 3 w' w.heap.size (fun _ => True) v0_ r ∧ Below w.heap.size w w' := by
 have hu33 := Try.underlying33
 have HR0_0 := Aside0.mk hr0_0
 have HC0_0 := Aside0.mk hc0_0
 clear hr0_0 hc0_0
 have HR0_1 := Aside0.mk hr0_1
 have HC0_1 := Aside0.mk hc0_1
 clear hr0_1 hc0_1
 have HB := Aside0.mk (Below.refl w.heap.size w)
 have H : (if 0 ≤ (l0_0.length : Int) then (if ((l0_0.length : Int) : Int).toNat ≤ 35184372088832 then (spec_l4Steps.l0 k a1 (List.replicate ((l0_0.length : Int) : Int).toNat 0) 1 l0_0 l0_1) else (none)) else (none)) = some r := h
 clear h
 by_cases c3 : 0 ≤ (l0_0.length : Int)
 ·rw [if_pos c3] at H
  have c3b0 := eq_true c3
  have c3b1 : decide (0 ≤ (l0_0.length : Int)) = true := decide_eq_true c3
  clear c3
  by_cases c4 : ((l0_0.length : Int) : Int).toNat ≤ 35184372088832
  ·rw [if_pos c4] at H
   have c4b0 := eq_true c4
   have c4b1 : decide (((l0_0.length : Int) : Int).toNat ≤ 35184372088832) = true := decide_eq_true c4
   clear c4
   obtain ⟨y152, hy152⟩ : ∃ y_ : List Int, y_ = (List.replicate ((l0_0.length : Int) : Int).toNat 0) := ⟨_, rfl⟩
   replace H : (spec_l4Steps.l0 k a1 y152 1 l0_0 l0_1) = some r := by first | (rw [hy152]; with_reducible exact H) | (have H2_ := (Option.bind_some _ _).symm.trans H; rw [hy152]; with_reducible exact H2_) | (have H2_ := (Option.bind_some _ _).symm.trans H; with_reducible exact H2_) | with_reducible exact H | (rw [hy152]; exact H) | exact H
   have Ny152 := Aside0.mk hy152
   clear hy152
   have H' := Aside0.mk H
   clear H
   go_enter Try.func117, Try.ntmps117
   go_wp2_with (first | ((with_reducible refine gate_dst (N := 2) rfl ?_); refine box_event ?hg (N := 2) ?hd (cs := #[.slice A0_0 l0_0.length c0_0, .slice A0_1 l0_1.length c0_1]) (t := 33) ?hr ?_; (case hd => rfl); (case hg => rfl); (case hr => first | (go_simp; done) | (go_simp; rfl)); intro gb151 hg w5 hbox hb; have n0_ := Aside0.mk (below_step (wz_ HB.out) hb); have n1_ := Aside0.mk (hbox); have n2_ := Aside0.mk ((by rw [hg]; exact (below_size (wz_ HB.out)) : w.heap.size ≤ gb151)); have n3_ := Aside0.mk ((by rw [hg]; exact (below_size (wz_ HB.out)) : w.heap.size ≤ gb151)); clear HB; have HB := n0_; have BK151 := n1_; have GW151 := n2_; have GE151 := n3_; clear n0_ n1_ n2_ n3_; clear hb hbox hg; have hcz6_0 : w5.cell? ⟨gb151, 0, none⟩ = some (.slice A0_0 l0_0.length c0_0) := (blk_cell BK151.out 0).trans rfl; have hcz6_1 : w5.cell? ⟨gb151, 1, none⟩ = some (.slice A0_1 l0_1.length c0_1) := (blk_cell BK151.out 1).trans rfl; have hfz6_0 := blk_frozen BK151.out 0; have hfz6_1 := blk_frozen BK151.out 1) | ((with_reducible refine gate_dst (N := 13) rfl ?_); refine Kd.R_make (Kd.int .i64) _ 3 rfl (N := 13) rfl 27 _ _ rfl (l0_0.length : Int) rfl rfl Try.underlying27 (.int .i64 0) 8 info3 rfl (by decide) (by omega) 0 (ok := fun _ => True) (okp := fun _ => True) rfl (fun _ hk => hk) trivial (of_decide_eq_true (by first | (with_reducible assumption) | assumption)) (Nat.le_trans (Nat.mul_le_mul_right _ (of_decide_eq_true (by first | (with_reducible assumption) | assumption) : (l0_0.length : Int).toNat ≤ 35184372088832)) (by omega)) (Below.refl _ _) (Nat.le_refl _) ?_; intro v153 w7 ho8 hb hg_ hnew_; clear hg_ hnew_; (first | rw [← Ny152.out] at ho8 | (simp only [Int.reduceToNat] at ho8; rw [← Ny152.out] at ho8)); have n0_ := Aside0.mk (Kd.R_lower ho8 (below_size (by repeat (first | (with_reducible first | exact HB.out | apply below_alloc | apply pw_below_drewN | apply below_drew1 | refine below_set ?_ GE151.out) | exact HB.out)))); have n1_ := Aside0.mk (blk_below (bz_ BK151.out) hb); have n2_ := Aside0.mk (below_step (by repeat (first | (with_reducible first | exact HB.out | apply below_alloc | apply pw_below_drewN | apply below_drew1 | refine below_set ?_ GE151.out) | exact HB.out)) hb); clear BK151; clear HB; have HO154 := n0_; have BK151 := n1_; have HB := n2_; clear n0_ n1_ n2_; clear hb ho8))
   go_loopg [6] k (fun kq v6 w' => ∃ (x5_1 : List Int) (x6_1 : Int), v6 = .int .i64 x6_1 ∧ Aside0 (spec_l4Steps.l0 kq a1 x5_1 x6_1 l0_0 l0_1 = some r) ∧ Aside0 (kq ≤ k) ∧ Aside0 (Kd.R (Kd.int .i64) 3 w' w.heap.size (fun _ => True) v153 x5_1) ∧ Aside0 (w'.heap[gb151]? = some (.cells #[(.slice A0_0 l0_0.length c0_0), (.slice A0_1 l0_1.length c0_1)] 33 (0, 0))) ∧ Aside0 (Below w.heap.size w w'))
   case atStart => exact ⟨(y152), (1), (by first | rfl | (simp; done) | (simp [*]; done)), H', ⟨Nat.le_refl _⟩, ⟨rz_ HO154.out⟩, ⟨bz_ BK151.out⟩, ⟨by repeat (first | (with_reducible first | exact HB.out | apply below_alloc | apply pw_below_drewN | apply below_drew1 | refine below_set ?_ GE151.out) | exact HB.out)⟩⟩
   case round =>
    clear H'
    try clear c1
    try clear p2
    try clear c3
    try clear c3b0
    try clear c3b1
    try clear c4
    try clear c4b0
    try clear c4b1
    try clear hcz6_0
    try clear hcz6_1
    try clear hfz6_0
    try clear hfz6_1
    obtain ⟨x5_1, x6_1, rfl, HA, HK1, HO_5, BK151, HB⟩ := hrel
    cases gk with
    | zero => exact absurd HA.out (by simp [spec_l4Steps.l0])
    | succ k1 =>
     have H := HA.out
     clear HA
     simp only [spec_l4Steps.l0] at H
     by_cases c9 : x6_1 ≤ (x5_1.length : Int)
     ·rw [if_pos c9] at H
      have c9b0 : decide (x6_1 ≤ (x5_1.length : Int)) = true := decide_eq_true c9
      clear c9
      have H' := Aside0.mk H
      clear H
      obtain ⟨Ao10, co10, eo10⟩ := Kd.R_slice HO_5.out
      subst eo10
      go_wp2
      go_loopg [7] k1 (fun kq v7 w' => ∃ (x5_2 : List Int) (x7_2 : Int), v7 = .int .i64 x7_2 ∧ Aside0 (spec_l4Steps.l1 kq a1 x5_2 x6_1 x7_2 l0_0 l0_1 = some r) ∧ Aside0 (kq ≤ k1) ∧ Aside0 (Kd.R (Kd.int .i64) 3 w' w.heap.size (fun _ => True) (.slice Ao10 x5_1.length co10) x5_2) ∧ Aside0 (w'.heap[gb151]? = some (.cells #[(.slice A0_0 l0_0.length c0_0), (.slice A0_1 l0_1.length c0_1)] 33 (0, 0))) ∧ Aside0 (Below w.heap.size w w'))
      case atStart => exact ⟨(x5_1), (0), (by first | rfl | (simp; done) | (simp [*]; done)), H', ⟨Nat.le_refl _⟩, ⟨rz_ HO_5.out⟩, ⟨bz_ BK151.out⟩, ⟨by repeat (first | (with_reducible first | exact HB.out | apply below_alloc | apply pw_below_drewN | apply below_drew1 | refine below_set ?_ GE151.out) | exact HB.out)⟩⟩
      case round =>
       clear H'
       try clear c1
       try clear p2
       try clear c3
       try clear c3b0
       try clear c3b1
       try clear c4
       try clear c4b0
       try clear c4b1
       try clear c9
       try clear c9b0
       try clear hcz6_0
       try clear hcz6_1
       try clear hfz6_0
       try clear hfz6_1
       try clear p2
       obtain ⟨x5_2, x7_2, rfl, HA, HK2, HO_5, BK151, HB⟩ := hrel
       have hl5_2 := (Kd.R_reads' HO_5.out).1
       rw [hl5_2] at HO_5
       (try simp only [hl5_2])
       (try simp only [hl5_2] at BK151)
       cases gk with
       | zero => exact absurd HA.out (by simp [spec_l4Steps.l1])
       | succ k2 =>
        have H := HA.out
        clear HA
        simp only [spec_l4Steps.l1] at H
        by_cases c11 : x7_2 < (l0_1.length : Int)
        ·rw [if_pos c11] at H
         have c11b0 : decide (x7_2 < (l0_1.length : Int)) = true := decide_eq_true c11
         clear c11
         by_cases c12 : 0 ≤ x7_2
         ·rw [if_pos c12] at H
          have c12b0 : decide (0 ≤ x7_2) = true := decide_eq_true c12
          clear c12
          replace H := Option.bind_eq_some_iff.mp H
          obtain ⟨t156, A130, H⟩ := H
          replace H : ((spec_l2Find.f l0_0 l0_1 ((rd_T95 l0_1 x7_2).f1)).bind fun t158 => (if 0 ≤ t156 then (if t156 < (x5_2.length : Int) then (if (rd x5_2 t156) = 0 then (if x6_1 = 1 then (if t158 = a1 then (spec_l4Steps.l1 k2 a1 (x5_2.set (t156 : Int).toNat x6_1) x6_1 (wrap64 (x7_2 + 1)) l0_0 l0_1) else (if x6_1 > 1 then (if 0 ≤ t158 then (if t158 < (x5_2.length : Int) then (if (rd x5_2 t158) = (wrap64 (x6_1 - 1)) then (spec_l4Steps.l1 k2 a1 (x5_2.set (t156 : Int).toNat x6_1) x6_1 (wrap64 (x7_2 + 1)) l0_0 l0_1) else (spec_l4Steps.l1 k2 a1 x5_2 x6_1 (wrap64 (x7_2 + 1)) l0_0 l0_1)) else (none)) else (none)) else (spec_l4Steps.l1 k2 a1 x5_2 x6_1 (wrap64 (x7_2 + 1)) l0_0 l0_1))) else (if x6_1 > 1 then (if 0 ≤ t158 then (if t158 < (x5_2.length : Int) then (if (rd x5_2 t158) = (wrap64 (x6_1 - 1)) then (spec_l4Steps.l1 k2 a1 (x5_2.set (t156 : Int).toNat x6_1) x6_1 (wrap64 (x7_2 + 1)) l0_0 l0_1) else (spec_l4Steps.l1 k2 a1 x5_2 x6_1 (wrap64 (x7_2 + 1)) l0_0 l0_1)) else (none)) else (none)) else (spec_l4Steps.l1 k2 a1 x5_2 x6_1 (wrap64 (x7_2 + 1)) l0_0 l0_1))) else (spec_l4Steps.l1 k2 a1 x5_2 x6_1 (wrap64 (x7_2 + 1)) l0_0 l0_1)) else (none)) else (none))) = some r := H
          have A13 := Aside0.mk A130
          clear A130
          replace H := Option.bind_eq_some_iff.mp H
          obtain ⟨t158, A140, H⟩ := H
          replace H : (if 0 ≤ t156 then (if t156 < (x5_2.length : Int) then (if (rd x5_2 t156) = 0 then (if x6_1 = 1 then (if t158 = a1 then (spec_l4Steps.l1 k2 a1 (x5_2.set (t156 : Int).toNat x6_1) x6_1 (wrap64 (x7_2 + 1)) l0_0 l0_1) else (if x6_1 > 1 then (if 0 ≤ t158 then (if t158 < (x5_2.length : Int) then (if (rd x5_2 t158) = (wrap64 (x6_1 - 1)) then (spec_l4Steps.l1 k2 a1 (x5_2.set (t156 : Int).toNat x6_1) x6_1 (wrap64 (x7_2 + 1)) l0_0 l0_1) else (spec_l4Steps.l1 k2 a1 x5_2 x6_1 (wrap64 (x7_2 + 1)) l0_0 l0_1)) else (none)) else (none)) else (spec_l4Steps.l1 k2 a1 x5_2 x6_1 (wrap64 (x7_2 + 1)) l0_0 l0_1))) else (if x6_1 > 1 then (if 0 ≤ t158 then (if t158 < (x5_2.length : Int) then (if (rd x5_2 t158) = (wrap64 (x6_1 - 1)) then (spec_l4Steps.l1 k2 a1 (x5_2.set (t156 : Int).toNat x6_1) x6_1 (wrap64 (x7_2 + 1)) l0_0 l0_1) else (spec_l4Steps.l1 k2 a1 x5_2 x6_1 (wrap64 (x7_2 + 1)) l0_0 l0_1)) else (none)) else (none)) else (spec_l4Steps.l1 k2 a1 x5_2 x6_1 (wrap64 (x7_2 + 1)) l0_0 l0_1))) else (spec_l4Steps.l1 k2 a1 x5_2 x6_1 (wrap64 (x7_2 + 1)) l0_0 l0_1)) else (none)) else (none)) = some r := H
          have A14 := Aside0.mk A140
          clear A140
          by_cases c15 : 0 ≤ t156
          ·rw [if_pos c15] at H
           have c15b0 : decide (0 ≤ t156) = true := decide_eq_true c15
           clear c15
           by_cases c16 : t156 < (x5_2.length : Int)
           ·rw [if_pos c16] at H
            have c16b0 : decide (t156 < (x5_2.length : Int)) = true := decide_eq_true c16
            clear c16
            by_cases c17 : (rd x5_2 t156) = 0
            ·rw [if_pos c17] at H
             have c17b0 : ((rd x5_2 t156) == 0) = true := beq_iff_eq.mpr c17
             have c17b1 : ((rd x5_2 t156) != 0) = false := bne_eq_false_iff_eq.mpr c17
             clear c17
             by_cases c18 : x6_1 = 1
             ·rw [if_pos c18] at H
              have c18b0 : (x6_1 == 1) = true := beq_iff_eq.mpr c18
              have c18b1 : (x6_1 != 1) = false := bne_eq_false_iff_eq.mpr c18
              clear c18
              by_cases c19 : t158 = a1
              ·rw [if_pos c19] at H
               have c19b0 : (t158 == a1) = true := beq_iff_eq.mpr c19
               have c19b1 : (t158 != a1) = false := bne_eq_false_iff_eq.mpr c19
               clear c19
               obtain ⟨y160, hy160⟩ : ∃ y_ : List Int, y_ = (x5_2.set (t156 : Int).toNat x6_1) := ⟨_, rfl⟩
               replace H : (spec_l4Steps.l1 k2 a1 y160 x6_1 (wrap64 (x7_2 + 1)) l0_0 l0_1) = some r := by first | (rw [hy160]; with_reducible exact H) | (have H2_ := (Option.bind_some _ _).symm.trans H; rw [hy160]; with_reducible exact H2_) | (have H2_ := (Option.bind_some _ _).symm.trans H; with_reducible exact H2_) | with_reducible exact H | (rw [hy160]; exact H) | exact H
               have Ny160 := Aside0.mk hy160
               clear hy160
               have H' := Aside0.mk H
               clear H
               have hcz21_0 : wr.cell? ⟨gb151, 0, none⟩ = some (.slice A0_0 l0_0.length c0_0) := (blk_cell BK151.out 0).trans rfl
               have hcz21_1 : wr.cell? ⟨gb151, 1, none⟩ = some (.slice A0_1 l0_1.length c0_1) := (blk_cell BK151.out 1).trans rfl
               have hfz21_0 := blk_frozen BK151.out 0
               have hfz21_1 := blk_frozen BK151.out 1
               try go_wp2
               have n0_ := Aside0.mk (Kd.R_drew HO_5.out)
               have n1_ := Aside0.mk (blk_drew BK151.out)
               have n2_ := Aside0.mk (below_drew1 HB.out)
               clear HO_5
               clear BK151
               clear HB
               have HO_5 := n0_
               have BK151 := n1_
               have HB := n2_
               clear n0_ n1_ n2_
               have p155 : 0 ≤ (x7_2 : Int) := of_decide_eq_true (by first | (with_reducible assumption) | assumption)
               have q155 : x7_2 < (l0_1.length : Int) := of_decide_eq_true (by first | (with_reducible assumption) | assumption)
               obtain ⟨ad155, e155, hx155_0, hx155_1⟩ := at_T95 HR0_1.out x7_2 p155 q155
               have hw155_1 := hx155_1
               have hw155_0 := hx155_0
               cases e155
               replace hx155_0 := (HB.out.cell (World.block_lt_of_cell? w _ hx155_0)).trans hx155_0
               replace hx155_1 := (HB.out.cell (World.block_lt_of_cell? w _ hx155_1)).trans hx155_1
               replace p155 := eq_true p155
               replace q155 := eq_true q155
               have p157 : 0 ≤ (x7_2 : Int) := of_decide_eq_true (by first | (with_reducible assumption) | assumption)
               have q157 : x7_2 < (l0_1.length : Int) := of_decide_eq_true (by first | (with_reducible assumption) | assumption)
               obtain ⟨ad157, e157, hx157_0, hx157_1⟩ := at_T95 HR0_1.out x7_2 p157 q157
               have hw157_1 := hx157_1
               have hw157_0 := hx157_0
               obtain rfl : ad155 = ad157 := (by injection e157)
               replace hx157_0 := (HB.out.cell (World.block_lt_of_cell? w _ hx157_0)).trans hx157_0
               replace hx157_1 := (HB.out.cell (World.block_lt_of_cell? w _ hx157_1)).trans hx157_1
               replace p157 := eq_true p157
               replace q157 := eq_true q157
               refine start_ (n := 18) (S := fun w' => w'.cell? ⟨gb151, 0, none⟩ = some (.slice A0_0 l0_0.length c0_0) ∧ w'.cell? ⟨gb151, 1, none⟩ = some (.slice (some ad155) l0_1.length c0_1) ∧ w'.cell? (ad155.add ((x7_2).toNat * 2)) = some (.int .i64 ((rd_T95 l0_1 x7_2).f0)) ∧ w'.cell? ⟨(ad155.add ((x7_2).toNat * 2)).block, (ad155.add ((x7_2).toNat * 2)).off + 1, none⟩ = some (.int .i64 ((rd_T95 l0_1 x7_2).f1)) ∧ w'.cell? (ad155.add ((x7_2).toNat * 2)) = some (.int .i64 ((rd_T95 l0_1 x7_2).f0)) ∧ w'.cell? ⟨(ad155.add ((x7_2).toNat * 2)).block, (ad155.add ((x7_2).toNat * 2)).off + 1, none⟩ = some (.int .i64 ((rd_T95 l0_1 x7_2).f1))) (ds := []) #[false, false, false, false, false, false, false, false, false, false, false, false, false, false, false, false, false, false] (by kernel_rfl) rfl rfl ⟨(blk_cell BK151.out 0).trans rfl, (blk_cell BK151.out 1).trans rfl, ((HB.out.cell (World.block_lt_of_cell? w _ hw155_0)).trans hw155_0), ((HB.out.cell (World.block_lt_of_cell? w _ hw155_1)).trans hw155_1), ((HB.out.cell (World.block_lt_of_cell? w _ hw157_0)).trans hw157_0), ((HB.out.cell (World.block_lt_of_cell? w _ hw157_1)).trans hw157_1)⟩ (fun hHeld => ?_); refine with_tabW spec_l4Steps.tab8 spec_l4Steps.bits8 (fun HT_ HW_ => ?_)
               generalize wr.drew = w22 at HO_5 BK151 HB hx155_0 hx155_1 hx157_0 hx157_1 hHeld ⊢
               refine pA_ 1 (some 28) #[false, true, false, false, false, false, false, false, false, false, false, false, false, false, false, false, false, false] HT_.out (h := ?_)
               refine pA_ 3 (some 30) #[false, true, false, true, false, false, false, false, false, false, false, false, false, false, false, false, false, false] HT_.out (h := ?_)
               refine pA_ 9 (some 36) #[false, true, false, true, false, false, false, false, false, true, false, false, false, false, false, false, false, false] HT_.out (h := ?_)
               refine pA_ 11 (some 38) #[false, true, false, true, false, false, false, false, false, true, false, true, false, false, false, false, false, false] HT_.out (h := ?_)
               refine tA_ 0 (some 27) #[true, true, false, true, false, false, false, false, false, true, false, true, false, false, false, false, false, false] HT_.out HW_.out hHeld (h := ?_)
               refine tA_ 2 (some 29) #[true, true, true, true, false, false, false, false, false, true, false, true, false, false, false, false, false, false] HT_.out HW_.out hHeld (h := ?_)
               refine pA_ 4 (some 31) #[true, true, true, true, true, false, false, false, false, true, false, true, false, false, false, false, false, false] HT_.out (h := ?_)
               refine pA_ 5 (some 32) #[true, true, true, true, true, true, false, false, false, true, false, true, false, false, false, false, false, false] HT_.out (h := ?_)
               refine tA_ 6 (some 33) #[true, true, true, true, true, true, true, false, false, true, false, true, false, false, false, false, false, false] HT_.out HW_.out hHeld (h := ?_)
               refine tA_ 8 (some 35) #[true, true, true, true, true, true, true, false, true, true, false, true, false, false, false, false, false, false] HT_.out HW_.out hHeld (h := ?_)
               refine tA_ 10 (some 37) #[true, true, true, true, true, true, true, false, true, true, true, true, false, false, false, false, false, false] HT_.out HW_.out hHeld (h := ?_)
               refine pA_ 12 (some 39) #[true, true, true, true, true, true, true, false, true, true, true, true, true, false, false, false, false, false] HT_.out (h := ?_)
               refine pA_ 13 (some 40) #[true, true, true, true, true, true, true, false, true, true, true, true, true, true, false, false, false, false] HT_.out (h := ?_)
               refine tA_ 14 (some 41) #[true, true, true, true, true, true, true, false, true, true, true, true, true, true, true, false, false, false] HT_.out HW_.out hHeld (h := ?_)
               refine one_ (i := 7) (N := some 34) (bl 15 18) rfl rfl (one_of HT_.out (by kernel_rfl)) (by decide) (fun K hK => ?_)
               refine goes_ Try.func61 (by kernel_rfl) rfl #[.agg #[.slice A0_0 l0_0.length c0_0, .slice (some ad155) l0_1.length c0_1], .int .i64 ((rd_T95 l0_1 x7_2).f0)] (by rfl) rfl rfl (by (try simp only [List.map_toArray, List.map_cons, List.map_nil]); first | done | rfl | (simp only [List.length_drop, List.length_take]; rfl)) ?_
               with_reducible refine (spec_l2Find.calls _ _ l0_0 _ _ l0_1 ((rd_T95 l0_1 x7_2).f0) t156 _ ?side1 ?side2 ?side3 ?side4 A13.out).mono ?_
               (case side1 => exact cz_ (Kd.C_below HR0_0.out HB.out))
               (case side2 => exact HC0_0.out)
               (case side3 => exact cz_ (Kd.C_below HR0_1.out HB.out))
               (case side4 => exact HC0_1.out)
               rintro e w23 ⟨rfl, hb⟩
               refine ⟨_, rfl, ?_⟩
               have n0_ := Aside0.mk (Kd.R_below (rz_ HO_5.out) hb)
               have n1_ := Aside0.mk (blk_below (bz_ BK151.out) hb)
               have n2_ := Aside0.mk (below_step (by repeat (first | (with_reducible first | exact HB.out | apply below_alloc | apply pw_below_drewN | apply below_drew1 | refine below_set ?_ GE151.out) | exact HB.out)) hb)
               clear HO_5
               clear BK151
               clear HB
               have HO_5 := n0_
               have BK151 := n1_
               have HB := n2_
               clear n0_ n1_ n2_
               (try clear hb)
               (try clear hb2)
               (try clear hk)
               (try clear hi)
               refine hK.out _ _ ⟨(blk_cell BK151.out 0).trans rfl, (blk_cell BK151.out 1).trans rfl, ((HB.out.cell (World.block_lt_of_cell? w _ hw155_0)).trans hw155_0), ((HB.out.cell (World.block_lt_of_cell? w _ hw155_1)).trans hw155_1), ((HB.out.cell (World.block_lt_of_cell? w _ hw157_0)).trans hw157_0), ((HB.out.cell (World.block_lt_of_cell? w _ hw157_1)).trans hw157_1)⟩ (fun hHeld => ?_)
               clear hK K
               refine norm_ (a' := ?_) ?_ ?_
               rotate_left
               ·show Act.put _ (some 34) _ = _
                simp only [Act.put, List.setIfInBounds_toArray, List.set_cons_zero, List.set_cons_succ, i64_w, i32_w]
                rfl
               refine one_ (i := 15) (N := some 42) (bl 16 18) rfl rfl (one_of HT_.out (by kernel_rfl)) (by decide) (fun K hK => ?_)
               refine goes_ Try.func61 (by kernel_rfl) rfl #[.agg #[.slice A0_0 l0_0.length c0_0, .slice (some ad155) l0_1.length c0_1], .int .i64 ((rd_T95 l0_1 x7_2).f1)] (by rfl) rfl rfl (by (try simp only [List.map_toArray, List.map_cons, List.map_nil]); first | done | rfl | (simp only [List.length_drop, List.length_take]; rfl)) ?_
               with_reducible refine (spec_l2Find.calls _ _ l0_0 _ _ l0_1 ((rd_T95 l0_1 x7_2).f1) t158 _ ?side1 ?side2 ?side3 ?side4 A14.out).mono ?_
               (case side1 => exact cz_ (Kd.C_below HR0_0.out HB.out))
               (case side2 => exact HC0_0.out)
               (case side3 => exact cz_ (Kd.C_below HR0_1.out HB.out))
               (case side4 => exact HC0_1.out)
               rintro e w24 ⟨rfl, hb⟩
               refine ⟨_, rfl, ?_⟩
               have n0_ := Aside0.mk (Kd.R_below (rz_ HO_5.out) hb)
               have n1_ := Aside0.mk (blk_below (bz_ BK151.out) hb)
               have n2_ := Aside0.mk (below_step (by repeat (first | (with_reducible first | exact HB.out | apply below_alloc | apply pw_below_drewN | apply below_drew1 | refine below_set ?_ GE151.out) | exact HB.out)) hb)
               clear HO_5
               clear BK151
               clear HB
               have HO_5 := n0_
               have BK151 := n1_
               have HB := n2_
               clear n0_ n1_ n2_
               (try clear hb)
               (try clear hb2)
               (try clear hk)
               (try clear hi)
               refine hK.out _ _ ⟨(blk_cell BK151.out 0).trans rfl, (blk_cell BK151.out 1).trans rfl, ((HB.out.cell (World.block_lt_of_cell? w _ hw155_0)).trans hw155_0), ((HB.out.cell (World.block_lt_of_cell? w _ hw155_1)).trans hw155_1), ((HB.out.cell (World.block_lt_of_cell? w _ hw157_0)).trans hw157_0), ((HB.out.cell (World.block_lt_of_cell? w _ hw157_1)).trans hw157_1)⟩ (fun hHeld => ?_)
               clear hK K
               refine norm_ (a' := ?_) ?_ ?_
               rotate_left
               ·show Act.put _ (some 42) _ = _
                simp only [Act.put, List.setIfInBounds_toArray, List.set_cons_zero, List.set_cons_succ, i64_w, i32_w]
                rfl
               refine pA_ 16 (some 8) (bl 17 18) HT_.out (h := ?_)
               refine pA_ 17 (some 9) (bl 18 18) HT_.out (h := ?_)
               refine done_ (done_of HT_.out (by kernel_rfl)) ?_
               have p159 : 0 ≤ (t156 : Int) := of_decide_eq_true (by first | (with_reducible assumption) | assumption)
               have q159 : t156 < (x5_2.length : Int) := of_decide_eq_true (by first | (with_reducible assumption) | assumption)
               obtain ⟨ad159, e159, hx159_0⟩ := Kd.at_int (Kd.R_reads' HO_5.out).2.2 t156 p159 q159
               cases e159
               replace p159 := eq_true p159
               replace q159 := eq_true q159
               have p20 : 0 ≤ (t156 : Int) := of_decide_eq_true (by first | (with_reducible assumption) | assumption)
               have q20 : (t156 : Int) < ((x5_2.length : Int) : Int) := of_decide_eq_true (by first | (with_reducible assumption) | assumption)
               obtain ⟨go20, co20, eo20, gb20, gl20, cl20, HG20⟩ := Kd.R_form HO_5.out (by omega)
               (first | cases eo20 | (injection eo20 with ea_ en_ ec_; (first | subst ea_ | (injection ea_ with ea_; subst ea_)); subst ec_; clear en_))
               have GB20 := Aside0.mk gb20
               have GG20 := Aside0.mk HG20
               clear gb20 gl20 HG20
               (first | simp only [add_plain] at hx159_0 | skip)
               obtain ⟨hx20_0, hf20_0⟩ := Kd.R_celln 0 HO_5.out (t156 : Int) p20 q20
               replace p20 := eq_true p20
               replace q20 := eq_true q20
               obtain ⟨hy25_, hz25_⟩ := Kd.R_celln 0 HO_5.out (t156 : Int) (of_decide_eq_true (by first | (with_reducible assumption) | assumption)) (of_decide_eq_true (by first | (with_reducible assumption) | assumption))
               have HP25 := Kd.R_putg HO_5.out (t156 : Int) x6_1
               try go_wp2_with (first | ((with_reducible refine gate_store (t := 3) (p := 73) rfl ?_); refine store_event (t := 3) (p := 73) (v := ?vo_w26) (w1 := (w24.setCell ⟨go20, (t156 : Int).toNat, none⟩ (.int .i64 x6_1))) ?hg ?ho ?hn ?hr ?_; (case ho => rfl); (case hg => rfl); (case hn => rfl); (case hr => first | (go_simp; done) | (go_simp; rfl)); intro w26 hw; have hg : w24.grownBy w26 (some go20) := (by rw [hw]; exact HP25.2); have hp_ : Kd.R (Kd.int .i64) 3 w26 w.heap.size (fun _ => True) (.slice (some ⟨go20, 0, none⟩) x5_2.length co10) y160 := (by rw [hw, Ny160.out]; exact HP25.1); clear HP25; have n0_ := Aside0.mk (hp_); have n1_ := Aside0.mk (blk_grown (g := gb151) (o := .cells #[.slice A0_0 l0_0.length c0_0, .slice (some ad155) l0_1.length c0_1] 33 (0, 0)) (bz_ BK151.out) hg (Kd.R_ne HO_5.out BK151.out (by decide))); have n2_ := Aside0.mk ((by rw [hw]; exact below_set (HB.out) GB20.out : Below w.heap.size w w26)); clear HO_5; clear BK151; clear HB; have HO_5 := n0_; have BK151 := n1_; have HB := n2_; clear n0_ n1_ n2_; clear hg hw hp_))
               (try simp only [← hl5_2])
               go_roundg k2
               case measure => have := HK1.out; have := HK2.out; omega
               case rel => exact ⟨(y160), (wrap64 (x7_2 + 1)), (by first | rfl | (simp; done) | (simp [*]; done)), H', ⟨by have := HK1.out; have := HK2.out; omega⟩, ⟨by (try simp only [hl5_2]); (with_reducible repeat (first | apply Kd.R_alloc | apply Kd.R_drewN | apply Kd.R_drew)); exact HO_5.out⟩, ⟨by (try simp only [hl5_2]); (with_reducible repeat (first | refine blk_drewN ?_ _ | refine blk_drew ?_ | refine blk_alloc ?_ _)); exact BK151.out⟩, ⟨by repeat (first | (with_reducible first | exact HB.out | apply below_alloc | apply pw_below_drewN | apply below_drew1 | refine below_set ?_ GE151.out) | exact HB.out)⟩⟩
              ·rw [if_neg c19] at H
               have c19b0 : (t158 == a1) = false := beq_eq_false_iff_ne.mpr c19
               have c19b1 : (t158 != a1) = true := bne_iff_ne.mpr c19
               by_cases c27 : x6_1 > 1
               ·rw [if_pos c27] at H
                have c27b0 : decide (1 < x6_1) = true := decide_eq_true c27
                clear c27
                by_cases c28 : 0 ≤ t158
                ·rw [if_pos c28] at H
                 have c28b0 : decide (0 ≤ t158) = true := decide_eq_true c28
                 clear c28
                 by_cases c29 : t158 < (x5_2.length : Int)
                 ·rw [if_pos c29] at H
                  have c29b0 : decide (t158 < (x5_2.length : Int)) = true := decide_eq_true c29
                  clear c29
                  by_cases c30 : (rd x5_2 t158) = (wrap64 (x6_1 - 1))
                  ·rw [if_pos c30] at H
                   have c30b0 : ((rd x5_2 t158) == (wrap64 (x6_1 - 1))) = true := beq_iff_eq.mpr c30
                   have c30b1 : ((rd x5_2 t158) != (wrap64 (x6_1 - 1))) = false := bne_eq_false_iff_eq.mpr c30
                   clear c30
                   obtain ⟨y162, hy162⟩ : ∃ y_ : List Int, y_ = (x5_2.set (t156 : Int).toNat x6_1) := ⟨_, rfl⟩
                   replace H : (spec_l4Steps.l1 k2 a1 y162 x6_1 (wrap64 (x7_2 + 1)) l0_0 l0_1) = some r := by first | (rw [hy162]; with_reducible exact H) | (have H2_ := (Option.bind_some _ _).symm.trans H; rw [hy162]; with_reducible exact H2_) | (have H2_ := (Option.bind_some _ _).symm.trans H; with_reducible exact H2_) | with_reducible exact H | (rw [hy162]; exact H) | exact H
                   have Ny162 := Aside0.mk hy162
                   clear hy162
                   have H' := Aside0.mk H
                   clear H
                   have hcz32_0 : wr.cell? ⟨gb151, 0, none⟩ = some (.slice A0_0 l0_0.length c0_0) := (blk_cell BK151.out 0).trans rfl
                   have hcz32_1 : wr.cell? ⟨gb151, 1, none⟩ = some (.slice A0_1 l0_1.length c0_1) := (blk_cell BK151.out 1).trans rfl
                   have hfz32_0 := blk_frozen BK151.out 0
                   have hfz32_1 := blk_frozen BK151.out 1
                   try go_wp2
                   have n0_ := Aside0.mk (Kd.R_drew HO_5.out)
                   have n1_ := Aside0.mk (blk_drew BK151.out)
                   have n2_ := Aside0.mk (below_drew1 HB.out)
                   clear HO_5
                   clear BK151
                   clear HB
                   have HO_5 := n0_
                   have BK151 := n1_
                   have HB := n2_
                   clear n0_ n1_ n2_
                   have p155 : 0 ≤ (x7_2 : Int) := of_decide_eq_true (by first | (with_reducible assumption) | assumption)
                   have q155 : x7_2 < (l0_1.length : Int) := of_decide_eq_true (by first | (with_reducible assumption) | assumption)
                   obtain ⟨ad155, e155, hx155_0, hx155_1⟩ := at_T95 HR0_1.out x7_2 p155 q155
                   have hw155_1 := hx155_1
                   have hw155_0 := hx155_0
                   cases e155
                   replace hx155_0 := (HB.out.cell (World.block_lt_of_cell? w _ hx155_0)).trans hx155_0
                   replace hx155_1 := (HB.out.cell (World.block_lt_of_cell? w _ hx155_1)).trans hx155_1
                   replace p155 := eq_true p155
                   replace q155 := eq_true q155
                   have p157 : 0 ≤ (x7_2 : Int) := of_decide_eq_true (by first | (with_reducible assumption) | assumption)
                   have q157 : x7_2 < (l0_1.length : Int) := of_decide_eq_true (by first | (with_reducible assumption) | assumption)
                   obtain ⟨ad157, e157, hx157_0, hx157_1⟩ := at_T95 HR0_1.out x7_2 p157 q157
                   have hw157_1 := hx157_1
                   have hw157_0 := hx157_0
                   obtain rfl : ad155 = ad157 := (by injection e157)
                   replace hx157_0 := (HB.out.cell (World.block_lt_of_cell? w _ hx157_0)).trans hx157_0
                   replace hx157_1 := (HB.out.cell (World.block_lt_of_cell? w _ hx157_1)).trans hx157_1
                   replace p157 := eq_true p157
                   replace q157 := eq_true q157
                   refine start_ (n := 18) (S := fun w' => w'.cell? ⟨gb151, 0, none⟩ = some (.slice A0_0 l0_0.length c0_0) ∧ w'.cell? ⟨gb151, 1, none⟩ = some (.slice (some ad155) l0_1.length c0_1) ∧ w'.cell? (ad155.add ((x7_2).toNat * 2)) = some (.int .i64 ((rd_T95 l0_1 x7_2).f0)) ∧ w'.cell? ⟨(ad155.add ((x7_2).toNat * 2)).block, (ad155.add ((x7_2).toNat * 2)).off + 1, none⟩ = some (.int .i64 ((rd_T95 l0_1 x7_2).f1)) ∧ w'.cell? (ad155.add ((x7_2).toNat * 2)) = some (.int .i64 ((rd_T95 l0_1 x7_2).f0)) ∧ w'.cell? ⟨(ad155.add ((x7_2).toNat * 2)).block, (ad155.add ((x7_2).toNat * 2)).off + 1, none⟩ = some (.int .i64 ((rd_T95 l0_1 x7_2).f1))) (ds := []) #[false, false, false, false, false, false, false, false, false, false, false, false, false, false, false, false, false, false] (by kernel_rfl) rfl rfl ⟨(blk_cell BK151.out 0).trans rfl, (blk_cell BK151.out 1).trans rfl, ((HB.out.cell (World.block_lt_of_cell? w _ hw155_0)).trans hw155_0), ((HB.out.cell (World.block_lt_of_cell? w _ hw155_1)).trans hw155_1), ((HB.out.cell (World.block_lt_of_cell? w _ hw157_0)).trans hw157_0), ((HB.out.cell (World.block_lt_of_cell? w _ hw157_1)).trans hw157_1)⟩ (fun hHeld => ?_); refine with_tabW spec_l4Steps.tab8 spec_l4Steps.bits8 (fun HT_ HW_ => ?_)
                   generalize wr.drew = w33 at HO_5 BK151 HB hx155_0 hx155_1 hx157_0 hx157_1 hHeld ⊢
                   refine pA_ 1 (some 28) #[false, true, false, false, false, false, false, false, false, false, false, false, false, false, false, false, false, false] HT_.out (h := ?_)
                   refine pA_ 3 (some 30) #[false, true, false, true, false, false, false, false, false, false, false, false, false, false, false, false, false, false] HT_.out (h := ?_)
                   refine pA_ 9 (some 36) #[false, true, false, true, false, false, false, false, false, true, false, false, false, false, false, false, false, false] HT_.out (h := ?_)
                   refine pA_ 11 (some 38) #[false, true, false, true, false, false, false, false, false, true, false, true, false, false, false, false, false, false] HT_.out (h := ?_)
                   refine tA_ 0 (some 27) #[true, true, false, true, false, false, false, false, false, true, false, true, false, false, false, false, false, false] HT_.out HW_.out hHeld (h := ?_)
                   refine tA_ 2 (some 29) #[true, true, true, true, false, false, false, false, false, true, false, true, false, false, false, false, false, false] HT_.out HW_.out hHeld (h := ?_)
                   refine pA_ 4 (some 31) #[true, true, true, true, true, false, false, false, false, true, false, true, false, false, false, false, false, false] HT_.out (h := ?_)
                   refine pA_ 5 (some 32) #[true, true, true, true, true, true, false, false, false, true, false, true, false, false, false, false, false, false] HT_.out (h := ?_)
                   refine tA_ 6 (some 33) #[true, true, true, true, true, true, true, false, false, true, false, true, false, false, false, false, false, false] HT_.out HW_.out hHeld (h := ?_)
                   refine tA_ 8 (some 35) #[true, true, true, true, true, true, true, false, true, true, false, true, false, false, false, false, false, false] HT_.out HW_.out hHeld (h := ?_)
                   refine tA_ 10 (some 37) #[true, true, true, true, true, true, true, false, true, true, true, true, false, false, false, false, false, false] HT_.out HW_.out hHeld (h := ?_)
                   refine pA_ 12 (some 39) #[true, true, true, true, true, true, true, false, true, true, true, true, true, false, false, false, false, false] HT_.out (h := ?_)
                   refine pA_ 13 (some 40) #[true, true, true, true, true, true, true, false, true, true, true, true, true, true, false, false, false, false] HT_.out (h := ?_)
                   refine tA_ 14 (some 41) #[true, true, true, true, true, true, true, false, true, true, true, true, true, true, true, false, false, false] HT_.out HW_.out hHeld (h := ?_)
                   refine one_ (i := 7) (N := some 34) (bl 15 18) rfl rfl (one_of HT_.out (by kernel_rfl)) (by decide) (fun K hK => ?_)
                   refine goes_ Try.func61 (by kernel_rfl) rfl #[.agg #[.slice A0_0 l0_0.length c0_0, .slice (some ad155) l0_1.length c0_1], .int .i64 ((rd_T95 l0_1 x7_2).f0)] (by rfl) rfl rfl (by (try simp only [List.map_toArray, List.map_cons, List.map_nil]); first | done | rfl | (simp only [List.length_drop, List.length_take]; rfl)) ?_
                   with_reducible refine (spec_l2Find.calls _ _ l0_0 _ _ l0_1 ((rd_T95 l0_1 x7_2).f0) t156 _ ?side1 ?side2 ?side3 ?side4 A13.out).mono ?_
                   (case side1 => exact cz_ (Kd.C_below HR0_0.out HB.out))
                   (case side2 => exact HC0_0.out)
                   (case side3 => exact cz_ (Kd.C_below HR0_1.out HB.out))
                   (case side4 => exact HC0_1.out)
                   rintro e w34 ⟨rfl, hb⟩
                   refine ⟨_, rfl, ?_⟩
                   have n0_ := Aside0.mk (Kd.R_below (rz_ HO_5.out) hb)
                   have n1_ := Aside0.mk (blk_below (bz_ BK151.out) hb)
                   have n2_ := Aside0.mk (below_step (by repeat (first | (with_reducible first | exact HB.out | apply below_alloc | apply pw_below_drewN | apply below_drew1 | refine below_set ?_ GE151.out) | exact HB.out)) hb)
                   clear HO_5
                   clear BK151
                   clear HB
                   have HO_5 := n0_
                   have BK151 := n1_
                   have HB := n2_
                   clear n0_ n1_ n2_
                   (try clear hb)
                   (try clear hb2)
                   (try clear hk)
                   (try clear hi)
                   refine hK.out _ _ ⟨(blk_cell BK151.out 0).trans rfl, (blk_cell BK151.out 1).trans rfl, ((HB.out.cell (World.block_lt_of_cell? w _ hw155_0)).trans hw155_0), ((HB.out.cell (World.block_lt_of_cell? w _ hw155_1)).trans hw155_1), ((HB.out.cell (World.block_lt_of_cell? w _ hw157_0)).trans hw157_0), ((HB.out.cell (World.block_lt_of_cell? w _ hw157_1)).trans hw157_1)⟩ (fun hHeld => ?_)
                   clear hK K
                   refine norm_ (a' := ?_) ?_ ?_
                   rotate_left
                   ·show Act.put _ (some 34) _ = _
                    simp only [Act.put, List.setIfInBounds_toArray, List.set_cons_zero, List.set_cons_succ, i64_w, i32_w]
                    rfl
                   refine one_ (i := 15) (N := some 42) (bl 16 18) rfl rfl (one_of HT_.out (by kernel_rfl)) (by decide) (fun K hK => ?_)
                   refine goes_ Try.func61 (by kernel_rfl) rfl #[.agg #[.slice A0_0 l0_0.length c0_0, .slice (some ad155) l0_1.length c0_1], .int .i64 ((rd_T95 l0_1 x7_2).f1)] (by rfl) rfl rfl (by (try simp only [List.map_toArray, List.map_cons, List.map_nil]); first | done | rfl | (simp only [List.length_drop, List.length_take]; rfl)) ?_
                   with_reducible refine (spec_l2Find.calls _ _ l0_0 _ _ l0_1 ((rd_T95 l0_1 x7_2).f1) t158 _ ?side1 ?side2 ?side3 ?side4 A14.out).mono ?_
                   (case side1 => exact cz_ (Kd.C_below HR0_0.out HB.out))
                   (case side2 => exact HC0_0.out)
                   (case side3 => exact cz_ (Kd.C_below HR0_1.out HB.out))
                   (case side4 => exact HC0_1.out)
                   rintro e w35 ⟨rfl, hb⟩
                   refine ⟨_, rfl, ?_⟩
                   have n0_ := Aside0.mk (Kd.R_below (rz_ HO_5.out) hb)
                   have n1_ := Aside0.mk (blk_below (bz_ BK151.out) hb)
                   have n2_ := Aside0.mk (below_step (by repeat (first | (with_reducible first | exact HB.out | apply below_alloc | apply pw_below_drewN | apply below_drew1 | refine below_set ?_ GE151.out) | exact HB.out)) hb)
                   clear HO_5
                   clear BK151
                   clear HB
                   have HO_5 := n0_
                   have BK151 := n1_
                   have HB := n2_
                   clear n0_ n1_ n2_
                   (try clear hb)
                   (try clear hb2)
                   (try clear hk)
                   (try clear hi)
                   refine hK.out _ _ ⟨(blk_cell BK151.out 0).trans rfl, (blk_cell BK151.out 1).trans rfl, ((HB.out.cell (World.block_lt_of_cell? w _ hw155_0)).trans hw155_0), ((HB.out.cell (World.block_lt_of_cell? w _ hw155_1)).trans hw155_1), ((HB.out.cell (World.block_lt_of_cell? w _ hw157_0)).trans hw157_0), ((HB.out.cell (World.block_lt_of_cell? w _ hw157_1)).trans hw157_1)⟩ (fun hHeld => ?_)
                   clear hK K
                   refine norm_ (a' := ?_) ?_ ?_
                   rotate_left
                   ·show Act.put _ (some 42) _ = _
                    simp only [Act.put, List.setIfInBounds_toArray, List.set_cons_zero, List.set_cons_succ, i64_w, i32_w]
                    rfl
                   refine pA_ 16 (some 8) (bl 17 18) HT_.out (h := ?_)
                   refine pA_ 17 (some 9) (bl 18 18) HT_.out (h := ?_)
                   refine done_ (done_of HT_.out (by kernel_rfl)) ?_
                   have p159 : 0 ≤ (t156 : Int) := of_decide_eq_true (by first | (with_reducible assumption) | assumption)
                   have q159 : t156 < (x5_2.length : Int) := of_decide_eq_true (by first | (with_reducible assumption) | assumption)
                   obtain ⟨ad159, e159, hx159_0⟩ := Kd.at_int (Kd.R_reads' HO_5.out).2.2 t156 p159 q159
                   cases e159
                   replace p159 := eq_true p159
                   replace q159 := eq_true q159
                   have p161 : 0 ≤ (t158 : Int) := of_decide_eq_true (by first | (with_reducible assumption) | assumption)
                   have q161 : t158 < (x5_2.length : Int) := of_decide_eq_true (by first | (with_reducible assumption) | assumption)
                   obtain ⟨ad161, e161, hx161_0⟩ := Kd.at_int (Kd.R_reads' HO_5.out).2.2 t158 p161 q161
                   obtain rfl : ad159 = ad161 := (by injection e161)
                   replace p161 := eq_true p161
                   replace q161 := eq_true q161
                   have p31 : 0 ≤ (t156 : Int) := of_decide_eq_true (by first | (with_reducible assumption) | assumption)
                   have q31 : (t156 : Int) < ((x5_2.length : Int) : Int) := of_decide_eq_true (by first | (with_reducible assumption) | assumption)
                   obtain ⟨go31, co31, eo31, gb31, gl31, cl31, HG31⟩ := Kd.R_form HO_5.out (by omega)
                   (first | cases eo31 | (injection eo31 with ea_ en_ ec_; (first | subst ea_ | (injection ea_ with ea_; subst ea_)); subst ec_; clear en_))
                   have GB31 := Aside0.mk gb31
                   have GG31 := Aside0.mk HG31
                   clear gb31 gl31 HG31
                   (first | simp only [add_plain] at hx159_0 | skip)
                   (first | simp only [add_plain] at hx161_0 | skip)
                   obtain ⟨hx31_0, hf31_0⟩ := Kd.R_celln 0 HO_5.out (t156 : Int) p31 q31
                   replace p31 := eq_true p31
                   replace q31 := eq_true q31
                   obtain ⟨hy36_, hz36_⟩ := Kd.R_celln 0 HO_5.out (t156 : Int) (of_decide_eq_true (by first | (with_reducible assumption) | assumption)) (of_decide_eq_true (by first | (with_reducible assumption) | assumption))
                   have HP36 := Kd.R_putg HO_5.out (t156 : Int) x6_1
                   try go_wp2_with (first | ((with_reducible refine gate_store (t := 3) (p := 73) rfl ?_); refine store_event (t := 3) (p := 73) (v := ?vo_w37) (w1 := (w35.setCell ⟨go31, (t156 : Int).toNat, none⟩ (.int .i64 x6_1))) ?hg ?ho ?hn ?hr ?_; (case ho => rfl); (case hg => rfl); (case hn => rfl); (case hr => first | (go_simp; done) | (go_simp; rfl)); intro w37 hw; have hg : w35.grownBy w37 (some go31) := (by rw [hw]; exact HP36.2); have hp_ : Kd.R (Kd.int .i64) 3 w37 w.heap.size (fun _ => True) (.slice (some ⟨go31, 0, none⟩) x5_2.length co10) y162 := (by rw [hw, Ny162.out]; exact HP36.1); clear HP36; have n0_ := Aside0.mk (hp_); have n1_ := Aside0.mk (blk_grown (g := gb151) (o := .cells #[.slice A0_0 l0_0.length c0_0, .slice (some ad155) l0_1.length c0_1] 33 (0, 0)) (bz_ BK151.out) hg (Kd.R_ne HO_5.out BK151.out (by decide))); have n2_ := Aside0.mk ((by rw [hw]; exact below_set (HB.out) GB31.out : Below w.heap.size w w37)); clear HO_5; clear BK151; clear HB; have HO_5 := n0_; have BK151 := n1_; have HB := n2_; clear n0_ n1_ n2_; clear hg hw hp_))
                   (try simp only [← hl5_2])
                   go_roundg k2
                   case measure => have := HK1.out; have := HK2.out; omega
                   case rel => exact ⟨(y162), (wrap64 (x7_2 + 1)), (by first | rfl | (simp; done) | (simp [*]; done)), H', ⟨by have := HK1.out; have := HK2.out; omega⟩, ⟨by (try simp only [hl5_2]); (with_reducible repeat (first | apply Kd.R_alloc | apply Kd.R_drewN | apply Kd.R_drew)); exact HO_5.out⟩, ⟨by (try simp only [hl5_2]); (with_reducible repeat (first | refine blk_drewN ?_ _ | refine blk_drew ?_ | refine blk_alloc ?_ _)); exact BK151.out⟩, ⟨by repeat (first | (with_reducible first | exact HB.out | apply below_alloc | apply pw_below_drewN | apply below_drew1 | refine below_set ?_ GE151.out) | exact HB.out)⟩⟩
                  ·rw [if_neg c30] at H
                   have c30b0 : ((rd x5_2 t158) == (wrap64 (x6_1 - 1))) = false := beq_eq_false_iff_ne.mpr c30
                   have c30b1 : ((rd x5_2 t158) != (wrap64 (x6_1 - 1))) = true := bne_iff_ne.mpr c30
                   have H' := Aside0.mk H
                   clear H
                   have hcz38_0 : wr.cell? ⟨gb151, 0, none⟩ = some (.slice A0_0 l0_0.length c0_0) := (blk_cell BK151.out 0).trans rfl
                   have hcz38_1 : wr.cell? ⟨gb151, 1, none⟩ = some (.slice A0_1 l0_1.length c0_1) := (blk_cell BK151.out 1).trans rfl
                   have hfz38_0 := blk_frozen BK151.out 0
                   have hfz38_1 := blk_frozen BK151.out 1
                   try go_wp2
                   have n0_ := Aside0.mk (Kd.R_drew HO_5.out)
                   have n1_ := Aside0.mk (blk_drew BK151.out)
                   have n2_ := Aside0.mk (below_drew1 HB.out)
                   clear HO_5
                   clear BK151
                   clear HB
                   have HO_5 := n0_
                   have BK151 := n1_
                   have HB := n2_
                   clear n0_ n1_ n2_
                   have p155 : 0 ≤ (x7_2 : Int) := of_decide_eq_true (by first | (with_reducible assumption) | assumption)
                   have q155 : x7_2 < (l0_1.length : Int) := of_decide_eq_true (by first | (with_reducible assumption) | assumption)
                   obtain ⟨ad155, e155, hx155_0, hx155_1⟩ := at_T95 HR0_1.out x7_2 p155 q155
                   have hw155_1 := hx155_1
                   have hw155_0 := hx155_0
                   cases e155
                   replace hx155_0 := (HB.out.cell (World.block_lt_of_cell? w _ hx155_0)).trans hx155_0
                   replace hx155_1 := (HB.out.cell (World.block_lt_of_cell? w _ hx155_1)).trans hx155_1
                   replace p155 := eq_true p155
                   replace q155 := eq_true q155
                   have p157 : 0 ≤ (x7_2 : Int) := of_decide_eq_true (by first | (with_reducible assumption) | assumption)
                   have q157 : x7_2 < (l0_1.length : Int) := of_decide_eq_true (by first | (with_reducible assumption) | assumption)
                   obtain ⟨ad157, e157, hx157_0, hx157_1⟩ := at_T95 HR0_1.out x7_2 p157 q157
                   have hw157_1 := hx157_1
                   have hw157_0 := hx157_0
                   obtain rfl : ad155 = ad157 := (by injection e157)
                   replace hx157_0 := (HB.out.cell (World.block_lt_of_cell? w _ hx157_0)).trans hx157_0
                   replace hx157_1 := (HB.out.cell (World.block_lt_of_cell? w _ hx157_1)).trans hx157_1
                   replace p157 := eq_true p157
                   replace q157 := eq_true q157
                   refine start_ (n := 18) (S := fun w' => w'.cell? ⟨gb151, 0, none⟩ = some (.slice A0_0 l0_0.length c0_0) ∧ w'.cell? ⟨gb151, 1, none⟩ = some (.slice (some ad155) l0_1.length c0_1) ∧ w'.cell? (ad155.add ((x7_2).toNat * 2)) = some (.int .i64 ((rd_T95 l0_1 x7_2).f0)) ∧ w'.cell? ⟨(ad155.add ((x7_2).toNat * 2)).block, (ad155.add ((x7_2).toNat * 2)).off + 1, none⟩ = some (.int .i64 ((rd_T95 l0_1 x7_2).f1)) ∧ w'.cell? (ad155.add ((x7_2).toNat * 2)) = some (.int .i64 ((rd_T95 l0_1 x7_2).f0)) ∧ w'.cell? ⟨(ad155.add ((x7_2).toNat * 2)).block, (ad155.add ((x7_2).toNat * 2)).off + 1, none⟩ = some (.int .i64 ((rd_T95 l0_1 x7_2).f1))) (ds := []) #[false, false, false, false, false, false, false, false, false, false, false, false, false, false, false, false, false, false] (by kernel_rfl) rfl rfl ⟨(blk_cell BK151.out 0).trans rfl, (blk_cell BK151.out 1).trans rfl, ((HB.out.cell (World.block_lt_of_cell? w _ hw155_0)).trans hw155_0), ((HB.out.cell (World.block_lt_of_cell? w _ hw155_1)).trans hw155_1), ((HB.out.cell (World.block_lt_of_cell? w _ hw157_0)).trans hw157_0), ((HB.out.cell (World.block_lt_of_cell? w _ hw157_1)).trans hw157_1)⟩ (fun hHeld => ?_); refine with_tabW spec_l4Steps.tab8 spec_l4Steps.bits8 (fun HT_ HW_ => ?_)
                   generalize wr.drew = w39 at HO_5 BK151 HB hx155_0 hx155_1 hx157_0 hx157_1 hHeld ⊢
                   refine pA_ 1 (some 28) #[false, true, false, false, false, false, false, false, false, false, false, false, false, false, false, false, false, false] HT_.out (h := ?_)
                   refine pA_ 3 (some 30) #[false, true, false, true, false, false, false, false, false, false, false, false, false, false, false, false, false, false] HT_.out (h := ?_)
                   refine pA_ 9 (some 36) #[false, true, false, true, false, false, false, false, false, true, false, false, false, false, false, false, false, false] HT_.out (h := ?_)
                   refine pA_ 11 (some 38) #[false, true, false, true, false, false, false, false, false, true, false, true, false, false, false, false, false, false] HT_.out (h := ?_)
                   refine tA_ 0 (some 27) #[true, true, false, true, false, false, false, false, false, true, false, true, false, false, false, false, false, false] HT_.out HW_.out hHeld (h := ?_)
                   refine tA_ 2 (some 29) #[true, true, true, true, false, false, false, false, false, true, false, true, false, false, false, false, false, false] HT_.out HW_.out hHeld (h := ?_)
                   refine pA_ 4 (some 31) #[true, true, true, true, true, false, false, false, false, true, false, true, false, false, false, false, false, false] HT_.out (h := ?_)
                   refine pA_ 5 (some 32) #[true, true, true, true, true, true, false, false, false, true, false, true, false, false, false, false, false, false] HT_.out (h := ?_)
                   refine tA_ 6 (some 33) #[true, true, true, true, true, true, true, false, false, true, false, true, false, false, false, false, false, false] HT_.out HW_.out hHeld (h := ?_)
                   refine tA_ 8 (some 35) #[true, true, true, true, true, true, true, false, true, true, false, true, false, false, false, false, false, false] HT_.out HW_.out hHeld (h := ?_)
                   refine tA_ 10 (some 37) #[true, true, true, true, true, true, true, false, true, true, true, true, false, false, false, false, false, false] HT_.out HW_.out hHeld (h := ?_)
                   refine pA_ 12 (some 39) #[true, true, true, true, true, true, true, false, true, true, true, true, true, false, false, false, false, false] HT_.out (h := ?_)
                   refine pA_ 13 (some 40) #[true, true, true, true, true, true, true, false, true, true, true, true, true, true, false, false, false, false] HT_.out (h := ?_)
                   refine tA_ 14 (some 41) #[true, true, true, true, true, true, true, false, true, true, true, true, true, true, true, false, false, false] HT_.out HW_.out hHeld (h := ?_)
                   refine one_ (i := 7) (N := some 34) (bl 15 18) rfl rfl (one_of HT_.out (by kernel_rfl)) (by decide) (fun K hK => ?_)
                   refine goes_ Try.func61 (by kernel_rfl) rfl #[.agg #[.slice A0_0 l0_0.length c0_0, .slice (some ad155) l0_1.length c0_1], .int .i64 ((rd_T95 l0_1 x7_2).f0)] (by rfl) rfl rfl (by (try simp only [List.map_toArray, List.map_cons, List.map_nil]); first | done | rfl | (simp only [List.length_drop, List.length_take]; rfl)) ?_
                   with_reducible refine (spec_l2Find.calls _ _ l0_0 _ _ l0_1 ((rd_T95 l0_1 x7_2).f0) t156 _ ?side1 ?side2 ?side3 ?side4 A13.out).mono ?_
                   (case side1 => exact cz_ (Kd.C_below HR0_0.out HB.out))
                   (case side2 => exact HC0_0.out)
                   (case side3 => exact cz_ (Kd.C_below HR0_1.out HB.out))
                   (case side4 => exact HC0_1.out)
                   rintro e w40 ⟨rfl, hb⟩
                   refine ⟨_, rfl, ?_⟩
                   have n0_ := Aside0.mk (Kd.R_below (rz_ HO_5.out) hb)
                   have n1_ := Aside0.mk (blk_below (bz_ BK151.out) hb)
                   have n2_ := Aside0.mk (below_step (by repeat (first | (with_reducible first | exact HB.out | apply below_alloc | apply pw_below_drewN | apply below_drew1 | refine below_set ?_ GE151.out) | exact HB.out)) hb)
                   clear HO_5
                   clear BK151
                   clear HB
                   have HO_5 := n0_
                   have BK151 := n1_
                   have HB := n2_
                   clear n0_ n1_ n2_
                   (try clear hb)
                   (try clear hb2)
                   (try clear hk)
                   (try clear hi)
                   refine hK.out _ _ ⟨(blk_cell BK151.out 0).trans rfl, (blk_cell BK151.out 1).trans rfl, ((HB.out.cell (World.block_lt_of_cell? w _ hw155_0)).trans hw155_0), ((HB.out.cell (World.block_lt_of_cell? w _ hw155_1)).trans hw155_1), ((HB.out.cell (World.block_lt_of_cell? w _ hw157_0)).trans hw157_0), ((HB.out.cell (World.block_lt_of_cell? w _ hw157_1)).trans hw157_1)⟩ (fun hHeld => ?_)
                   clear hK K
                   refine norm_ (a' := ?_) ?_ ?_
                   rotate_left
                   ·show Act.put _ (some 34) _ = _
                    simp only [Act.put, List.setIfInBounds_toArray, List.set_cons_zero, List.set_cons_succ, i64_w, i32_w]
                    rfl
                   refine one_ (i := 15) (N := some 42) (bl 16 18) rfl rfl (one_of HT_.out (by kernel_rfl)) (by decide) (fun K hK => ?_)
                   refine goes_ Try.func61 (by kernel_rfl) rfl #[.agg #[.slice A0_0 l0_0.length c0_0, .slice (some ad155) l0_1.length c0_1], .int .i64 ((rd_T95 l0_1 x7_2).f1)] (by rfl) rfl rfl (by (try simp only [List.map_toArray, List.map_cons, List.map_nil]); first | done | rfl | (simp only [List.length_drop, List.length_take]; rfl)) ?_
                   with_reducible refine (spec_l2Find.calls _ _ l0_0 _ _ l0_1 ((rd_T95 l0_1 x7_2).f1) t158 _ ?side1 ?side2 ?side3 ?side4 A14.out).mono ?_
                   (case side1 => exact cz_ (Kd.C_below HR0_0.out HB.out))
                   (case side2 => exact HC0_0.out)
                   (case side3 => exact cz_ (Kd.C_below HR0_1.out HB.out))
                   (case side4 => exact HC0_1.out)
                   rintro e w41 ⟨rfl, hb⟩
                   refine ⟨_, rfl, ?_⟩
                   have n0_ := Aside0.mk (Kd.R_below (rz_ HO_5.out) hb)
                   have n1_ := Aside0.mk (blk_below (bz_ BK151.out) hb)
                   have n2_ := Aside0.mk (below_step (by repeat (first | (with_reducible first | exact HB.out | apply below_alloc | apply pw_below_drewN | apply below_drew1 | refine below_set ?_ GE151.out) | exact HB.out)) hb)
                   clear HO_5
                   clear BK151
                   clear HB
                   have HO_5 := n0_
                   have BK151 := n1_
                   have HB := n2_
                   clear n0_ n1_ n2_
                   (try clear hb)
                   (try clear hb2)
                   (try clear hk)
                   (try clear hi)
                   refine hK.out _ _ ⟨(blk_cell BK151.out 0).trans rfl, (blk_cell BK151.out 1).trans rfl, ((HB.out.cell (World.block_lt_of_cell? w _ hw155_0)).trans hw155_0), ((HB.out.cell (World.block_lt_of_cell? w _ hw155_1)).trans hw155_1), ((HB.out.cell (World.block_lt_of_cell? w _ hw157_0)).trans hw157_0), ((HB.out.cell (World.block_lt_of_cell? w _ hw157_1)).trans hw157_1)⟩ (fun hHeld => ?_)
                   clear hK K
                   refine norm_ (a' := ?_) ?_ ?_
                   rotate_left
                   ·show Act.put _ (some 42) _ = _
                    simp only [Act.put, List.setIfInBounds_toArray, List.set_cons_zero, List.set_cons_succ, i64_w, i32_w]
                    rfl
                   refine pA_ 16 (some 8) (bl 17 18) HT_.out (h := ?_)
                   refine pA_ 17 (some 9) (bl 18 18) HT_.out (h := ?_)
                   refine done_ (done_of HT_.out (by kernel_rfl)) ?_
                   have p159 : 0 ≤ (t156 : Int) := of_decide_eq_true (by first | (with_reducible assumption) | assumption)
                   have q159 : t156 < (x5_2.length : Int) := of_decide_eq_true (by first | (with_reducible assumption) | assumption)
                   obtain ⟨ad159, e159, hx159_0⟩ := Kd.at_int (Kd.R_reads' HO_5.out).2.2 t156 p159 q159
                   cases e159
                   replace p159 := eq_true p159
                   replace q159 := eq_true q159
                   have p161 : 0 ≤ (t158 : Int) := of_decide_eq_true (by first | (with_reducible assumption) | assumption)
                   have q161 : t158 < (x5_2.length : Int) := of_decide_eq_true (by first | (with_reducible assumption) | assumption)
                   obtain ⟨ad161, e161, hx161_0⟩ := Kd.at_int (Kd.R_reads' HO_5.out).2.2 t158 p161 q161
                   obtain rfl : ad159 = ad161 := (by injection e161)
                   replace p161 := eq_true p161
                   replace q161 := eq_true q161
                   try go_wp2
                   (try simp only [← hl5_2])
                   go_roundg k2
                   case measure => have := HK1.out; have := HK2.out; omega
                   case rel => exact ⟨(x5_2), (wrap64 (x7_2 + 1)), (by first | rfl | (simp; done) | (simp [*]; done)), H', ⟨by have := HK1.out; have := HK2.out; omega⟩, ⟨by (try simp only [hl5_2]); (with_reducible repeat (first | apply Kd.R_alloc | apply Kd.R_drewN | apply Kd.R_drew)); exact HO_5.out⟩, ⟨by (try simp only [hl5_2]); (with_reducible repeat (first | refine blk_drewN ?_ _ | refine blk_drew ?_ | refine blk_alloc ?_ _)); exact BK151.out⟩, ⟨by repeat (first | (with_reducible first | exact HB.out | apply below_alloc | apply pw_below_drewN | apply below_drew1 | refine below_set ?_ GE151.out) | exact HB.out)⟩⟩
                 ·rw [if_neg c29] at H
                  exact absurd H (by simp)
                ·rw [if_neg c28] at H
                 exact absurd H (by simp)
               ·rw [if_neg c27] at H
                have c27b0 : decide (1 < x6_1) = false := decide_eq_false c27
                clear c27
                have H' := Aside0.mk H
                clear H
                have hcz42_0 : wr.cell? ⟨gb151, 0, none⟩ = some (.slice A0_0 l0_0.length c0_0) := (blk_cell BK151.out 0).trans rfl
                have hcz42_1 : wr.cell? ⟨gb151, 1, none⟩ = some (.slice A0_1 l0_1.length c0_1) := (blk_cell BK151.out 1).trans rfl
                have hfz42_0 := blk_frozen BK151.out 0
                have hfz42_1 := blk_frozen BK151.out 1
                try go_wp2
                have n0_ := Aside0.mk (Kd.R_drew HO_5.out)
                have n1_ := Aside0.mk (blk_drew BK151.out)
                have n2_ := Aside0.mk (below_drew1 HB.out)
                clear HO_5
                clear BK151
                clear HB
                have HO_5 := n0_
                have BK151 := n1_
                have HB := n2_
                clear n0_ n1_ n2_
                have p155 : 0 ≤ (x7_2 : Int) := of_decide_eq_true (by first | (with_reducible assumption) | assumption)
                have q155 : x7_2 < (l0_1.length : Int) := of_decide_eq_true (by first | (with_reducible assumption) | assumption)
                obtain ⟨ad155, e155, hx155_0, hx155_1⟩ := at_T95 HR0_1.out x7_2 p155 q155
                have hw155_1 := hx155_1
                have hw155_0 := hx155_0
                cases e155
                replace hx155_0 := (HB.out.cell (World.block_lt_of_cell? w _ hx155_0)).trans hx155_0
                replace hx155_1 := (HB.out.cell (World.block_lt_of_cell? w _ hx155_1)).trans hx155_1
                replace p155 := eq_true p155
                replace q155 := eq_true q155
                have p157 : 0 ≤ (x7_2 : Int) := of_decide_eq_true (by first | (with_reducible assumption) | assumption)
                have q157 : x7_2 < (l0_1.length : Int) := of_decide_eq_true (by first | (with_reducible assumption) | assumption)
                obtain ⟨ad157, e157, hx157_0, hx157_1⟩ := at_T95 HR0_1.out x7_2 p157 q157
                have hw157_1 := hx157_1
                have hw157_0 := hx157_0
                obtain rfl : ad155 = ad157 := (by injection e157)
                replace hx157_0 := (HB.out.cell (World.block_lt_of_cell? w _ hx157_0)).trans hx157_0
                replace hx157_1 := (HB.out.cell (World.block_lt_of_cell? w _ hx157_1)).trans hx157_1
                replace p157 := eq_true p157
                replace q157 := eq_true q157
                refine start_ (n := 18) (S := fun w' => w'.cell? ⟨gb151, 0, none⟩ = some (.slice A0_0 l0_0.length c0_0) ∧ w'.cell? ⟨gb151, 1, none⟩ = some (.slice (some ad155) l0_1.length c0_1) ∧ w'.cell? (ad155.add ((x7_2).toNat * 2)) = some (.int .i64 ((rd_T95 l0_1 x7_2).f0)) ∧ w'.cell? ⟨(ad155.add ((x7_2).toNat * 2)).block, (ad155.add ((x7_2).toNat * 2)).off + 1, none⟩ = some (.int .i64 ((rd_T95 l0_1 x7_2).f1)) ∧ w'.cell? (ad155.add ((x7_2).toNat * 2)) = some (.int .i64 ((rd_T95 l0_1 x7_2).f0)) ∧ w'.cell? ⟨(ad155.add ((x7_2).toNat * 2)).block, (ad155.add ((x7_2).toNat * 2)).off + 1, none⟩ = some (.int .i64 ((rd_T95 l0_1 x7_2).f1))) (ds := []) #[false, false, false, false, false, false, false, false, false, false, false, false, false, false, false, false, false, false] (by kernel_rfl) rfl rfl ⟨(blk_cell BK151.out 0).trans rfl, (blk_cell BK151.out 1).trans rfl, ((HB.out.cell (World.block_lt_of_cell? w _ hw155_0)).trans hw155_0), ((HB.out.cell (World.block_lt_of_cell? w _ hw155_1)).trans hw155_1), ((HB.out.cell (World.block_lt_of_cell? w _ hw157_0)).trans hw157_0), ((HB.out.cell (World.block_lt_of_cell? w _ hw157_1)).trans hw157_1)⟩ (fun hHeld => ?_); refine with_tabW spec_l4Steps.tab8 spec_l4Steps.bits8 (fun HT_ HW_ => ?_)
                generalize wr.drew = w43 at HO_5 BK151 HB hx155_0 hx155_1 hx157_0 hx157_1 hHeld ⊢
                refine pA_ 1 (some 28) #[false, true, false, false, false, false, false, false, false, false, false, false, false, false, false, false, false, false] HT_.out (h := ?_)
                refine pA_ 3 (some 30) #[false, true, false, true, false, false, false, false, false, false, false, false, false, false, false, false, false, false] HT_.out (h := ?_)
                refine pA_ 9 (some 36) #[false, true, false, true, false, false, false, false, false, true, false, false, false, false, false, false, false, false] HT_.out (h := ?_)
                refine pA_ 11 (some 38) #[false, true, false, true, false, false, false, false, false, true, false, true, false, false, false, false, false, false] HT_.out (h := ?_)
                refine tA_ 0 (some 27) #[true, true, false, true, false, false, false, false, false, true, false, true, false, false, false, false, false, false] HT_.out HW_.out hHeld (h := ?_)
                refine tA_ 2 (some 29) #[true, true, true, true, false, false, false, false, false, true, false, true, false, false, false, false, false, false] HT_.out HW_.out hHeld (h := ?_)
                refine pA_ 4 (some 31) #[true, true, true, true, true, false, false, false, false, true, false, true, false, false, false, false, false, false] HT_.out (h := ?_)
                refine pA_ 5 (some 32) #[true, true, true, true, true, true, false, false, false, true, false, true, false, false, false, false, false, false] HT_.out (h := ?_)
                refine tA_ 6 (some 33) #[true, true, true, true, true, true, true, false, false, true, false, true, false, false, false, false, false, false] HT_.out HW_.out hHeld (h := ?_)
                refine tA_ 8 (some 35) #[true, true, true, true, true, true, true, false, true, true, false, true, false, false, false, false, false, false] HT_.out HW_.out hHeld (h := ?_)
                refine tA_ 10 (some 37) #[true, true, true, true, true, true, true, false, true, true, true, true, false, false, false, false, false, false] HT_.out HW_.out hHeld (h := ?_)
                refine pA_ 12 (some 39) #[true, true, true, true, true, true, true, false, true, true, true, true, true, false, false, false, false, false] HT_.out (h := ?_)
                refine pA_ 13 (some 40) #[true, true, true, true, true, true, true, false, true, true, true, true, true, true, false, false, false, false] HT_.out (h := ?_)
                refine tA_ 14 (some 41) #[true, true, true, true, true, true, true, false, true, true, true, true, true, true, true, false, false, false] HT_.out HW_.out hHeld (h := ?_)
                refine one_ (i := 7) (N := some 34) (bl 15 18) rfl rfl (one_of HT_.out (by kernel_rfl)) (by decide) (fun K hK => ?_)
                refine goes_ Try.func61 (by kernel_rfl) rfl #[.agg #[.slice A0_0 l0_0.length c0_0, .slice (some ad155) l0_1.length c0_1], .int .i64 ((rd_T95 l0_1 x7_2).f0)] (by rfl) rfl rfl (by (try simp only [List.map_toArray, List.map_cons, List.map_nil]); first | done | rfl | (simp only [List.length_drop, List.length_take]; rfl)) ?_
                with_reducible refine (spec_l2Find.calls _ _ l0_0 _ _ l0_1 ((rd_T95 l0_1 x7_2).f0) t156 _ ?side1 ?side2 ?side3 ?side4 A13.out).mono ?_
                (case side1 => exact cz_ (Kd.C_below HR0_0.out HB.out))
                (case side2 => exact HC0_0.out)
                (case side3 => exact cz_ (Kd.C_below HR0_1.out HB.out))
                (case side4 => exact HC0_1.out)
                rintro e w44 ⟨rfl, hb⟩
                refine ⟨_, rfl, ?_⟩
                have n0_ := Aside0.mk (Kd.R_below (rz_ HO_5.out) hb)
                have n1_ := Aside0.mk (blk_below (bz_ BK151.out) hb)
                have n2_ := Aside0.mk (below_step (by repeat (first | (with_reducible first | exact HB.out | apply below_alloc | apply pw_below_drewN | apply below_drew1 | refine below_set ?_ GE151.out) | exact HB.out)) hb)
                clear HO_5
                clear BK151
                clear HB
                have HO_5 := n0_
                have BK151 := n1_
                have HB := n2_
                clear n0_ n1_ n2_
                (try clear hb)
                (try clear hb2)
                (try clear hk)
                (try clear hi)
                refine hK.out _ _ ⟨(blk_cell BK151.out 0).trans rfl, (blk_cell BK151.out 1).trans rfl, ((HB.out.cell (World.block_lt_of_cell? w _ hw155_0)).trans hw155_0), ((HB.out.cell (World.block_lt_of_cell? w _ hw155_1)).trans hw155_1), ((HB.out.cell (World.block_lt_of_cell? w _ hw157_0)).trans hw157_0), ((HB.out.cell (World.block_lt_of_cell? w _ hw157_1)).trans hw157_1)⟩ (fun hHeld => ?_)
                clear hK K
                refine norm_ (a' := ?_) ?_ ?_
                rotate_left
                ·show Act.put _ (some 34) _ = _
                 simp only [Act.put, List.setIfInBounds_toArray, List.set_cons_zero, List.set_cons_succ, i64_w, i32_w]
                 rfl
                refine one_ (i := 15) (N := some 42) (bl 16 18) rfl rfl (one_of HT_.out (by kernel_rfl)) (by decide) (fun K hK => ?_)
                refine goes_ Try.func61 (by kernel_rfl) rfl #[.agg #[.slice A0_0 l0_0.length c0_0, .slice (some ad155) l0_1.length c0_1], .int .i64 ((rd_T95 l0_1 x7_2).f1)] (by rfl) rfl rfl (by (try simp only [List.map_toArray, List.map_cons, List.map_nil]); first | done | rfl | (simp only [List.length_drop, List.length_take]; rfl)) ?_
                with_reducible refine (spec_l2Find.calls _ _ l0_0 _ _ l0_1 ((rd_T95 l0_1 x7_2).f1) t158 _ ?side1 ?side2 ?side3 ?side4 A14.out).mono ?_
                (case side1 => exact cz_ (Kd.C_below HR0_0.out HB.out))
                (case side2 => exact HC0_0.out)
                (case side3 => exact cz_ (Kd.C_below HR0_1.out HB.out))
                (case side4 => exact HC0_1.out)
                rintro e w45 ⟨rfl, hb⟩
                refine ⟨_, rfl, ?_⟩
                have n0_ := Aside0.mk (Kd.R_below (rz_ HO_5.out) hb)
                have n1_ := Aside0.mk (blk_below (bz_ BK151.out) hb)
                have n2_ := Aside0.mk (below_step (by repeat (first | (with_reducible first | exact HB.out | apply below_alloc | apply pw_below_drewN | apply below_drew1 | refine below_set ?_ GE151.out) | exact HB.out)) hb)
                clear HO_5
                clear BK151
                clear HB
                have HO_5 := n0_
                have BK151 := n1_
                have HB := n2_
                clear n0_ n1_ n2_
                (try clear hb)
                (try clear hb2)
                (try clear hk)
                (try clear hi)
                refine hK.out _ _ ⟨(blk_cell BK151.out 0).trans rfl, (blk_cell BK151.out 1).trans rfl, ((HB.out.cell (World.block_lt_of_cell? w _ hw155_0)).trans hw155_0), ((HB.out.cell (World.block_lt_of_cell? w _ hw155_1)).trans hw155_1), ((HB.out.cell (World.block_lt_of_cell? w _ hw157_0)).trans hw157_0), ((HB.out.cell (World.block_lt_of_cell? w _ hw157_1)).trans hw157_1)⟩ (fun hHeld => ?_)
                clear hK K
                refine norm_ (a' := ?_) ?_ ?_
                rotate_left
                ·show Act.put _ (some 42) _ = _
                 simp only [Act.put, List.setIfInBounds_toArray, List.set_cons_zero, List.set_cons_succ, i64_w, i32_w]
                 rfl
                refine pA_ 16 (some 8) (bl 17 18) HT_.out (h := ?_)
                refine pA_ 17 (some 9) (bl 18 18) HT_.out (h := ?_)
                refine done_ (done_of HT_.out (by kernel_rfl)) ?_
                have p159 : 0 ≤ (t156 : Int) := of_decide_eq_true (by first | (with_reducible assumption) | assumption)
                have q159 : t156 < (x5_2.length : Int) := of_decide_eq_true (by first | (with_reducible assumption) | assumption)
                obtain ⟨ad159, e159, hx159_0⟩ := Kd.at_int (Kd.R_reads' HO_5.out).2.2 t156 p159 q159
                cases e159
                replace p159 := eq_true p159
                replace q159 := eq_true q159
                try go_wp2
                (try simp only [← hl5_2])
                go_roundg k2
                case measure => have := HK1.out; have := HK2.out; omega
                case rel => exact ⟨(x5_2), (wrap64 (x7_2 + 1)), (by first | rfl | (simp; done) | (simp [*]; done)), H', ⟨by have := HK1.out; have := HK2.out; omega⟩, ⟨by (try simp only [hl5_2]); (with_reducible repeat (first | apply Kd.R_alloc | apply Kd.R_drewN | apply Kd.R_drew)); exact HO_5.out⟩, ⟨by (try simp only [hl5_2]); (with_reducible repeat (first | refine blk_drewN ?_ _ | refine blk_drew ?_ | refine blk_alloc ?_ _)); exact BK151.out⟩, ⟨by repeat (first | (with_reducible first | exact HB.out | apply below_alloc | apply pw_below_drewN | apply below_drew1 | refine below_set ?_ GE151.out) | exact HB.out)⟩⟩
             ·rw [if_neg c18] at H
              have c18b0 : (x6_1 == 1) = false := beq_eq_false_iff_ne.mpr c18
              have c18b1 : (x6_1 != 1) = true := bne_iff_ne.mpr c18
              by_cases c46 : x6_1 > 1
              ·rw [if_pos c46] at H
               have c46b0 : decide (1 < x6_1) = true := decide_eq_true c46
               clear c46
               by_cases c47 : 0 ≤ t158
               ·rw [if_pos c47] at H
                have c47b0 : decide (0 ≤ t158) = true := decide_eq_true c47
                clear c47
                by_cases c48 : t158 < (x5_2.length : Int)
                ·rw [if_pos c48] at H
                 have c48b0 : decide (t158 < (x5_2.length : Int)) = true := decide_eq_true c48
                 clear c48
                 by_cases c49 : (rd x5_2 t158) = (wrap64 (x6_1 - 1))
                 ·rw [if_pos c49] at H
                  have c49b0 : ((rd x5_2 t158) == (wrap64 (x6_1 - 1))) = true := beq_iff_eq.mpr c49
                  have c49b1 : ((rd x5_2 t158) != (wrap64 (x6_1 - 1))) = false := bne_eq_false_iff_eq.mpr c49
                  clear c49
                  obtain ⟨y164, hy164⟩ : ∃ y_ : List Int, y_ = (x5_2.set (t156 : Int).toNat x6_1) := ⟨_, rfl⟩
                  replace H : (spec_l4Steps.l1 k2 a1 y164 x6_1 (wrap64 (x7_2 + 1)) l0_0 l0_1) = some r := by first | (rw [hy164]; with_reducible exact H) | (have H2_ := (Option.bind_some _ _).symm.trans H; rw [hy164]; with_reducible exact H2_) | (have H2_ := (Option.bind_some _ _).symm.trans H; with_reducible exact H2_) | with_reducible exact H | (rw [hy164]; exact H) | exact H
                  have Ny164 := Aside0.mk hy164
                  clear hy164
                  have H' := Aside0.mk H
                  clear H
                  have hcz51_0 : wr.cell? ⟨gb151, 0, none⟩ = some (.slice A0_0 l0_0.length c0_0) := (blk_cell BK151.out 0).trans rfl
                  have hcz51_1 : wr.cell? ⟨gb151, 1, none⟩ = some (.slice A0_1 l0_1.length c0_1) := (blk_cell BK151.out 1).trans rfl
                  have hfz51_0 := blk_frozen BK151.out 0
                  have hfz51_1 := blk_frozen BK151.out 1
                  try go_wp2
                  have n0_ := Aside0.mk (Kd.R_drew HO_5.out)
                  have n1_ := Aside0.mk (blk_drew BK151.out)
                  have n2_ := Aside0.mk (below_drew1 HB.out)
                  clear HO_5
                  clear BK151
                  clear HB
                  have HO_5 := n0_
                  have BK151 := n1_
                  have HB := n2_
                  clear n0_ n1_ n2_
                  have p155 : 0 ≤ (x7_2 : Int) := of_decide_eq_true (by first | (with_reducible assumption) | assumption)
                  have q155 : x7_2 < (l0_1.length : Int) := of_decide_eq_true (by first | (with_reducible assumption) | assumption)
                  obtain ⟨ad155, e155, hx155_0, hx155_1⟩ := at_T95 HR0_1.out x7_2 p155 q155
                  have hw155_1 := hx155_1
                  have hw155_0 := hx155_0
                  cases e155
                  replace hx155_0 := (HB.out.cell (World.block_lt_of_cell? w _ hx155_0)).trans hx155_0
                  replace hx155_1 := (HB.out.cell (World.block_lt_of_cell? w _ hx155_1)).trans hx155_1
                  replace p155 := eq_true p155
                  replace q155 := eq_true q155
                  have p157 : 0 ≤ (x7_2 : Int) := of_decide_eq_true (by first | (with_reducible assumption) | assumption)
                  have q157 : x7_2 < (l0_1.length : Int) := of_decide_eq_true (by first | (with_reducible assumption) | assumption)
                  obtain ⟨ad157, e157, hx157_0, hx157_1⟩ := at_T95 HR0_1.out x7_2 p157 q157
                  have hw157_1 := hx157_1
                  have hw157_0 := hx157_0
                  obtain rfl : ad155 = ad157 := (by injection e157)
                  replace hx157_0 := (HB.out.cell (World.block_lt_of_cell? w _ hx157_0)).trans hx157_0
                  replace hx157_1 := (HB.out.cell (World.block_lt_of_cell? w _ hx157_1)).trans hx157_1
                  replace p157 := eq_true p157
                  replace q157 := eq_true q157
                  refine start_ (n := 18) (S := fun w' => w'.cell? ⟨gb151, 0, none⟩ = some (.slice A0_0 l0_0.length c0_0) ∧ w'.cell? ⟨gb151, 1, none⟩ = some (.slice (some ad155) l0_1.length c0_1) ∧ w'.cell? (ad155.add ((x7_2).toNat * 2)) = some (.int .i64 ((rd_T95 l0_1 x7_2).f0)) ∧ w'.cell? ⟨(ad155.add ((x7_2).toNat * 2)).block, (ad155.add ((x7_2).toNat * 2)).off + 1, none⟩ = some (.int .i64 ((rd_T95 l0_1 x7_2).f1)) ∧ w'.cell? (ad155.add ((x7_2).toNat * 2)) = some (.int .i64 ((rd_T95 l0_1 x7_2).f0)) ∧ w'.cell? ⟨(ad155.add ((x7_2).toNat * 2)).block, (ad155.add ((x7_2).toNat * 2)).off + 1, none⟩ = some (.int .i64 ((rd_T95 l0_1 x7_2).f1))) (ds := []) #[false, false, false, false, false, false, false, false, false, false, false, false, false, false, false, false, false, false] (by kernel_rfl) rfl rfl ⟨(blk_cell BK151.out 0).trans rfl, (blk_cell BK151.out 1).trans rfl, ((HB.out.cell (World.block_lt_of_cell? w _ hw155_0)).trans hw155_0), ((HB.out.cell (World.block_lt_of_cell? w _ hw155_1)).trans hw155_1), ((HB.out.cell (World.block_lt_of_cell? w _ hw157_0)).trans hw157_0), ((HB.out.cell (World.block_lt_of_cell? w _ hw157_1)).trans hw157_1)⟩ (fun hHeld => ?_); refine with_tabW spec_l4Steps.tab8 spec_l4Steps.bits8 (fun HT_ HW_ => ?_)
                  generalize wr.drew = w52 at HO_5 BK151 HB hx155_0 hx155_1 hx157_0 hx157_1 hHeld ⊢
                  refine pA_ 1 (some 28) #[false, true, false, false, false, false, false, false, false, false, false, false, false, false, false, false, false, false] HT_.out (h := ?_)
                  refine pA_ 3 (some 30) #[false, true, false, true, false, false, false, false, false, false, false, false, false, false, false, false, false, false] HT_.out (h := ?_)
                  refine pA_ 9 (some 36) #[false, true, false, true, false, false, false, false, false, true, false, false, false, false, false, false, false, false] HT_.out (h := ?_)
                  refine pA_ 11 (some 38) #[false, true, false, true, false, false, false, false, false, true, false, true, false, false, false, false, false, false] HT_.out (h := ?_)
                  refine tA_ 0 (some 27) #[true, true, false, true, false, false, false, false, false, true, false, true, false, false, false, false, false, false] HT_.out HW_.out hHeld (h := ?_)
                  refine tA_ 2 (some 29) #[true, true, true, true, false, false, false, false, false, true, false, true, false, false, false, false, false, false] HT_.out HW_.out hHeld (h := ?_)
                  refine pA_ 4 (some 31) #[true, true, true, true, true, false, false, false, false, true, false, true, false, false, false, false, false, false] HT_.out (h := ?_)
                  refine pA_ 5 (some 32) #[true, true, true, true, true, true, false, false, false, true, false, true, false, false, false, false, false, false] HT_.out (h := ?_)
                  refine tA_ 6 (some 33) #[true, true, true, true, true, true, true, false, false, true, false, true, false, false, false, false, false, false] HT_.out HW_.out hHeld (h := ?_)
                  refine tA_ 8 (some 35) #[true, true, true, true, true, true, true, false, true, true, false, true, false, false, false, false, false, false] HT_.out HW_.out hHeld (h := ?_)
                  refine tA_ 10 (some 37) #[true, true, true, true, true, true, true, false, true, true, true, true, false, false, false, false, false, false] HT_.out HW_.out hHeld (h := ?_)
                  refine pA_ 12 (some 39) #[true, true, true, true, true, true, true, false, true, true, true, true, true, false, false, false, false, false] HT_.out (h := ?_)
                  refine pA_ 13 (some 40) #[true, true, true, true, true, true, true, false, true, true, true, true, true, true, false, false, false, false] HT_.out (h := ?_)
                  refine tA_ 14 (some 41) #[true, true, true, true, true, true, true, false, true, true, true, true, true, true, true, false, false, false] HT_.out HW_.out hHeld (h := ?_)
                  refine one_ (i := 7) (N := some 34) (bl 15 18) rfl rfl (one_of HT_.out (by kernel_rfl)) (by decide) (fun K hK => ?_)
                  refine goes_ Try.func61 (by kernel_rfl) rfl #[.agg #[.slice A0_0 l0_0.length c0_0, .slice (some ad155) l0_1.length c0_1], .int .i64 ((rd_T95 l0_1 x7_2).f0)] (by rfl) rfl rfl (by (try simp only [List.map_toArray, List.map_cons, List.map_nil]); first | done | rfl | (simp only [List.length_drop, List.length_take]; rfl)) ?_
                  with_reducible refine (spec_l2Find.calls _ _ l0_0 _ _ l0_1 ((rd_T95 l0_1 x7_2).f0) t156 _ ?side1 ?side2 ?side3 ?side4 A13.out).mono ?_
                  (case side1 => exact cz_ (Kd.C_below HR0_0.out HB.out))
                  (case side2 => exact HC0_0.out)
                  (case side3 => exact cz_ (Kd.C_below HR0_1.out HB.out))
                  (case side4 => exact HC0_1.out)
                  rintro e w53 ⟨rfl, hb⟩
                  refine ⟨_, rfl, ?_⟩
                  have n0_ := Aside0.mk (Kd.R_below (rz_ HO_5.out) hb)
                  have n1_ := Aside0.mk (blk_below (bz_ BK151.out) hb)
                  have n2_ := Aside0.mk (below_step (by repeat (first | (with_reducible first | exact HB.out | apply below_alloc | apply pw_below_drewN | apply below_drew1 | refine below_set ?_ GE151.out) | exact HB.out)) hb)
                  clear HO_5
                  clear BK151
                  clear HB
                  have HO_5 := n0_
                  have BK151 := n1_
                  have HB := n2_
                  clear n0_ n1_ n2_
                  (try clear hb)
                  (try clear hb2)
                  (try clear hk)
                  (try clear hi)
                  refine hK.out _ _ ⟨(blk_cell BK151.out 0).trans rfl, (blk_cell BK151.out 1).trans rfl, ((HB.out.cell (World.block_lt_of_cell? w _ hw155_0)).trans hw155_0), ((HB.out.cell (World.block_lt_of_cell? w _ hw155_1)).trans hw155_1), ((HB.out.cell (World.block_lt_of_cell? w _ hw157_0)).trans hw157_0), ((HB.out.cell (World.block_lt_of_cell? w _ hw157_1)).trans hw157_1)⟩ (fun hHeld => ?_)
                  clear hK K
                  refine norm_ (a' := ?_) ?_ ?_
                  rotate_left
                  ·show Act.put _ (some 34) _ = _
                   simp only [Act.put, List.setIfInBounds_toArray, List.set_cons_zero, List.set_cons_succ, i64_w, i32_w]
                   rfl
                  refine one_ (i := 15) (N := some 42) (bl 16 18) rfl rfl (one_of HT_.out (by kernel_rfl)) (by decide) (fun K hK => ?_)
                  refine goes_ Try.func61 (by kernel_rfl) rfl #[.agg #[.slice A0_0 l0_0.length c0_0, .slice (some ad155) l0_1.length c0_1], .int .i64 ((rd_T95 l0_1 x7_2).f1)] (by rfl) rfl rfl (by (try simp only [List.map_toArray, List.map_cons, List.map_nil]); first | done | rfl | (simp only [List.length_drop, List.length_take]; rfl)) ?_
                  with_reducible refine (spec_l2Find.calls _ _ l0_0 _ _ l0_1 ((rd_T95 l0_1 x7_2).f1) t158 _ ?side1 ?side2 ?side3 ?side4 A14.out).mono ?_
                  (case side1 => exact cz_ (Kd.C_below HR0_0.out HB.out))
                  (case side2 => exact HC0_0.out)
                  (case side3 => exact cz_ (Kd.C_below HR0_1.out HB.out))
                  (case side4 => exact HC0_1.out)
                  rintro e w54 ⟨rfl, hb⟩
                  refine ⟨_, rfl, ?_⟩
                  have n0_ := Aside0.mk (Kd.R_below (rz_ HO_5.out) hb)
                  have n1_ := Aside0.mk (blk_below (bz_ BK151.out) hb)
                  have n2_ := Aside0.mk (below_step (by repeat (first | (with_reducible first | exact HB.out | apply below_alloc | apply pw_below_drewN | apply below_drew1 | refine below_set ?_ GE151.out) | exact HB.out)) hb)
                  clear HO_5
                  clear BK151
                  clear HB
                  have HO_5 := n0_
                  have BK151 := n1_
                  have HB := n2_
                  clear n0_ n1_ n2_
                  (try clear hb)
                  (try clear hb2)
                  (try clear hk)
                  (try clear hi)
                  refine hK.out _ _ ⟨(blk_cell BK151.out 0).trans rfl, (blk_cell BK151.out 1).trans rfl, ((HB.out.cell (World.block_lt_of_cell? w _ hw155_0)).trans hw155_0), ((HB.out.cell (World.block_lt_of_cell? w _ hw155_1)).trans hw155_1), ((HB.out.cell (World.block_lt_of_cell? w _ hw157_0)).trans hw157_0), ((HB.out.cell (World.block_lt_of_cell? w _ hw157_1)).trans hw157_1)⟩ (fun hHeld => ?_)
                  clear hK K
                  refine norm_ (a' := ?_) ?_ ?_
                  rotate_left
                  ·show Act.put _ (some 42) _ = _
                   simp only [Act.put, List.setIfInBounds_toArray, List.set_cons_zero, List.set_cons_succ, i64_w, i32_w]
                   rfl
                  refine pA_ 16 (some 8) (bl 17 18) HT_.out (h := ?_)
                  refine pA_ 17 (some 9) (bl 18 18) HT_.out (h := ?_)
                  refine done_ (done_of HT_.out (by kernel_rfl)) ?_
                  have p159 : 0 ≤ (t156 : Int) := of_decide_eq_true (by first | (with_reducible assumption) | assumption)
                  have q159 : t156 < (x5_2.length : Int) := of_decide_eq_true (by first | (with_reducible assumption) | assumption)
                  obtain ⟨ad159, e159, hx159_0⟩ := Kd.at_int (Kd.R_reads' HO_5.out).2.2 t156 p159 q159
                  cases e159
                  replace p159 := eq_true p159
                  replace q159 := eq_true q159
                  have p163 : 0 ≤ (t158 : Int) := of_decide_eq_true (by first | (with_reducible assumption) | assumption)
                  have q163 : t158 < (x5_2.length : Int) := of_decide_eq_true (by first | (with_reducible assumption) | assumption)
                  obtain ⟨ad163, e163, hx163_0⟩ := Kd.at_int (Kd.R_reads' HO_5.out).2.2 t158 p163 q163
                  obtain rfl : ad159 = ad163 := (by injection e163)
                  replace p163 := eq_true p163
                  replace q163 := eq_true q163
                  have p50 : 0 ≤ (t156 : Int) := of_decide_eq_true (by first | (with_reducible assumption) | assumption)
                  have q50 : (t156 : Int) < ((x5_2.length : Int) : Int) := of_decide_eq_true (by first | (with_reducible assumption) | assumption)
                  obtain ⟨go50, co50, eo50, gb50, gl50, cl50, HG50⟩ := Kd.R_form HO_5.out (by omega)
                  (first | cases eo50 | (injection eo50 with ea_ en_ ec_; (first | subst ea_ | (injection ea_ with ea_; subst ea_)); subst ec_; clear en_))
                  have GB50 := Aside0.mk gb50
                  have GG50 := Aside0.mk HG50
                  clear gb50 gl50 HG50
                  (first | simp only [add_plain] at hx159_0 | skip)
                  (first | simp only [add_plain] at hx161_0 | skip)
                  (first | simp only [add_plain] at hx163_0 | skip)
                  obtain ⟨hx50_0, hf50_0⟩ := Kd.R_celln 0 HO_5.out (t156 : Int) p50 q50
                  replace p50 := eq_true p50
                  replace q50 := eq_true q50
                  obtain ⟨hy55_, hz55_⟩ := Kd.R_celln 0 HO_5.out (t156 : Int) (of_decide_eq_true (by first | (with_reducible assumption) | assumption)) (of_decide_eq_true (by first | (with_reducible assumption) | assumption))
                  have HP55 := Kd.R_putg HO_5.out (t156 : Int) x6_1
                  try go_wp2_with (first | ((with_reducible refine gate_store (t := 3) (p := 73) rfl ?_); refine store_event (t := 3) (p := 73) (v := ?vo_w56) (w1 := (w54.setCell ⟨go50, (t156 : Int).toNat, none⟩ (.int .i64 x6_1))) ?hg ?ho ?hn ?hr ?_; (case ho => rfl); (case hg => rfl); (case hn => rfl); (case hr => first | (go_simp; done) | (go_simp; rfl)); intro w56 hw; have hg : w54.grownBy w56 (some go50) := (by rw [hw]; exact HP55.2); have hp_ : Kd.R (Kd.int .i64) 3 w56 w.heap.size (fun _ => True) (.slice (some ⟨go50, 0, none⟩) x5_2.length co10) y164 := (by rw [hw, Ny164.out]; exact HP55.1); clear HP55; have n0_ := Aside0.mk (hp_); have n1_ := Aside0.mk (blk_grown (g := gb151) (o := .cells #[.slice A0_0 l0_0.length c0_0, .slice (some ad155) l0_1.length c0_1] 33 (0, 0)) (bz_ BK151.out) hg (Kd.R_ne HO_5.out BK151.out (by decide))); have n2_ := Aside0.mk ((by rw [hw]; exact below_set (HB.out) GB50.out : Below w.heap.size w w56)); clear HO_5; clear BK151; clear HB; have HO_5 := n0_; have BK151 := n1_; have HB := n2_; clear n0_ n1_ n2_; clear hg hw hp_))
                  (try simp only [← hl5_2])
                  go_roundg k2
                  case measure => have := HK1.out; have := HK2.out; omega
                  case rel => exact ⟨(y164), (wrap64 (x7_2 + 1)), (by first | rfl | (simp; done) | (simp [*]; done)), H', ⟨by have := HK1.out; have := HK2.out; omega⟩, ⟨by (try simp only [hl5_2]); (with_reducible repeat (first | apply Kd.R_alloc | apply Kd.R_drewN | apply Kd.R_drew)); exact HO_5.out⟩, ⟨by (try simp only [hl5_2]); (with_reducible repeat (first | refine blk_drewN ?_ _ | refine blk_drew ?_ | refine blk_alloc ?_ _)); exact BK151.out⟩, ⟨by repeat (first | (with_reducible first | exact HB.out | apply below_alloc | apply pw_below_drewN | apply below_drew1 | refine below_set ?_ GE151.out) | exact HB.out)⟩⟩
                 ·rw [if_neg c49] at H
                  have c49b0 : ((rd x5_2 t158) == (wrap64 (x6_1 - 1))) = false := beq_eq_false_iff_ne.mpr c49
                  have c49b1 : ((rd x5_2 t158) != (wrap64 (x6_1 - 1))) = true := bne_iff_ne.mpr c49
                  have H' := Aside0.mk H
                  clear H
                  have hcz57_0 : wr.cell? ⟨gb151, 0, none⟩ = some (.slice A0_0 l0_0.length c0_0) := (blk_cell BK151.out 0).trans rfl
                  have hcz57_1 : wr.cell? ⟨gb151, 1, none⟩ = some (.slice A0_1 l0_1.length c0_1) := (blk_cell BK151.out 1).trans rfl
                  have hfz57_0 := blk_frozen BK151.out 0
                  have hfz57_1 := blk_frozen BK151.out 1
                  try go_wp2
                  have n0_ := Aside0.mk (Kd.R_drew HO_5.out)
                  have n1_ := Aside0.mk (blk_drew BK151.out)
                  have n2_ := Aside0.mk (below_drew1 HB.out)
                  clear HO_5
                  clear BK151
                  clear HB
                  have HO_5 := n0_
                  have BK151 := n1_
                  have HB := n2_
                  clear n0_ n1_ n2_
                  have p155 : 0 ≤ (x7_2 : Int) := of_decide_eq_true (by first | (with_reducible assumption) | assumption)
                  have q155 : x7_2 < (l0_1.length : Int) := of_decide_eq_true (by first | (with_reducible assumption) | assumption)
                  obtain ⟨ad155, e155, hx155_0, hx155_1⟩ := at_T95 HR0_1.out x7_2 p155 q155
                  have hw155_1 := hx155_1
                  have hw155_0 := hx155_0
                  cases e155
                  replace hx155_0 := (HB.out.cell (World.block_lt_of_cell? w _ hx155_0)).trans hx155_0
                  replace hx155_1 := (HB.out.cell (World.block_lt_of_cell? w _ hx155_1)).trans hx155_1
                  replace p155 := eq_true p155
                  replace q155 := eq_true q155
                  have p157 : 0 ≤ (x7_2 : Int) := of_decide_eq_true (by first | (with_reducible assumption) | assumption)
                  have q157 : x7_2 < (l0_1.length : Int) := of_decide_eq_true (by first | (with_reducible assumption) | assumption)
                  obtain ⟨ad157, e157, hx157_0, hx157_1⟩ := at_T95 HR0_1.out x7_2 p157 q157
                  have hw157_1 := hx157_1
                  have hw157_0 := hx157_0
                  obtain rfl : ad155 = ad157 := (by injection e157)
                  replace hx157_0 := (HB.out.cell (World.block_lt_of_cell? w _ hx157_0)).trans hx157_0
                  replace hx157_1 := (HB.out.cell (World.block_lt_of_cell? w _ hx157_1)).trans hx157_1
                  replace p157 := eq_true p157
                  replace q157 := eq_true q157
                  refine start_ (n := 18) (S := fun w' => w'.cell? ⟨gb151, 0, none⟩ = some (.slice A0_0 l0_0.length c0_0) ∧ w'.cell? ⟨gb151, 1, none⟩ = some (.slice (some ad155) l0_1.length c0_1) ∧ w'.cell? (ad155.add ((x7_2).toNat * 2)) = some (.int .i64 ((rd_T95 l0_1 x7_2).f0)) ∧ w'.cell? ⟨(ad155.add ((x7_2).toNat * 2)).block, (ad155.add ((x7_2).toNat * 2)).off + 1, none⟩ = some (.int .i64 ((rd_T95 l0_1 x7_2).f1)) ∧ w'.cell? (ad155.add ((x7_2).toNat * 2)) = some (.int .i64 ((rd_T95 l0_1 x7_2).f0)) ∧ w'.cell? ⟨(ad155.add ((x7_2).toNat * 2)).block, (ad155.add ((x7_2).toNat * 2)).off + 1, none⟩ = some (.int .i64 ((rd_T95 l0_1 x7_2).f1))) (ds := []) #[false, false, false, false, false, false, false, false, false, false, false, false, false, false, false, false, false, false] (by kernel_rfl) rfl rfl ⟨(blk_cell BK151.out 0).trans rfl, (blk_cell BK151.out 1).trans rfl, ((HB.out.cell (World.block_lt_of_cell? w _ hw155_0)).trans hw155_0), ((HB.out.cell (World.block_lt_of_cell? w _ hw155_1)).trans hw155_1), ((HB.out.cell (World.block_lt_of_cell? w _ hw157_0)).trans hw157_0), ((HB.out.cell (World.block_lt_of_cell? w _ hw157_1)).trans hw157_1)⟩ (fun hHeld => ?_); refine with_tabW spec_l4Steps.tab8 spec_l4Steps.bits8 (fun HT_ HW_ => ?_)
                  generalize wr.drew = w58 at HO_5 BK151 HB hx155_0 hx155_1 hx157_0 hx157_1 hHeld ⊢
                  refine pA_ 1 (some 28) #[false, true, false, false, false, false, false, false, false, false, false, false, false, false, false, false, false, false] HT_.out (h := ?_)
                  refine pA_ 3 (some 30) #[false, true, false, true, false, false, false, false, false, false, false, false, false, false, false, false, false, false] HT_.out (h := ?_)
                  refine pA_ 9 (some 36) #[false, true, false, true, false, false, false, false, false, true, false, false, false, false, false, false, false, false] HT_.out (h := ?_)
                  refine pA_ 11 (some 38) #[false, true, false, true, false, false, false, false, false, true, false, true, false, false, false, false, false, false] HT_.out (h := ?_)
                  refine tA_ 0 (some 27) #[true, true, false, true, false, false, false, false, false, true, false, true, false, false, false, false, false, false] HT_.out HW_.out hHeld (h := ?_)
                  refine tA_ 2 (some 29) #[true, true, true, true, false, false, false, false, false, true, false, true, false, false, false, false, false, false] HT_.out HW_.out hHeld (h := ?_)
                  refine pA_ 4 (some 31) #[true, true, true, true, true, false, false, false, false, true, false, true, false, false, false, false, false, false] HT_.out (h := ?_)
                  refine pA_ 5 (some 32) #[true, true, true, true, true, true, false, false, false, true, false, true, false, false, false, false, false, false] HT_.out (h := ?_)
                  refine tA_ 6 (some 33) #[true, true, true, true, true, true, true, false, false, true, false, true, false, false, false, false, false, false] HT_.out HW_.out hHeld (h := ?_)
                  refine tA_ 8 (some 35) #[true, true, true, true, true, true, true, false, true, true, false, true, false, false, false, false, false, false] HT_.out HW_.out hHeld (h := ?_)
                  refine tA_ 10 (some 37) #[true, true, true, true, true, true, true, false, true, true, true, true, false, false, false, false, false, false] HT_.out HW_.out hHeld (h := ?_)
                  refine pA_ 12 (some 39) #[true, true, true, true, true, true, true, false, true, true, true, true, true, false, false, false, false, false] HT_.out (h := ?_)
                  refine pA_ 13 (some 40) #[true, true, true, true, true, true, true, false, true, true, true, true, true, true, false, false, false, false] HT_.out (h := ?_)
                  refine tA_ 14 (some 41) #[true, true, true, true, true, true, true, false, true, true, true, true, true, true, true, false, false, false] HT_.out HW_.out hHeld (h := ?_)
                  refine one_ (i := 7) (N := some 34) (bl 15 18) rfl rfl (one_of HT_.out (by kernel_rfl)) (by decide) (fun K hK => ?_)
                  refine goes_ Try.func61 (by kernel_rfl) rfl #[.agg #[.slice A0_0 l0_0.length c0_0, .slice (some ad155) l0_1.length c0_1], .int .i64 ((rd_T95 l0_1 x7_2).f0)] (by rfl) rfl rfl (by (try simp only [List.map_toArray, List.map_cons, List.map_nil]); first | done | rfl | (simp only [List.length_drop, List.length_take]; rfl)) ?_
                  with_reducible refine (spec_l2Find.calls _ _ l0_0 _ _ l0_1 ((rd_T95 l0_1 x7_2).f0) t156 _ ?side1 ?side2 ?side3 ?side4 A13.out).mono ?_
                  (case side1 => exact cz_ (Kd.C_below HR0_0.out HB.out))
                  (case side2 => exact HC0_0.out)
                  (case side3 => exact cz_ (Kd.C_below HR0_1.out HB.out))
                  (case side4 => exact HC0_1.out)
                  rintro e w59 ⟨rfl, hb⟩
                  refine ⟨_, rfl, ?_⟩
                  have n0_ := Aside0.mk (Kd.R_below (rz_ HO_5.out) hb)
                  have n1_ := Aside0.mk (blk_below (bz_ BK151.out) hb)
                  have n2_ := Aside0.mk (below_step (by repeat (first | (with_reducible first | exact HB.out | apply below_alloc | apply pw_below_drewN | apply below_drew1 | refine below_set ?_ GE151.out) | exact HB.out)) hb)
                  clear HO_5
                  clear BK151
                  clear HB
                  have HO_5 := n0_
                  have BK151 := n1_
                  have HB := n2_
                  clear n0_ n1_ n2_
                  (try clear hb)
                  (try clear hb2)
                  (try clear hk)
                  (try clear hi)
                  refine hK.out _ _ ⟨(blk_cell BK151.out 0).trans rfl, (blk_cell BK151.out 1).trans rfl, ((HB.out.cell (World.block_lt_of_cell? w _ hw155_0)).trans hw155_0), ((HB.out.cell (World.block_lt_of_cell? w _ hw155_1)).trans hw155_1), ((HB.out.cell (World.block_lt_of_cell? w _ hw157_0)).trans hw157_0), ((HB.out.cell (World.block_lt_of_cell? w _ hw157_1)).trans hw157_1)⟩ (fun hHeld => ?_)
                  clear hK K
                  refine norm_ (a' := ?_) ?_ ?_
                  rotate_left
                  ·show Act.put _ (some 34) _ = _
                   simp only [Act.put, List.setIfInBounds_toArray, List.set_cons_zero, List.set_cons_succ, i64_w, i32_w]
                   rfl
                  refine one_ (i := 15) (N := some 42) (bl 16 18) rfl rfl (one_of HT_.out (by kernel_rfl)) (by decide) (fun K hK => ?_)
                  refine goes_ Try.func61 (by kernel_rfl) rfl #[.agg #[.slice A0_0 l0_0.length c0_0, .slice (some ad155) l0_1.length c0_1], .int .i64 ((rd_T95 l0_1 x7_2).f1)] (by rfl) rfl rfl (by (try simp only [List.map_toArray, List.map_cons, List.map_nil]); first | done | rfl | (simp only [List.length_drop, List.length_take]; rfl)) ?_
                  with_reducible refine (spec_l2Find.calls _ _ l0_0 _ _ l0_1 ((rd_T95 l0_1 x7_2).f1) t158 _ ?side1 ?side2 ?side3 ?side4 A14.out).mono ?_
                  (case side1 => exact cz_ (Kd.C_below HR0_0.out HB.out))
                  (case side2 => exact HC0_0.out)
                  (case side3 => exact cz_ (Kd.C_below HR0_1.out HB.out))
                  (case side4 => exact HC0_1.out)
                  rintro e w60 ⟨rfl, hb⟩
                  refine ⟨_, rfl, ?_⟩
                  have n0_ := Aside0.mk (Kd.R_below (rz_ HO_5.out) hb)
                  have n1_ := Aside0.mk (blk_below (bz_ BK151.out) hb)
                  have n2_ := Aside0.mk (below_step (by repeat (first | (with_reducible first | exact HB.out | apply below_alloc | apply pw_below_drewN | apply below_drew1 | refine below_set ?_ GE151.out) | exact HB.out)) hb)
                  clear HO_5
                  clear BK151
                  clear HB
                  have HO_5 := n0_
                  have BK151 := n1_
                  have HB := n2_
                  clear n0_ n1_ n2_
                  (try clear hb)
                  (try clear hb2)
                  (try clear hk)
                  (try clear hi)
                  refine hK.out _ _ ⟨(blk_cell BK151.out 0).trans rfl, (blk_cell BK151.out 1).trans rfl, ((HB.out.cell (World.block_lt_of_cell? w _ hw155_0)).trans hw155_0), ((HB.out.cell (World.block_lt_of_cell? w _ hw155_1)).trans hw155_1), ((HB.out.cell (World.block_lt_of_cell? w _ hw157_0)).trans hw157_0), ((HB.out.cell (World.block_lt_of_cell? w _ hw157_1)).trans hw157_1)⟩ (fun hHeld => ?_)
                  clear hK K
                  refine norm_ (a' := ?_) ?_ ?_
                  rotate_left
                  ·show Act.put _ (some 42) _ = _
                   simp only [Act.put, List.setIfInBounds_toArray, List.set_cons_zero, List.set_cons_succ, i64_w, i32_w]
                   rfl
                  refine pA_ 16 (some 8) (bl 17 18) HT_.out (h := ?_)
                  refine pA_ 17 (some 9) (bl 18 18) HT_.out (h := ?_)
                  refine done_ (done_of HT_.out (by kernel_rfl)) ?_
                  have p159 : 0 ≤ (t156 : Int) := of_decide_eq_true (by first | (with_reducible assumption) | assumption)
                  have q159 : t156 < (x5_2.length : Int) := of_decide_eq_true (by first | (with_reducible assumption) | assumption)
                  obtain ⟨ad159, e159, hx159_0⟩ := Kd.at_int (Kd.R_reads' HO_5.out).2.2 t156 p159 q159
                  cases e159
                  replace p159 := eq_true p159
                  replace q159 := eq_true q159
                  have p163 : 0 ≤ (t158 : Int) := of_decide_eq_true (by first | (with_reducible assumption) | assumption)
                  have q163 : t158 < (x5_2.length : Int) := of_decide_eq_true (by first | (with_reducible assumption) | assumption)
                  obtain ⟨ad163, e163, hx163_0⟩ := Kd.at_int (Kd.R_reads' HO_5.out).2.2 t158 p163 q163
                  obtain rfl : ad159 = ad163 := (by injection e163)
                  replace p163 := eq_true p163
                  replace q163 := eq_true q163
                  try go_wp2
                  (try simp only [← hl5_2])
                  go_roundg k2
                  case measure => have := HK1.out; have := HK2.out; omega
                  case rel => exact ⟨(x5_2), (wrap64 (x7_2 + 1)), (by first | rfl | (simp; done) | (simp [*]; done)), H', ⟨by have := HK1.out; have := HK2.out; omega⟩, ⟨by (try simp only [hl5_2]); (with_reducible repeat (first | apply Kd.R_alloc | apply Kd.R_drewN | apply Kd.R_drew)); exact HO_5.out⟩, ⟨by (try simp only [hl5_2]); (with_reducible repeat (first | refine blk_drewN ?_ _ | refine blk_drew ?_ | refine blk_alloc ?_ _)); exact BK151.out⟩, ⟨by repeat (first | (with_reducible first | exact HB.out | apply below_alloc | apply pw_below_drewN | apply below_drew1 | refine below_set ?_ GE151.out) | exact HB.out)⟩⟩
                ·rw [if_neg c48] at H
                 exact absurd H (by simp)
               ·rw [if_neg c47] at H
                exact absurd H (by simp)
              ·rw [if_neg c46] at H
               have c46b0 : decide (1 < x6_1) = false := decide_eq_false c46
               clear c46
               have H' := Aside0.mk H
               clear H
               have hcz61_0 : wr.cell? ⟨gb151, 0, none⟩ = some (.slice A0_0 l0_0.length c0_0) := (blk_cell BK151.out 0).trans rfl
               have hcz61_1 : wr.cell? ⟨gb151, 1, none⟩ = some (.slice A0_1 l0_1.length c0_1) := (blk_cell BK151.out 1).trans rfl
               have hfz61_0 := blk_frozen BK151.out 0
               have hfz61_1 := blk_frozen BK151.out 1
               try go_wp2
               have n0_ := Aside0.mk (Kd.R_drew HO_5.out)
               have n1_ := Aside0.mk (blk_drew BK151.out)
               have n2_ := Aside0.mk (below_drew1 HB.out)
               clear HO_5
               clear BK151
               clear HB
               have HO_5 := n0_
               have BK151 := n1_
               have HB := n2_
               clear n0_ n1_ n2_
               have p155 : 0 ≤ (x7_2 : Int) := of_decide_eq_true (by first | (with_reducible assumption) | assumption)
               have q155 : x7_2 < (l0_1.length : Int) := of_decide_eq_true (by first | (with_reducible assumption) | assumption)
               obtain ⟨ad155, e155, hx155_0, hx155_1⟩ := at_T95 HR0_1.out x7_2 p155 q155
               have hw155_1 := hx155_1
               have hw155_0 := hx155_0
               cases e155
               replace hx155_0 := (HB.out.cell (World.block_lt_of_cell? w _ hx155_0)).trans hx155_0
               replace hx155_1 := (HB.out.cell (World.block_lt_of_cell? w _ hx155_1)).trans hx155_1
               replace p155 := eq_true p155
               replace q155 := eq_true q155
               have p157 : 0 ≤ (x7_2 : Int) := of_decide_eq_true (by first | (with_reducible assumption) | assumption)
               have q157 : x7_2 < (l0_1.length : Int) := of_decide_eq_true (by first | (with_reducible assumption) | assumption)
               obtain ⟨ad157, e157, hx157_0, hx157_1⟩ := at_T95 HR0_1.out x7_2 p157 q157
               have hw157_1 := hx157_1
               have hw157_0 := hx157_0
               obtain rfl : ad155 = ad157 := (by injection e157)
               replace hx157_0 := (HB.out.cell (World.block_lt_of_cell? w _ hx157_0)).trans hx157_0
               replace hx157_1 := (HB.out.cell (World.block_lt_of_cell? w _ hx157_1)).trans hx157_1
               replace p157 := eq_true p157
               replace q157 := eq_true q157
               refine start_ (n := 18) (S := fun w' => w'.cell? ⟨gb151, 0, none⟩ = some (.slice A0_0 l0_0.length c0_0) ∧ w'.cell? ⟨gb151, 1, none⟩ = some (.slice (some ad155) l0_1.length c0_1) ∧ w'.cell? (ad155.add ((x7_2).toNat * 2)) = some (.int .i64 ((rd_T95 l0_1 x7_2).f0)) ∧ w'.cell? ⟨(ad155.add ((x7_2).toNat * 2)).block, (ad155.add ((x7_2).toNat * 2)).off + 1, none⟩ = some (.int .i64 ((rd_T95 l0_1 x7_2).f1)) ∧ w'.cell? (ad155.add ((x7_2).toNat * 2)) = some (.int .i64 ((rd_T95 l0_1 x7_2).f0)) ∧ w'.cell? ⟨(ad155.add ((x7_2).toNat * 2)).block, (ad155.add ((x7_2).toNat * 2)).off + 1, none⟩ = some (.int .i64 ((rd_T95 l0_1 x7_2).f1))) (ds := []) #[false, false, false, false, false, false, false, false, false, false, false, false, false, false, false, false, false, false] (by kernel_rfl) rfl rfl ⟨(blk_cell BK151.out 0).trans rfl, (blk_cell BK151.out 1).trans rfl, ((HB.out.cell (World.block_lt_of_cell? w _ hw155_0)).trans hw155_0), ((HB.out.cell (World.block_lt_of_cell? w _ hw155_1)).trans hw155_1), ((HB.out.cell (World.block_lt_of_cell? w _ hw157_0)).trans hw157_0), ((HB.out.cell (World.block_lt_of_cell? w _ hw157_1)).trans hw157_1)⟩ (fun hHeld => ?_); refine with_tabW spec_l4Steps.tab8 spec_l4Steps.bits8 (fun HT_ HW_ => ?_)
               generalize wr.drew = w62 at HO_5 BK151 HB hx155_0 hx155_1 hx157_0 hx157_1 hHeld ⊢
               refine pA_ 1 (some 28) #[false, true, false, false, false, false, false, false, false, false, false, false, false, false, false, false, false, false] HT_.out (h := ?_)
               refine pA_ 3 (some 30) #[false, true, false, true, false, false, false, false, false, false, false, false, false, false, false, false, false, false] HT_.out (h := ?_)
               refine pA_ 9 (some 36) #[false, true, false, true, false, false, false, false, false, true, false, false, false, false, false, false, false, false] HT_.out (h := ?_)
               refine pA_ 11 (some 38) #[false, true, false, true, false, false, false, false, false, true, false, true, false, false, false, false, false, false] HT_.out (h := ?_)
               refine tA_ 0 (some 27) #[true, true, false, true, false, false, false, false, false, true, false, true, false, false, false, false, false, false] HT_.out HW_.out hHeld (h := ?_)
               refine tA_ 2 (some 29) #[true, true, true, true, false, false, false, false, false, true, false, true, false, false, false, false, false, false] HT_.out HW_.out hHeld (h := ?_)
               refine pA_ 4 (some 31) #[true, true, true, true, true, false, false, false, false, true, false, true, false, false, false, false, false, false] HT_.out (h := ?_)
               refine pA_ 5 (some 32) #[true, true, true, true, true, true, false, false, false, true, false, true, false, false, false, false, false, false] HT_.out (h := ?_)
               refine tA_ 6 (some 33) #[true, true, true, true, true, true, true, false, false, true, false, true, false, false, false, false, false, false] HT_.out HW_.out hHeld (h := ?_)
               refine tA_ 8 (some 35) #[true, true, true, true, true, true, true, false, true, true, false, true, false, false, false, false, false, false] HT_.out HW_.out hHeld (h := ?_)
               refine tA_ 10 (some 37) #[true, true, true, true, true, true, true, false, true, true, true, true, false, false, false, false, false, false] HT_.out HW_.out hHeld (h := ?_)
               refine pA_ 12 (some 39) #[true, true, true, true, true, true, true, false, true, true, true, true, true, false, false, false, false, false] HT_.out (h := ?_)
               refine pA_ 13 (some 40) #[true, true, true, true, true, true, true, false, true, true, true, true, true, true, false, false, false, false] HT_.out (h := ?_)
               refine tA_ 14 (some 41) #[true, true, true, true, true, true, true, false, true, true, true, true, true, true, true, false, false, false] HT_.out HW_.out hHeld (h := ?_)
               refine one_ (i := 7) (N := some 34) (bl 15 18) rfl rfl (one_of HT_.out (by kernel_rfl)) (by decide) (fun K hK => ?_)
               refine goes_ Try.func61 (by kernel_rfl) rfl #[.agg #[.slice A0_0 l0_0.length c0_0, .slice (some ad155) l0_1.length c0_1], .int .i64 ((rd_T95 l0_1 x7_2).f0)] (by rfl) rfl rfl (by (try simp only [List.map_toArray, List.map_cons, List.map_nil]); first | done | rfl | (simp only [List.length_drop, List.length_take]; rfl)) ?_
               with_reducible refine (spec_l2Find.calls _ _ l0_0 _ _ l0_1 ((rd_T95 l0_1 x7_2).f0) t156 _ ?side1 ?side2 ?side3 ?side4 A13.out).mono ?_
               (case side1 => exact cz_ (Kd.C_below HR0_0.out HB.out))
               (case side2 => exact HC0_0.out)
               (case side3 => exact cz_ (Kd.C_below HR0_1.out HB.out))
               (case side4 => exact HC0_1.out)
               rintro e w63 ⟨rfl, hb⟩
               refine ⟨_, rfl, ?_⟩
               have n0_ := Aside0.mk (Kd.R_below (rz_ HO_5.out) hb)
               have n1_ := Aside0.mk (blk_below (bz_ BK151.out) hb)
               have n2_ := Aside0.mk (below_step (by repeat (first | (with_reducible first | exact HB.out | apply below_alloc | apply pw_below_drewN | apply below_drew1 | refine below_set ?_ GE151.out) | exact HB.out)) hb)
               clear HO_5
               clear BK151
               clear HB
               have HO_5 := n0_
               have BK151 := n1_
               have HB := n2_
               clear n0_ n1_ n2_
               (try clear hb)
               (try clear hb2)
               (try clear hk)
               (try clear hi)
               refine hK.out _ _ ⟨(blk_cell BK151.out 0).trans rfl, (blk_cell BK151.out 1).trans rfl, ((HB.out.cell (World.block_lt_of_cell? w _ hw155_0)).trans hw155_0), ((HB.out.cell (World.block_lt_of_cell? w _ hw155_1)).trans hw155_1), ((HB.out.cell (World.block_lt_of_cell? w _ hw157_0)).trans hw157_0), ((HB.out.cell (World.block_lt_of_cell? w _ hw157_1)).trans hw157_1)⟩ (fun hHeld => ?_)
               clear hK K
               refine norm_ (a' := ?_) ?_ ?_
               rotate_left
               ·show Act.put _ (some 34) _ = _
                simp only [Act.put, List.setIfInBounds_toArray, List.set_cons_zero, List.set_cons_succ, i64_w, i32_w]
                rfl
               refine one_ (i := 15) (N := some 42) (bl 16 18) rfl rfl (one_of HT_.out (by kernel_rfl)) (by decide) (fun K hK => ?_)
               refine goes_ Try.func61 (by kernel_rfl) rfl #[.agg #[.slice A0_0 l0_0.length c0_0, .slice (some ad155) l0_1.length c0_1], .int .i64 ((rd_T95 l0_1 x7_2).f1)] (by rfl) rfl rfl (by (try simp only [List.map_toArray, List.map_cons, List.map_nil]); first | done | rfl | (simp only [List.length_drop, List.length_take]; rfl)) ?_
               with_reducible refine (spec_l2Find.calls _ _ l0_0 _ _ l0_1 ((rd_T95 l0_1 x7_2).f1) t158 _ ?side1 ?side2 ?side3 ?side4 A14.out).mono ?_
               (case side1 => exact cz_ (Kd.C_below HR0_0.out HB.out))
               (case side2 => exact HC0_0.out)
               (case side3 => exact cz_ (Kd.C_below HR0_1.out HB.out))
               (case side4 => exact HC0_1.out)
               rintro e w64 ⟨rfl, hb⟩
               refine ⟨_, rfl, ?_⟩
               have n0_ := Aside0.mk (Kd.R_below (rz_ HO_5.out) hb)
               have n1_ := Aside0.mk (blk_below (bz_ BK151.out) hb)
               have n2_ := Aside0.mk (below_step (by repeat (first | (with_reducible first | exact HB.out | apply below_alloc | apply pw_below_drewN | apply below_drew1 | refine below_set ?_ GE151.out) | exact HB.out)) hb)
               clear HO_5
               clear BK151
               clear HB
               have HO_5 := n0_
               have BK151 := n1_
               have HB := n2_
               clear n0_ n1_ n2_
               (try clear hb)
               (try clear hb2)
               (try clear hk)
               (try clear hi)
               refine hK.out _ _ ⟨(blk_cell BK151.out 0).trans rfl, (blk_cell BK151.out 1).trans rfl, ((HB.out.cell (World.block_lt_of_cell? w _ hw155_0)).trans hw155_0), ((HB.out.cell (World.block_lt_of_cell? w _ hw155_1)).trans hw155_1), ((HB.out.cell (World.block_lt_of_cell? w _ hw157_0)).trans hw157_0), ((HB.out.cell (World.block_lt_of_cell? w _ hw157_1)).trans hw157_1)⟩ (fun hHeld => ?_)
               clear hK K
               refine norm_ (a' := ?_) ?_ ?_
               rotate_left
               ·show Act.put _ (some 42) _ = _
                simp only [Act.put, List.setIfInBounds_toArray, List.set_cons_zero, List.set_cons_succ, i64_w, i32_w]
                rfl
               refine pA_ 16 (some 8) (bl 17 18) HT_.out (h := ?_)
               refine pA_ 17 (some 9) (bl 18 18) HT_.out (h := ?_)
               refine done_ (done_of HT_.out (by kernel_rfl)) ?_
               have p159 : 0 ≤ (t156 : Int) := of_decide_eq_true (by first | (with_reducible assumption) | assumption)
               have q159 : t156 < (x5_2.length : Int) := of_decide_eq_true (by first | (with_reducible assumption) | assumption)
               obtain ⟨ad159, e159, hx159_0⟩ := Kd.at_int (Kd.R_reads' HO_5.out).2.2 t156 p159 q159
               cases e159
               replace p159 := eq_true p159
               replace q159 := eq_true q159
               try go_wp2
               (try simp only [← hl5_2])
               go_roundg k2
               case measure => have := HK1.out; have := HK2.out; omega
               case rel => exact ⟨(x5_2), (wrap64 (x7_2 + 1)), (by first | rfl | (simp; done) | (simp [*]; done)), H', ⟨by have := HK1.out; have := HK2.out; omega⟩, ⟨by (try simp only [hl5_2]); (with_reducible repeat (first | apply Kd.R_alloc | apply Kd.R_drewN | apply Kd.R_drew)); exact HO_5.out⟩, ⟨by (try simp only [hl5_2]); (with_reducible repeat (first | refine blk_drewN ?_ _ | refine blk_drew ?_ | refine blk_alloc ?_ _)); exact BK151.out⟩, ⟨by repeat (first | (with_reducible first | exact HB.out | apply below_alloc | apply pw_below_drewN | apply below_drew1 | refine below_set ?_ GE151.out) | exact HB.out)⟩⟩
            ·rw [if_neg c17] at H
             have c17b0 : ((rd x5_2 t156) == 0) = false := beq_eq_false_iff_ne.mpr c17
             have c17b1 : ((rd x5_2 t156) != 0) = true := bne_iff_ne.mpr c17
             have H' := Aside0.mk H
             clear H
             have hcz65_0 : wr.cell? ⟨gb151, 0, none⟩ = some (.slice A0_0 l0_0.length c0_0) := (blk_cell BK151.out 0).trans rfl
             have hcz65_1 : wr.cell? ⟨gb151, 1, none⟩ = some (.slice A0_1 l0_1.length c0_1) := (blk_cell BK151.out 1).trans rfl
             have hfz65_0 := blk_frozen BK151.out 0
             have hfz65_1 := blk_frozen BK151.out 1
             try go_wp2
             have n0_ := Aside0.mk (Kd.R_drew HO_5.out)
             have n1_ := Aside0.mk (blk_drew BK151.out)
             have n2_ := Aside0.mk (below_drew1 HB.out)
             clear HO_5
             clear BK151
             clear HB
             have HO_5 := n0_
             have BK151 := n1_
             have HB := n2_
             clear n0_ n1_ n2_
             have p155 : 0 ≤ (x7_2 : Int) := of_decide_eq_true (by first | (with_reducible assumption) | assumption)
             have q155 : x7_2 < (l0_1.length : Int) := of_decide_eq_true (by first | (with_reducible assumption) | assumption)
             obtain ⟨ad155, e155, hx155_0, hx155_1⟩ := at_T95 HR0_1.out x7_2 p155 q155
             have hw155_1 := hx155_1
             have hw155_0 := hx155_0
             cases e155
             replace hx155_0 := (HB.out.cell (World.block_lt_of_cell? w _ hx155_0)).trans hx155_0
             replace hx155_1 := (HB.out.cell (World.block_lt_of_cell? w _ hx155_1)).trans hx155_1
             replace p155 := eq_true p155
             replace q155 := eq_true q155
             have p157 : 0 ≤ (x7_2 : Int) := of_decide_eq_true (by first | (with_reducible assumption) | assumption)
             have q157 : x7_2 < (l0_1.length : Int) := of_decide_eq_true (by first | (with_reducible assumption) | assumption)
             obtain ⟨ad157, e157, hx157_0, hx157_1⟩ := at_T95 HR0_1.out x7_2 p157 q157
             have hw157_1 := hx157_1
             have hw157_0 := hx157_0
             obtain rfl : ad155 = ad157 := (by injection e157)
             replace hx157_0 := (HB.out.cell (World.block_lt_of_cell? w _ hx157_0)).trans hx157_0
             replace hx157_1 := (HB.out.cell (World.block_lt_of_cell? w _ hx157_1)).trans hx157_1
             replace p157 := eq_true p157
             replace q157 := eq_true q157
             refine start_ (n := 18) (S := fun w' => w'.cell? ⟨gb151, 0, none⟩ = some (.slice A0_0 l0_0.length c0_0) ∧ w'.cell? ⟨gb151, 1, none⟩ = some (.slice (some ad155) l0_1.length c0_1) ∧ w'.cell? (ad155.add ((x7_2).toNat * 2)) = some (.int .i64 ((rd_T95 l0_1 x7_2).f0)) ∧ w'.cell? ⟨(ad155.add ((x7_2).toNat * 2)).block, (ad155.add ((x7_2).toNat * 2)).off + 1, none⟩ = some (.int .i64 ((rd_T95 l0_1 x7_2).f1)) ∧ w'.cell? (ad155.add ((x7_2).toNat * 2)) = some (.int .i64 ((rd_T95 l0_1 x7_2).f0)) ∧ w'.cell? ⟨(ad155.add ((x7_2).toNat * 2)).block, (ad155.add ((x7_2).toNat * 2)).off + 1, none⟩ = some (.int .i64 ((rd_T95 l0_1 x7_2).f1))) (ds := []) #[false, false, false, false, false, false, false, false, false, false, false, false, false, false, false, false, false, false] (by kernel_rfl) rfl rfl ⟨(blk_cell BK151.out 0).trans rfl, (blk_cell BK151.out 1).trans rfl, ((HB.out.cell (World.block_lt_of_cell? w _ hw155_0)).trans hw155_0), ((HB.out.cell (World.block_lt_of_cell? w _ hw155_1)).trans hw155_1), ((HB.out.cell (World.block_lt_of_cell? w _ hw157_0)).trans hw157_0), ((HB.out.cell (World.block_lt_of_cell? w _ hw157_1)).trans hw157_1)⟩ (fun hHeld => ?_); refine with_tabW spec_l4Steps.tab8 spec_l4Steps.bits8 (fun HT_ HW_ => ?_)
             generalize wr.drew = w66 at HO_5 BK151 HB hx155_0 hx155_1 hx157_0 hx157_1 hHeld ⊢
             refine pA_ 1 (some 28) #[false, true, false, false, false, false, false, false, false, false, false, false, false, false, false, false, false, false] HT_.out (h := ?_)
             refine pA_ 3 (some 30) #[false, true, false, true, false, false, false, false, false, false, false, false, false, false, false, false, false, false] HT_.out (h := ?_)
             refine pA_ 9 (some 36) #[false, true, false, true, false, false, false, false, false, true, false, false, false, false, false, false, false, false] HT_.out (h := ?_)
             refine pA_ 11 (some 38) #[false, true, false, true, false, false, false, false, false, true, false, true, false, false, false, false, false, false] HT_.out (h := ?_)
             refine tA_ 0 (some 27) #[true, true, false, true, false, false, false, false, false, true, false, true, false, false, false, false, false, false] HT_.out HW_.out hHeld (h := ?_)
             refine tA_ 2 (some 29) #[true, true, true, true, false, false, false, false, false, true, false, true, false, false, false, false, false, false] HT_.out HW_.out hHeld (h := ?_)
             refine pA_ 4 (some 31) #[true, true, true, true, true, false, false, false, false, true, false, true, false, false, false, false, false, false] HT_.out (h := ?_)
             refine pA_ 5 (some 32) #[true, true, true, true, true, true, false, false, false, true, false, true, false, false, false, false, false, false] HT_.out (h := ?_)
             refine tA_ 6 (some 33) #[true, true, true, true, true, true, true, false, false, true, false, true, false, false, false, false, false, false] HT_.out HW_.out hHeld (h := ?_)
             refine tA_ 8 (some 35) #[true, true, true, true, true, true, true, false, true, true, false, true, false, false, false, false, false, false] HT_.out HW_.out hHeld (h := ?_)
             refine tA_ 10 (some 37) #[true, true, true, true, true, true, true, false, true, true, true, true, false, false, false, false, false, false] HT_.out HW_.out hHeld (h := ?_)
             refine pA_ 12 (some 39) #[true, true, true, true, true, true, true, false, true, true, true, true, true, false, false, false, false, false] HT_.out (h := ?_)
             refine pA_ 13 (some 40) #[true, true, true, true, true, true, true, false, true, true, true, true, true, true, false, false, false, false] HT_.out (h := ?_)
             refine tA_ 14 (some 41) #[true, true, true, true, true, true, true, false, true, true, true, true, true, true, true, false, false, false] HT_.out HW_.out hHeld (h := ?_)
             refine one_ (i := 7) (N := some 34) (bl 15 18) rfl rfl (one_of HT_.out (by kernel_rfl)) (by decide) (fun K hK => ?_)
             refine goes_ Try.func61 (by kernel_rfl) rfl #[.agg #[.slice A0_0 l0_0.length c0_0, .slice (some ad155) l0_1.length c0_1], .int .i64 ((rd_T95 l0_1 x7_2).f0)] (by rfl) rfl rfl (by (try simp only [List.map_toArray, List.map_cons, List.map_nil]); first | done | rfl | (simp only [List.length_drop, List.length_take]; rfl)) ?_
             with_reducible refine (spec_l2Find.calls _ _ l0_0 _ _ l0_1 ((rd_T95 l0_1 x7_2).f0) t156 _ ?side1 ?side2 ?side3 ?side4 A13.out).mono ?_
             (case side1 => exact cz_ (Kd.C_below HR0_0.out HB.out))
             (case side2 => exact HC0_0.out)
             (case side3 => exact cz_ (Kd.C_below HR0_1.out HB.out))
             (case side4 => exact HC0_1.out)
             rintro e w67 ⟨rfl, hb⟩
             refine ⟨_, rfl, ?_⟩
             have n0_ := Aside0.mk (Kd.R_below (rz_ HO_5.out) hb)
             have n1_ := Aside0.mk (blk_below (bz_ BK151.out) hb)
             have n2_ := Aside0.mk (below_step (by repeat (first | (with_reducible first | exact HB.out | apply below_alloc | apply pw_below_drewN | apply below_drew1 | refine below_set ?_ GE151.out) | exact HB.out)) hb)
             clear HO_5
             clear BK151
             clear HB
             have HO_5 := n0_
             have BK151 := n1_
             have HB := n2_
             clear n0_ n1_ n2_
             (try clear hb)
             (try clear hb2)
             (try clear hk)
             (try clear hi)
             refine hK.out _ _ ⟨(blk_cell BK151.out 0).trans rfl, (blk_cell BK151.out 1).trans rfl, ((HB.out.cell (World.block_lt_of_cell? w _ hw155_0)).trans hw155_0), ((HB.out.cell (World.block_lt_of_cell? w _ hw155_1)).trans hw155_1), ((HB.out.cell (World.block_lt_of_cell? w _ hw157_0)).trans hw157_0), ((HB.out.cell (World.block_lt_of_cell? w _ hw157_1)).trans hw157_1)⟩ (fun hHeld => ?_)
             clear hK K
             refine norm_ (a' := ?_) ?_ ?_
             rotate_left
             ·show Act.put _ (some 34) _ = _
              simp only [Act.put, List.setIfInBounds_toArray, List.set_cons_zero, List.set_cons_succ, i64_w, i32_w]
              rfl
             refine one_ (i := 15) (N := some 42) (bl 16 18) rfl rfl (one_of HT_.out (by kernel_rfl)) (by decide) (fun K hK => ?_)
             refine goes_ Try.func61 (by kernel_rfl) rfl #[.agg #[.slice A0_0 l0_0.length c0_0, .slice (some ad155) l0_1.length c0_1], .int .i64 ((rd_T95 l0_1 x7_2).f1)] (by rfl) rfl rfl (by (try simp only [List.map_toArray, List.map_cons, List.map_nil]); first | done | rfl | (simp only [List.length_drop, List.length_take]; rfl)) ?_
             with_reducible refine (spec_l2Find.calls _ _ l0_0 _ _ l0_1 ((rd_T95 l0_1 x7_2).f1) t158 _ ?side1 ?side2 ?side3 ?side4 A14.out).mono ?_
             (case side1 => exact cz_ (Kd.C_below HR0_0.out HB.out))
             (case side2 => exact HC0_0.out)
             (case side3 => exact cz_ (Kd.C_below HR0_1.out HB.out))
             (case side4 => exact HC0_1.out)
             rintro e w68 ⟨rfl, hb⟩
             refine ⟨_, rfl, ?_⟩
             have n0_ := Aside0.mk (Kd.R_below (rz_ HO_5.out) hb)
             have n1_ := Aside0.mk (blk_below (bz_ BK151.out) hb)
             have n2_ := Aside0.mk (below_step (by repeat (first | (with_reducible first | exact HB.out | apply below_alloc | apply pw_below_drewN | apply below_drew1 | refine below_set ?_ GE151.out) | exact HB.out)) hb)
             clear HO_5
             clear BK151
             clear HB
             have HO_5 := n0_
             have BK151 := n1_
             have HB := n2_
             clear n0_ n1_ n2_
             (try clear hb)
             (try clear hb2)
             (try clear hk)
             (try clear hi)
             refine hK.out _ _ ⟨(blk_cell BK151.out 0).trans rfl, (blk_cell BK151.out 1).trans rfl, ((HB.out.cell (World.block_lt_of_cell? w _ hw155_0)).trans hw155_0), ((HB.out.cell (World.block_lt_of_cell? w _ hw155_1)).trans hw155_1), ((HB.out.cell (World.block_lt_of_cell? w _ hw157_0)).trans hw157_0), ((HB.out.cell (World.block_lt_of_cell? w _ hw157_1)).trans hw157_1)⟩ (fun hHeld => ?_)
             clear hK K
             refine norm_ (a' := ?_) ?_ ?_
             rotate_left
             ·show Act.put _ (some 42) _ = _
              simp only [Act.put, List.setIfInBounds_toArray, List.set_cons_zero, List.set_cons_succ, i64_w, i32_w]
              rfl
             refine pA_ 16 (some 8) (bl 17 18) HT_.out (h := ?_)
             refine pA_ 17 (some 9) (bl 18 18) HT_.out (h := ?_)
             refine done_ (done_of HT_.out (by kernel_rfl)) ?_
             have p159 : 0 ≤ (t156 : Int) := of_decide_eq_true (by first | (with_reducible assumption) | assumption)
             have q159 : t156 < (x5_2.length : Int) := of_decide_eq_true (by first | (with_reducible assumption) | assumption)
             obtain ⟨ad159, e159, hx159_0⟩ := Kd.at_int (Kd.R_reads' HO_5.out).2.2 t156 p159 q159
             cases e159
             replace p159 := eq_true p159
             replace q159 := eq_true q159
             try go_wp2
             (try simp only [← hl5_2])
             go_roundg k2
             case measure => have := HK1.out; have := HK2.out; omega
             case rel => exact ⟨(x5_2), (wrap64 (x7_2 + 1)), (by first | rfl | (simp; done) | (simp [*]; done)), H', ⟨by have := HK1.out; have := HK2.out; omega⟩, ⟨by (try simp only [hl5_2]); (with_reducible repeat (first | apply Kd.R_alloc | apply Kd.R_drewN | apply Kd.R_drew)); exact HO_5.out⟩, ⟨by (try simp only [hl5_2]); (with_reducible repeat (first | refine blk_drewN ?_ _ | refine blk_drew ?_ | refine blk_alloc ?_ _)); exact BK151.out⟩, ⟨by repeat (first | (with_reducible first | exact HB.out | apply below_alloc | apply pw_below_drewN | apply below_drew1 | refine below_set ?_ GE151.out) | exact HB.out)⟩⟩
           ·rw [if_neg c16] at H
            exact absurd H (by simp)
          ·rw [if_neg c15] at H
           exact absurd H (by simp)
         ·rw [if_neg c12] at H
          exact absurd H (by simp)
        ·rw [if_neg c11] at H
         have c11b0 : decide (x7_2 < (l0_1.length : Int)) = false := decide_eq_false c11
         clear c11
         have H' := Aside0.mk H
         clear H
         have hcz69_0 : wr.cell? ⟨gb151, 0, none⟩ = some (.slice A0_0 l0_0.length c0_0) := (blk_cell BK151.out 0).trans rfl
         have hcz69_1 : wr.cell? ⟨gb151, 1, none⟩ = some (.slice A0_1 l0_1.length c0_1) := (blk_cell BK151.out 1).trans rfl
         have hfz69_0 := blk_frozen BK151.out 0
         have hfz69_1 := blk_frozen BK151.out 1
         go_wp2
         (try simp only [← hl5_2])
         go_roundg k2
         case measure => have := HK1.out; have := HK2.out; omega
         case rel => exact ⟨(x5_2), (wrap64 (x6_1 + 1)), (by first | rfl | (simp; done) | (simp [*]; done)), H', ⟨by have := HK1.out; have := HK2.out; omega⟩, ⟨by (try simp only [hl5_2]); (with_reducible repeat (first | apply Kd.R_alloc | apply Kd.R_drewN | apply Kd.R_drew)); exact HO_5.out⟩, ⟨by (try simp only [hl5_2]); (with_reducible repeat (first | refine blk_drewN ?_ _ | refine blk_drew ?_ | refine blk_alloc ?_ _)); exact BK151.out⟩, ⟨by repeat (first | (with_reducible first | exact HB.out | apply below_alloc | apply pw_below_drewN | apply below_drew1 | refine below_set ?_ GE151.out) | exact HB.out)⟩⟩
     ·rw [if_neg c9] at H
      have c9b0 : decide (x6_1 ≤ (x5_1.length : Int)) = false := decide_eq_false c9
      clear c9
      obtain rfl := Option.some.inj H
      obtain ⟨Ao70, co70, eo70⟩ := Kd.R_slice HO_5.out
      subst eo70
      go_wp2
      go_ret
      exact ⟨_, by first | rfl | (simp [errW_none, errW_some] <;> rfl) | (simp [*, errW_none, errW_some] <;> rfl), rz_ HO_5.out, by repeat (first | (with_reducible first | exact HB.out | apply below_alloc | apply pw_below_drewN | apply below_drew1 | refine below_set ?_ GE151.out) | exact HB.out)⟩
  ·rw [if_neg c4] at H
   exact absurd H (by simp)
 ·rw [if_neg c3] at H
  exact absurd H (by simp)

end Go.Proofs.Ytdiejmhphhdcfaa.Q

-- Written by a program of this session (wip/xprint.py over the kit's printer).
import Derived.Test.YtlbkoejpjpcgaaaQ0
import Derived.Test.YtlbkoejpjpcgaaaQF123
import Derived.Test.YtlbkoejpjpcgaaaQF90
namespace Go.Proofs.Ytlbkoejpjpcgaaa.Q
open Go.RowKit Go.Proofs.YtlbkoejpjpcgaaaW.PrintWords Go.Proofs.YtlbkoejpjpcgaaaW.PrintLast
set_option linter.unusedVariables false
set_option linter.unusedSimpArgs false

/-! ### spec_l5Depths: function 88 -/
mutual
def spec_l5Depths.l0 : Nat → List Int → Int → List (S108) → List (S100) → Option (List Int)
 | 0, _, _, _, _ => none
 | k + 1, x3, x4, x152000, x152001 => if x4 < (x3.length : Int) then (spec_l5Depths.l1 k x3 x4 0 x152000 x152001) else (some x3)
def spec_l5Depths.l1 : Nat → List Int → Int → Int → List (S108) → List (S100) → Option (List Int)
 | 0, _, _, _, _, _ => none
 | k + 1, x3, x4, x5, x152000, x152001 => if x5 < (x152001.length : Int) then (if 0 ≤ x5 then ((spec_l2Find.f x152000 x152001 ((rd_T100 x152001 x5).f0)).bind fun t156 => ((spec_l2Find.f x152000 x152001 ((rd_T100 x152001 x5).f1)).bind fun t158 => (if 0 ≤ t158 then (if t158 < (x3.length : Int) then (if 0 ≤ t156 then (if t156 < (x3.length : Int) then ((spec_l1Most.f (rd x3 t158) (wrap64 ((rd x3 t156) + 1))).bind fun t161 => (spec_l5Depths.l1 k (x3.set (t158 : Int).toNat t161) x4 (wrap64 (x5 + 1)) x152000 x152001)) else (none)) else (none)) else (none)) else (none)))) else (none)) else (spec_l5Depths.l0 k x3 (wrap64 (x4 + 1)) x152000 x152001)
end
def spec_l5Depths.f (k : Nat) (l0_0 : List (S108)) (l0_1 : List (S100)) : Option (List Int) := if 0 ≤ (l0_0.length : Int) then (if ((l0_0.length : Int) : Int).toNat ≤ 35184372088832 then (spec_l5Depths.l0 k (List.replicate ((l0_0.length : Int) : Int).toNat 0) 0 l0_0 l0_1) else (none)) else (none)
theorem spec_l5Depths.mono_l : ∀ k, (∀ y0 y1 y2 y3, LeO (spec_l5Depths.l0 k y0 y1 y2 y3) (spec_l5Depths.l0 (k + 1) y0 y1 y2 y3)) ∧ (∀ y0 y1 y2 y3 y4, LeO (spec_l5Depths.l1 k y0 y1 y2 y3 y4) (spec_l5Depths.l1 (k + 1) y0 y1 y2 y3 y4))
 | 0 => ⟨fun _ _ _ _ r h => by simp [spec_l5Depths.l0] at h, fun _ _ _ _ _ r h => by simp [spec_l5Depths.l1] at h⟩
 | k + 1 => by
  obtain ⟨ih0, ih1⟩ := spec_l5Depths.mono_l k
  refine ⟨?_, ?_⟩
  ·intro y0 y1 y2 y3
   unfold spec_l5Depths.l0
   repeat' first
   | (with_reducible exact ih0 _ _ _ _)
   | (with_reducible exact ih1 _ _ _ _ _)
   | (with_reducible exact LeO.refl _)
   | (with_reducible exact LeO.none _)
   | (with_reducible refine LeO.ite ?_ ?_)
   | (with_reducible refine LeO.bind ?_ (fun _ => ?_))
   | exact ih0 _ _ _ _
   | exact ih1 _ _ _ _ _
   | exact LeO.none _
   | refine LeO.ite ?_ ?_
   | refine LeO.bind ?_ (fun _ => ?_)
  ·intro y0 y1 y2 y3 y4
   unfold spec_l5Depths.l1
   repeat' first
   | (with_reducible exact ih0 _ _ _ _)
   | (with_reducible exact ih1 _ _ _ _ _)
   | (with_reducible exact LeO.refl _)
   | (with_reducible exact LeO.none _)
   | (with_reducible refine LeO.ite ?_ ?_)
   | (with_reducible refine LeO.bind ?_ (fun _ => ?_))
   | exact ih0 _ _ _ _
   | exact ih1 _ _ _ _ _
   | exact LeO.none _
   | refine LeO.ite ?_ ?_
   | refine LeO.bind ?_ (fun _ => ?_)
theorem spec_l5Depths.mono : ∀ a0 a1 k, LeO (spec_l5Depths.f k a0 a1) (spec_l5Depths.f (k + 1) a0 a1) := by
 intro a0 a1 k
 obtain ⟨ih0, ih1⟩ := spec_l5Depths.mono_l k
 unfold spec_l5Depths.f
 repeat' first
   | (with_reducible exact ih0 _ _ _ _)
   | (with_reducible exact ih1 _ _ _ _ _)
   | (with_reducible exact LeO.refl _)
   | (with_reducible exact LeO.none _)
   | (with_reducible refine LeO.ite ?_ ?_)
   | (with_reducible refine LeO.bind ?_ (fun _ => ?_))
   | exact ih0 _ _ _ _
   | exact ih1 _ _ _ _ _
   | exact LeO.none _
   | refine LeO.ite ?_ ?_
   | refine LeO.bind ?_ (fun _ => ?_)
def spec_l5Depths.T8 : Bool × List (List Nat × List Nat) := (true, [([], []), ([], []), ([1], [1]), ([], []), ([2, 3], [2, 3]), ([4], [4]), ([5], [5]), ([0, 6], [0, 6]), ([], []), ([], []), ([9], [9]), ([], []), ([10, 11], [10, 11]), ([12], [12]), ([13], [13]), ([8, 14, 7], [8, 14]), ([7, 15, 0, 1, 2, 3, 4, 5, 6, 7], [7]), ([15, 16, 0, 1, 2, 3, 4, 5, 6, 7, 8, 9, 10, 11, 12, 13, 14, 15, 16], [15])])
def spec_l5Depths.B8 : List Nat := [0, 0, 2, 0, 14, 30, 62, 127, 0, 0, 512, 0, 3584, 7680, 15872, 32767, 65535, 131071]
theorem spec_l5Depths.tab8 : rtab .any (opsOf Try.f88 8) = spec_l5Depths.T8 := by kernel_rfl
theorem spec_l5Depths.bits8 : waitsOk spec_l5Depths.T8.2 spec_l5Depths.B8 = true := by kernel_rfl
def spec_l5Depths.T9 : Bool × List (List Nat × List Nat) := (true, [([], []), ([], []), ([], []), ([], []), ([2, 3], [2, 3]), ([4], [4]), ([], []), ([], []), ([6, 7], [6, 7]), ([8], [8]), ([9], [9]), ([5, 10], [5, 10]), ([0, 1, 0, 1, 2, 3, 4, 5, 6, 7, 8, 9, 10, 11], [0, 1]), ([12, 11, 11, 0, 1, 2, 3, 4, 5, 6, 7, 8, 9, 10, 11], [11, 12])])
def spec_l5Depths.B9 : List Nat := [0, 0, 0, 0, 12, 28, 0, 0, 192, 448, 960, 2044, 4095, 8191]
theorem spec_l5Depths.tab9 : rtab .any (opsOf Try.f88 9) = spec_l5Depths.T9 := by kernel_rfl
theorem spec_l5Depths.bits9 : waitsOk spec_l5Depths.T9.2 spec_l5Depths.B9 = true := by kernel_rfl
set_option maxHeartbeats 8000000 in
set_option maxRecDepth 100000 in
theorem spec_l5Depths.calls (k : Nat) (A0_0 : Option Addr) (c0_0 : Nat) (l0_0 : List (S108)) (A0_1 : Option Addr) (c0_1 : Nat) (l0_1 : List (S100)) (r : List Int) (w : World) (hr0_0 : Kd.C k108 w A0_0 l0_0.length l0_0) (hc0_0 : l0_0.length ≤ c0_0) (hr0_1 : Kd.C k100 w A0_1 l0_1.length l0_1) (hc0_1 : l0_1.length ≤ c0_1) (h : spec_l5Depths.f k l0_0 l0_1 = some r) :
  Calls Try.prog 88 #[.agg #[.slice A0_0 l0_0.length c0_0, .slice A0_1 l0_1.length c0_1]] w fun e w' => ∃ v0_ : Value, e = .returned (v0_) ∧ Kd.R (Kd.int .i64) 3 w' w.heap.size (fun _ => True) v0_ r ∧ Below w.heap.size w w' := by
 have hu33 := Try.underlying33
 have HR0_0 := Aside0.mk hr0_0
 have HC0_0 := Aside0.mk hc0_0
 clear hr0_0 hc0_0
 have HR0_1 := Aside0.mk hr0_1
 have HC0_1 := Aside0.mk hc0_1
 clear hr0_1 hc0_1
 have HB := Aside0.mk (Below.refl w.heap.size w)
 have H : (if 0 ≤ (l0_0.length : Int) then (if ((l0_0.length : Int) : Int).toNat ≤ 35184372088832 then (spec_l5Depths.l0 k (List.replicate ((l0_0.length : Int) : Int).toNat 0) 0 l0_0 l0_1) else (none)) else (none)) = some r := h
 clear h
 by_cases c2 : 0 ≤ (l0_0.length : Int)
 ·rw [if_pos c2] at H
  have c2b0 := eq_true c2
  have c2b1 : decide (0 ≤ (l0_0.length : Int)) = true := decide_eq_true c2
  clear c2
  by_cases c3 : ((l0_0.length : Int) : Int).toNat ≤ 35184372088832
  ·rw [if_pos c3] at H
   have c3b0 := eq_true c3
   have c3b1 : decide (((l0_0.length : Int) : Int).toNat ≤ 35184372088832) = true := decide_eq_true c3
   clear c3
   obtain ⟨y152, hy152⟩ : ∃ y_ : List Int, y_ = (List.replicate ((l0_0.length : Int) : Int).toNat 0) := ⟨_, rfl⟩
   replace H : (spec_l5Depths.l0 k y152 0 l0_0 l0_1) = some r := by first | (rw [hy152]; with_reducible exact H) | (have H2_ := (Option.bind_some _ _).symm.trans H; rw [hy152]; with_reducible exact H2_) | (have H2_ := (Option.bind_some _ _).symm.trans H; with_reducible exact H2_) | with_reducible exact H | (rw [hy152]; exact H) | exact H
   have Ny152 := Aside0.mk hy152
   clear hy152
   have H' := Aside0.mk H
   clear H
   go_enter Try.func88, Try.ntmps88
   go_wp2_with (first | ((with_reducible refine gate_dst (N := 1) rfl ?_); refine box_event ?hg (N := 1) ?hd (cs := #[.slice A0_0 l0_0.length c0_0, .slice A0_1 l0_1.length c0_1]) (t := 33) ?hr ?_; (case hd => rfl); (case hg => rfl); (case hr => first | (go_simp; done) | (go_simp; rfl)); intro gb151 hg w4 hbox hb; have n0_ := Aside0.mk (below_step (wz_ HB.out) hb); have n1_ := Aside0.mk (hbox); have n2_ := Aside0.mk ((by rw [hg]; exact (below_size (wz_ HB.out)) : w.heap.size ≤ gb151)); have n3_ := Aside0.mk ((by rw [hg]; exact (below_size (wz_ HB.out)) : w.heap.size ≤ gb151)); clear HB; have HB := n0_; have BK151 := n1_; have GW151 := n2_; have GE151 := n3_; clear n0_ n1_ n2_ n3_; clear hb hbox hg; have hcz5_0 : w4.cell? ⟨gb151, 0, none⟩ = some (.slice A0_0 l0_0.length c0_0) := (blk_cell BK151.out 0).trans rfl; have hcz5_1 : w4.cell? ⟨gb151, 1, none⟩ = some (.slice A0_1 l0_1.length c0_1) := (blk_cell BK151.out 1).trans rfl; have hfz5_0 := blk_frozen BK151.out 0; have hfz5_1 := blk_frozen BK151.out 1) | ((with_reducible refine gate_dst (N := 11) rfl ?_); refine Kd.R_make (Kd.int .i64) _ 3 rfl (N := 11) rfl 54 _ _ rfl (l0_0.length : Int) rfl rfl Try.underlying54 (.int .i64 0) 8 info3 rfl (by decide) (by omega) 0 (ok := fun _ => True) (okp := fun _ => True) rfl (fun _ hk => hk) trivial (od_) (Nat.le_trans (Nat.mul_le_mul_right _ (od_ : (l0_0.length : Int).toNat ≤ 35184372088832)) (by omega)) (Below.refl _ _) (Nat.le_refl _) ?_; intro v153 w6 ho7 hb hg_ hnew_; clear hg_ hnew_; (first | rw [← Ny152.out] at ho7 | (simp only [Int.reduceToNat] at ho7; rw [← Ny152.out] at ho7)); have n0_ := Aside0.mk (Kd.R_lower ho7 (below_size (by repeat (first | (with_reducible first | exact HB.out | apply below_alloc | apply pw_below_drewN | apply below_drew1 | refine below_set ?_ GE151.out) | exact HB.out)))); have n1_ := Aside0.mk (blk_below (bz_ BK151.out) hb); have n2_ := Aside0.mk (below_step (by repeat (first | (with_reducible first | exact HB.out | apply below_alloc | apply pw_below_drewN | apply below_drew1 | refine below_set ?_ GE151.out) | exact HB.out)) hb); clear BK151; clear HB; have HO154 := n0_; have BK151 := n1_; have HB := n2_; clear n0_ n1_ n2_; clear hb ho7))
   go_loopg [4] k (fun kq v4 w' => ∃ (x3_1 : List Int) (x4_1 : Int), v4 = .int .i64 x4_1 ∧ Aside0 (spec_l5Depths.l0 kq x3_1 x4_1 l0_0 l0_1 = some r) ∧ Aside0 (kq ≤ k) ∧ Aside0 (Kd.R (Kd.int .i64) 3 w' w.heap.size (fun _ => True) v153 x3_1) ∧ Aside0 (w'.heap[gb151]? = some (.cells #[(.slice A0_0 l0_0.length c0_0), (.slice A0_1 l0_1.length c0_1)] 33 (0, 0))) ∧ Aside0 (Below w.heap.size w w'))
   case atStart => exact ⟨(y152), (0), (by first | rfl | (simp; done) | (simp [*]; done)), H', ⟨Nat.le_refl _⟩, ⟨rz_ HO154.out⟩, ⟨bz_ BK151.out⟩, ⟨by repeat (first | (with_reducible first | exact HB.out | apply below_alloc | apply pw_below_drewN | apply below_drew1 | refine below_set ?_ GE151.out) | exact HB.out)⟩⟩
   case round =>
    clear H'
    try clear c2
    try clear c2b0
    try clear c2b1
    try clear p2
    try clear c3
    try clear c3b0
    try clear c3b1
    try clear hcz5_0
    try clear hcz5_1
    try clear hfz5_0
    try clear hfz5_1
    obtain ⟨x3_1, x4_1, rfl, HA, HK1, HO_3, BK151, HB⟩ := hrel
    cases gk with
    | zero => exact absurd HA.out (by simp [spec_l5Depths.l0])
    | succ k1 =>
     have H := HA.out
     clear HA
     simp only [spec_l5Depths.l0] at H
     by_cases c8 : x4_1 < (x3_1.length : Int)
     ·rw [if_pos c8] at H
      have c8b0 : decide (x4_1 < (x3_1.length : Int)) = true := decide_eq_true c8
      clear c8
      have H' := Aside0.mk H
      clear H
      obtain ⟨Ao9, co9, eo9⟩ := Kd.R_slice HO_3.out
      subst eo9
      go_wp2
      go_loopg [5] k1 (fun kq v5 w' => ∃ (x3_2 : List Int) (x5_2 : Int), v5 = .int .i64 x5_2 ∧ Aside0 (spec_l5Depths.l1 kq x3_2 x4_1 x5_2 l0_0 l0_1 = some r) ∧ Aside0 (kq ≤ k1) ∧ Aside0 (Kd.R (Kd.int .i64) 3 w' w.heap.size (fun _ => True) (.slice Ao9 x3_1.length co9) x3_2) ∧ Aside0 (w'.heap[gb151]? = some (.cells #[(.slice A0_0 l0_0.length c0_0), (.slice A0_1 l0_1.length c0_1)] 33 (0, 0))) ∧ Aside0 (Below w.heap.size w w'))
      case atStart => exact ⟨(x3_1), (0), (by first | rfl | (simp; done) | (simp [*]; done)), H', ⟨Nat.le_refl _⟩, ⟨rz_ HO_3.out⟩, ⟨bz_ BK151.out⟩, ⟨by repeat (first | (with_reducible first | exact HB.out | apply below_alloc | apply pw_below_drewN | apply below_drew1 | refine below_set ?_ GE151.out) | exact HB.out)⟩⟩
      case round =>
       clear H'
       try clear c2
       try clear c2b0
       try clear c2b1
       try clear p2
       try clear c3
       try clear c3b0
       try clear c3b1
       try clear c8
       try clear c8b0
       try clear hcz5_0
       try clear hcz5_1
       try clear hfz5_0
       try clear hfz5_1
       try clear p2
       obtain ⟨x3_2, x5_2, rfl, HA, HK2, HO_3, BK151, HB⟩ := hrel
       have hl3_2 := (Kd.R_reads' HO_3.out).1
       rw [hl3_2] at HO_3
       (try simp only [hl3_2])
       (try simp only [hl3_2] at BK151)
       cases gk with
       | zero => exact absurd HA.out (by simp [spec_l5Depths.l1])
       | succ k2 =>
        have H := HA.out
        clear HA
        simp only [spec_l5Depths.l1] at H
        by_cases c10 : x5_2 < (l0_1.length : Int)
        ·rw [if_pos c10] at H
         have c10b0 : decide (x5_2 < (l0_1.length : Int)) = true := decide_eq_true c10
         clear c10
         by_cases c11 : 0 ≤ x5_2
         ·rw [if_pos c11] at H
          have c11b0 : decide (0 ≤ x5_2) = true := decide_eq_true c11
          clear c11
          replace H := Option.bind_eq_some_iff.mp H
          obtain ⟨t156, A120, H⟩ := H
          replace H : ((spec_l2Find.f l0_0 l0_1 ((rd_T100 l0_1 x5_2).f1)).bind fun t158 => (if 0 ≤ t158 then (if t158 < (x3_2.length : Int) then (if 0 ≤ t156 then (if t156 < (x3_2.length : Int) then ((spec_l1Most.f (rd x3_2 t158) (wrap64 ((rd x3_2 t156) + 1))).bind fun t161 => (spec_l5Depths.l1 k2 (x3_2.set (t158 : Int).toNat t161) x4_1 (wrap64 (x5_2 + 1)) l0_0 l0_1)) else (none)) else (none)) else (none)) else (none))) = some r := H
          have A12 := Aside0.mk A120
          clear A120
          replace H := Option.bind_eq_some_iff.mp H
          obtain ⟨t158, A130, H⟩ := H
          replace H : (if 0 ≤ t158 then (if t158 < (x3_2.length : Int) then (if 0 ≤ t156 then (if t156 < (x3_2.length : Int) then ((spec_l1Most.f (rd x3_2 t158) (wrap64 ((rd x3_2 t156) + 1))).bind fun t161 => (spec_l5Depths.l1 k2 (x3_2.set (t158 : Int).toNat t161) x4_1 (wrap64 (x5_2 + 1)) l0_0 l0_1)) else (none)) else (none)) else (none)) else (none)) = some r := H
          have A13 := Aside0.mk A130
          clear A130
          by_cases c14 : 0 ≤ t158
          ·rw [if_pos c14] at H
           have c14b0 : decide (0 ≤ t158) = true := decide_eq_true c14
           clear c14
           by_cases c15 : t158 < (x3_2.length : Int)
           ·rw [if_pos c15] at H
            have c15b0 : decide (t158 < (x3_2.length : Int)) = true := decide_eq_true c15
            clear c15
            by_cases c16 : 0 ≤ t156
            ·rw [if_pos c16] at H
             have c16b0 : decide (0 ≤ t156) = true := decide_eq_true c16
             clear c16
             by_cases c17 : t156 < (x3_2.length : Int)
             ·rw [if_pos c17] at H
              have c17b0 : decide (t156 < (x3_2.length : Int)) = true := decide_eq_true c17
              clear c17
              replace H := Option.bind_eq_some_iff.mp H
              obtain ⟨t161, A180, H⟩ := H
              replace H : (spec_l5Depths.l1 k2 (x3_2.set (t158 : Int).toNat t161) x4_1 (wrap64 (x5_2 + 1)) l0_0 l0_1) = some r := H
              have A18 := Aside0.mk A180
              clear A180
              obtain ⟨y162, hy162⟩ : ∃ y_ : List Int, y_ = (x3_2.set (t158 : Int).toNat t161) := ⟨_, rfl⟩
              replace H : (spec_l5Depths.l1 k2 y162 x4_1 (wrap64 (x5_2 + 1)) l0_0 l0_1) = some r := by first | (rw [hy162]; with_reducible exact H) | (have H2_ := (Option.bind_some _ _).symm.trans H; rw [hy162]; with_reducible exact H2_) | (have H2_ := (Option.bind_some _ _).symm.trans H; with_reducible exact H2_) | with_reducible exact H | (rw [hy162]; exact H) | exact H
              have Ny162 := Aside0.mk hy162
              clear hy162
              have H' := Aside0.mk H
              clear H
              have hcz20_0 : wr.cell? ⟨gb151, 0, none⟩ = some (.slice A0_0 l0_0.length c0_0) := (blk_cell BK151.out 0).trans rfl
              have hcz20_1 : wr.cell? ⟨gb151, 1, none⟩ = some (.slice A0_1 l0_1.length c0_1) := (blk_cell BK151.out 1).trans rfl
              have hfz20_0 := blk_frozen BK151.out 0
              have hfz20_1 := blk_frozen BK151.out 1
              try go_wp2
              have n0_ := Aside0.mk (Kd.R_drew HO_3.out)
              have n1_ := Aside0.mk (blk_drew BK151.out)
              have n2_ := Aside0.mk (below_drew1 HB.out)
              clear HO_3
              clear BK151
              clear HB
              have HO_3 := n0_
              have BK151 := n1_
              have HB := n2_
              clear n0_ n1_ n2_
              have p155 : 0 ≤ (x5_2 : Int) := od_
              have q155 : x5_2 < (l0_1.length : Int) := od_
              obtain ⟨ad155, e155, hx155_0, hx155_1⟩ := at_T100 HR0_1.out x5_2 p155 q155
              have hw155_1 := hx155_1
              have hw155_0 := hx155_0
              cases e155
              replace hx155_0 := lc_ HB.out hx155_0
              replace hx155_1 := lc_ HB.out hx155_1
              replace p155 := eq_true p155
              replace q155 := eq_true q155
              have p157 : 0 ≤ (x5_2 : Int) := od_
              have q157 : x5_2 < (l0_1.length : Int) := od_
              obtain ⟨ad157, e157, hx157_0, hx157_1⟩ := at_T100 HR0_1.out x5_2 p157 q157
              have hw157_1 := hx157_1
              have hw157_0 := hx157_0
              obtain rfl : ad155 = ad157 := (by injection e157)
              replace hx157_0 := lc_ HB.out hx157_0
              replace hx157_1 := lc_ HB.out hx157_1
              replace p157 := eq_true p157
              replace q157 := eq_true q157
              refine start_ (n := 18) (S := fun w' => w'.cell? ⟨gb151, 0, none⟩ = some (.slice A0_0 l0_0.length c0_0) ∧ w'.cell? ⟨gb151, 1, none⟩ = some (.slice (some ad155) l0_1.length c0_1) ∧ w'.cell? (ad155.add ((x5_2).toNat * 2)) = some (.int .i64 ((rd_T100 l0_1 x5_2).f0)) ∧ w'.cell? ⟨(ad155.add ((x5_2).toNat * 2)).block, (ad155.add ((x5_2).toNat * 2)).off + 1, none⟩ = some (.int .i64 ((rd_T100 l0_1 x5_2).f1)) ∧ w'.cell? (ad155.add ((x5_2).toNat * 2)) = some (.int .i64 ((rd_T100 l0_1 x5_2).f0)) ∧ w'.cell? ⟨(ad155.add ((x5_2).toNat * 2)).block, (ad155.add ((x5_2).toNat * 2)).off + 1, none⟩ = some (.int .i64 ((rd_T100 l0_1 x5_2).f1))) (ds := []) #[false, false, false, false, false, false, false, false, false, false, false, false, false, false, false, false, false, false] (by kernel_rfl) rfl rfl ⟨(blk_cell BK151.out 0).trans rfl, (blk_cell BK151.out 1).trans rfl, ((HB.out.cell (World.block_lt_of_cell? w _ hw155_0)).trans hw155_0), ((HB.out.cell (World.block_lt_of_cell? w _ hw155_1)).trans hw155_1), ((HB.out.cell (World.block_lt_of_cell? w _ hw157_0)).trans hw157_0), ((HB.out.cell (World.block_lt_of_cell? w _ hw157_1)).trans hw157_1)⟩ (fun hHeld => ?_); refine with_tabW spec_l5Depths.tab8 spec_l5Depths.bits8 (fun HT_ HW_ => ?_)
              generalize wr.drew = w21 at HO_3 BK151 HB hx155_0 hx155_1 hx157_0 hx157_1 hHeld ⊢
              refine pA_ 1 (some 26) #[false, true, false, false, false, false, false, false, false, false, false, false, false, false, false, false, false, false] HT_.out (h := ?_)
              refine pA_ 3 (some 28) #[false, true, false, true, false, false, false, false, false, false, false, false, false, false, false, false, false, false] HT_.out (h := ?_)
              refine pA_ 9 (some 34) #[false, true, false, true, false, false, false, false, false, true, false, false, false, false, false, false, false, false] HT_.out (h := ?_)
              refine pA_ 11 (some 36) #[false, true, false, true, false, false, false, false, false, true, false, true, false, false, false, false, false, false] HT_.out (h := ?_)
              refine tA_ 0 (some 25) #[true, true, false, true, false, false, false, false, false, true, false, true, false, false, false, false, false, false] HT_.out HW_.out hHeld (h := ?_)
              refine tA_ 2 (some 27) #[true, true, true, true, false, false, false, false, false, true, false, true, false, false, false, false, false, false] HT_.out HW_.out hHeld (h := ?_)
              refine pA_ 4 (some 29) #[true, true, true, true, true, false, false, false, false, true, false, true, false, false, false, false, false, false] HT_.out (h := ?_)
              refine pA_ 5 (some 30) #[true, true, true, true, true, true, false, false, false, true, false, true, false, false, false, false, false, false] HT_.out (h := ?_)
              refine tA_ 6 (some 31) #[true, true, true, true, true, true, true, false, false, true, false, true, false, false, false, false, false, false] HT_.out HW_.out hHeld (h := ?_)
              refine tA_ 8 (some 33) #[true, true, true, true, true, true, true, false, true, true, false, true, false, false, false, false, false, false] HT_.out HW_.out hHeld (h := ?_)
              refine tA_ 10 (some 35) #[true, true, true, true, true, true, true, false, true, true, true, true, false, false, false, false, false, false] HT_.out HW_.out hHeld (h := ?_)
              refine pA_ 12 (some 37) #[true, true, true, true, true, true, true, false, true, true, true, true, true, false, false, false, false, false] HT_.out (h := ?_)
              refine pA_ 13 (some 38) #[true, true, true, true, true, true, true, false, true, true, true, true, true, true, false, false, false, false] HT_.out (h := ?_)
              refine tA_ 14 (some 39) #[true, true, true, true, true, true, true, false, true, true, true, true, true, true, true, false, false, false] HT_.out HW_.out hHeld (h := ?_)
              refine one_ (i := 7) (N := some 32) (bl 15 18) rfl rfl (one_of HT_.out (by kernel_rfl)) (by decide) (fun K hK => ?_)
              refine goes_ Try.func90 (by kernel_rfl) rfl #[.agg #[.slice A0_0 l0_0.length c0_0, .slice (some ad155) l0_1.length c0_1], .int .i64 ((rd_T100 l0_1 x5_2).f0)] (by rfl) rfl rfl (by (try simp only [List.map_toArray, List.map_cons, List.map_nil]); first | done | rfl | (simp only [List.length_drop, List.length_take]; rfl)) ?_
              with_reducible refine (spec_l2Find.calls _ _ l0_0 _ _ l0_1 ((rd_T100 l0_1 x5_2).f0) t156 _ ?side1 ?side2 ?side3 ?side4 A12.out).mono ?_
              (case side1 => exact cz_ (Kd.C_below HR0_0.out HB.out))
              (case side2 => exact HC0_0.out)
              (case side3 => exact cz_ (Kd.C_below HR0_1.out HB.out))
              (case side4 => exact HC0_1.out)
              rintro e w22 ⟨rfl, hb⟩
              refine ⟨_, rfl, ?_⟩
              have n0_ := Aside0.mk (Kd.R_below (rz_ HO_3.out) hb)
              have n1_ := Aside0.mk (blk_below (bz_ BK151.out) hb)
              have n2_ := Aside0.mk (below_step (by repeat (first | (with_reducible first | exact HB.out | apply below_alloc | apply pw_below_drewN | apply below_drew1 | refine below_set ?_ GE151.out) | exact HB.out)) hb)
              clear HO_3
              clear BK151
              clear HB
              have HO_3 := n0_
              have BK151 := n1_
              have HB := n2_
              clear n0_ n1_ n2_
              (try clear hb)
              (try clear hb2)
              (try clear hk)
              (try clear hi)
              refine hK.out _ _ ⟨(blk_cell BK151.out 0).trans rfl, (blk_cell BK151.out 1).trans rfl, ((HB.out.cell (World.block_lt_of_cell? w _ hw155_0)).trans hw155_0), ((HB.out.cell (World.block_lt_of_cell? w _ hw155_1)).trans hw155_1), ((HB.out.cell (World.block_lt_of_cell? w _ hw157_0)).trans hw157_0), ((HB.out.cell (World.block_lt_of_cell? w _ hw157_1)).trans hw157_1)⟩ (fun hHeld => ?_)
              clear hK K
              refine norm_ (a' := ?_) ?_ ?_
              rotate_left
              ·show Act.put _ (some 32) _ = _
               simp only [Act.put, List.setIfInBounds_toArray, List.set_cons_zero, List.set_cons_succ, i64_w, i32_w]
               rfl
              refine one_ (i := 15) (N := some 40) (bl 16 18) rfl rfl (one_of HT_.out (by kernel_rfl)) (by decide) (fun K hK => ?_)
              refine goes_ Try.func90 (by kernel_rfl) rfl #[.agg #[.slice A0_0 l0_0.length c0_0, .slice (some ad155) l0_1.length c0_1], .int .i64 ((rd_T100 l0_1 x5_2).f1)] (by rfl) rfl rfl (by (try simp only [List.map_toArray, List.map_cons, List.map_nil]); first | done | rfl | (simp only [List.length_drop, List.length_take]; rfl)) ?_
              with_reducible refine (spec_l2Find.calls _ _ l0_0 _ _ l0_1 ((rd_T100 l0_1 x5_2).f1) t158 _ ?side1 ?side2 ?side3 ?side4 A13.out).mono ?_
              (case side1 => exact cz_ (Kd.C_below HR0_0.out HB.out))
              (case side2 => exact HC0_0.out)
              (case side3 => exact cz_ (Kd.C_below HR0_1.out HB.out))
              (case side4 => exact HC0_1.out)
              rintro e w23 ⟨rfl, hb⟩
              refine ⟨_, rfl, ?_⟩
              have n0_ := Aside0.mk (Kd.R_below (rz_ HO_3.out) hb)
              have n1_ := Aside0.mk (blk_below (bz_ BK151.out) hb)
              have n2_ := Aside0.mk (below_step (by repeat (first | (with_reducible first | exact HB.out | apply below_alloc | apply pw_below_drewN | apply below_drew1 | refine below_set ?_ GE151.out) | exact HB.out)) hb)
              clear HO_3
              clear BK151
              clear HB
              have HO_3 := n0_
              have BK151 := n1_
              have HB := n2_
              clear n0_ n1_ n2_
              (try clear hb)
              (try clear hb2)
              (try clear hk)
              (try clear hi)
              refine hK.out _ _ ⟨(blk_cell BK151.out 0).trans rfl, (blk_cell BK151.out 1).trans rfl, ((HB.out.cell (World.block_lt_of_cell? w _ hw155_0)).trans hw155_0), ((HB.out.cell (World.block_lt_of_cell? w _ hw155_1)).trans hw155_1), ((HB.out.cell (World.block_lt_of_cell? w _ hw157_0)).trans hw157_0), ((HB.out.cell (World.block_lt_of_cell? w _ hw157_1)).trans hw157_1)⟩ (fun hHeld => ?_)
              clear hK K
              refine norm_ (a' := ?_) ?_ ?_
              rotate_left
              ·show Act.put _ (some 40) _ = _
               simp only [Act.put, List.setIfInBounds_toArray, List.set_cons_zero, List.set_cons_succ, i64_w, i32_w]
               rfl
              refine pA_ 16 (some 6) (bl 17 18) HT_.out (h := ?_)
              refine pA_ 17 (some 7) (bl 18 18) HT_.out (h := ?_)
              refine done_ (done_of HT_.out (by kernel_rfl)) ?_
              try go_wp2
              have n0_ := Aside0.mk (Kd.R_drew HO_3.out)
              have n1_ := Aside0.mk (blk_drew BK151.out)
              have n2_ := Aside0.mk (below_drew1 HB.out)
              clear HO_3
              clear BK151
              clear HB
              have HO_3 := n0_
              have BK151 := n1_
              have HB := n2_
              clear n0_ n1_ n2_
              have p159 : 0 ≤ (t158 : Int) := od_
              have q159 : t158 < (x3_2.length : Int) := od_
              obtain ⟨ad159, e159, hx159_0⟩ := Kd.at_int (Kd.R_reads' HO_3.out).2.2 t158 p159 q159
              cases e159
              replace p159 := eq_true p159
              replace q159 := eq_true q159
              have p160 : 0 ≤ (t156 : Int) := od_
              have q160 : t156 < (x3_2.length : Int) := od_
              obtain ⟨ad160, e160, hx160_0⟩ := Kd.at_int (Kd.R_reads' HO_3.out).2.2 t156 p160 q160
              obtain rfl : ad159 = ad160 := (by injection e160)
              replace p160 := eq_true p160
              replace q160 := eq_true q160
              refine start_ (n := 14) (S := fun w' => w'.cell? (ad159.add (t158).toNat) = some (.int .i64 (rd x3_2 t158)) ∧ w'.cell? (ad159.add (t156).toNat) = some (.int .i64 (rd x3_2 t156))) (ds := [13]) #[false, false, false, false, false, false, false, false, false, false, false, false, false, false] (by kernel_rfl) rfl rfl ⟨hx159_0, hx160_0⟩ (fun hHeld => ?_); refine with_tabW spec_l5Depths.tab9 spec_l5Depths.bits9 (fun HT_ HW_ => ?_)
              generalize w23.drew = w24 at HO_3 BK151 HB hx159_0 hx160_0 hHeld ⊢
              refine pA_ 0 (some 41) (bl 1 14) HT_.out (h := ?_)
              refine pA_ 1 (some 42) (bl 2 14) HT_.out (h := ?_)
              refine pA_ 2 (some 43) (bl 3 14) HT_.out (h := ?_)
              refine pA_ 3 (some 44) (bl 4 14) HT_.out (h := ?_)
              refine pA_ 4 (some 45) (bl 5 14) HT_.out (h := ?_)
              refine pA_ 6 (some 47) #[true, true, true, true, true, false, true, false, false, false, false, false, false, false] HT_.out (h := ?_)
              refine pA_ 7 (some 48) #[true, true, true, true, true, false, true, true, false, false, false, false, false, false] HT_.out (h := ?_)
              refine pA_ 8 (some 49) #[true, true, true, true, true, false, true, true, true, false, false, false, false, false] HT_.out (h := ?_)
              refine tA_ 5 (some 46) (bl 9 14) HT_.out HW_.out hHeld (h := ?_)
              refine tA_ 9 (some 50) (bl 10 14) HT_.out HW_.out hHeld (h := ?_)
              refine pA_ 10 (some 51) (bl 11 14) HT_.out (h := ?_)
              refine one_ (i := 11) (N := some 52) (bl 12 14) rfl rfl (one_of HT_.out (by kernel_rfl)) (by decide) (fun K hK => ?_)
              refine goes_ Try.func123 (by kernel_rfl) rfl #[.int .i64 (rd x3_2 t158), .int .i64 (wrap64 ((rd x3_2 t156) + 1))] (by rfl) rfl rfl (by (try simp only [List.map_toArray, List.map_cons, List.map_nil]); first | done | rfl | (simp only [List.length_drop, List.length_take]; rfl)) ?_
              with_reducible refine (spec_l1Most.calls (rd x3_2 t158) (wrap64 ((rd x3_2 t156) + 1)) t161 _ A18.out).mono ?_
              rintro e w' ⟨rfl, ⟨nd, rfl⟩⟩
              refine ⟨_, rfl, ?_⟩
              have p19 : 0 ≤ (t158 : Int) := od_
              have q19 : (t158 : Int) < ((x3_2.length : Int) : Int) := od_
              obtain ⟨go19, co19, eo19, gb19, gl19, cl19, HG19⟩ := Kd.R_form HO_3.out (by omega)
              (first | cases eo19 | (injection eo19 with ea_ en_ ec_; (first | subst ea_ | (injection ea_ with ea_; subst ea_)); subst ec_; clear en_))
              have GB19 := Aside0.mk gb19
              have GG19 := Aside0.mk HG19
              clear gb19 gl19 HG19
              (first | simp only [add_plain] at hx159_0 | skip)
              (first | simp only [add_plain] at hx160_0 | skip)
              obtain ⟨hx19_0, hf19_0⟩ := Kd.R_celln 0 HO_3.out (t158 : Int) p19 q19
              replace p19 := eq_true p19
              replace q19 := eq_true q19
              have HP25 := Kd.R_putn HO_3.out (t158 : Int) t161
              rw [← Ny162.out] at HP25
              have HQ25 := Aside0.mk HP25
              clear HP25
              refine hK.out _ _ ⟨hHeld.1, hHeld.2⟩ (fun hHeld => ?_)
              clear hK K
              refine norm_ (a' := ?_) ?_ ?_
              rotate_left
              ·show Act.put _ (some 52) _ = _
               simp only [Act.put, List.setIfInBounds_toArray, List.set_cons_zero, List.set_cons_succ, i64_w, i32_w]
               rfl
              refine pA_ 12 (some 53) (bl 13 14) HT_.out (h := ?_)
              refine last_ (i := 13) (N := none) (bl 14 14) rfl rfl (one_of HT_.out (by kernel_rfl)) (by decide) (fun K hK => ?_)
              refine skip_ (w1 := ?_) (by rfl) rfl ?_ ?_
              rotate_left
              ·go_simp
               rfl
              refine hK.out _ _ ?_
              clear hK K
              refine done_ (done_of HT_.out (by kernel_rfl)) ?_
              try go_wp2
              (try simp only [← hl3_2])
              go_roundg k2
              case measure => have := HK1.out; have := HK2.out; omega
              case rel => exact ⟨(y162), (wrap64 (x5_2 + 1)), (by first | rfl | (simp; done) | (simp [*]; done)), H', ⟨by have := HK1.out; have := HK2.out; omega⟩, ⟨by (try simp only [hl3_2]); (with_reducible repeat (first | apply Kd.R_alloc | apply Kd.R_drewN | apply Kd.R_drew)); exact HQ25.out⟩, ⟨by (try simp only [hl3_2]); (with_reducible repeat (first | refine blk_drewN ?_ _ | refine blk_drew ?_ | refine blk_alloc ?_ _)); refine blk_far ?_ (by have h_ := Kd.R_ne HO_3.out BK151.out (by decide); intro e_; exact h_ (by rw [e_]; rfl)) _; (with_reducible repeat (first | refine blk_drewN ?_ _ | refine blk_drew ?_ | refine blk_alloc ?_ _)); exact BK151.out⟩, ⟨by repeat (first | (with_reducible first | exact HB.out | apply below_alloc | apply pw_below_drewN | apply below_drew1 | refine below_set ?_ GB19.out | refine below_set ?_ GE151.out) | exact HB.out)⟩⟩
             ·rw [if_neg c17] at H
              exact absurd H (by simp)
            ·rw [if_neg c16] at H
             exact absurd H (by simp)
           ·rw [if_neg c15] at H
            exact absurd H (by simp)
          ·rw [if_neg c14] at H
           exact absurd H (by simp)
         ·rw [if_neg c11] at H
          exact absurd H (by simp)
        ·rw [if_neg c10] at H
         have c10b0 : decide (x5_2 < (l0_1.length : Int)) = false := decide_eq_false c10
         clear c10
         have H' := Aside0.mk H
         clear H
         have hcz26_0 : wr.cell? ⟨gb151, 0, none⟩ = some (.slice A0_0 l0_0.length c0_0) := (blk_cell BK151.out 0).trans rfl
         have hcz26_1 : wr.cell? ⟨gb151, 1, none⟩ = some (.slice A0_1 l0_1.length c0_1) := (blk_cell BK151.out 1).trans rfl
         have hfz26_0 := blk_frozen BK151.out 0
         have hfz26_1 := blk_frozen BK151.out 1
         go_wp2
         (try simp only [← hl3_2])
         go_roundg k2
         case measure => have := HK1.out; have := HK2.out; omega
         case rel => exact ⟨(x3_2), (wrap64 (x4_1 + 1)), (by first | rfl | (simp; done) | (simp [*]; done)), H', ⟨by have := HK1.out; have := HK2.out; omega⟩, ⟨by (try simp only [hl3_2]); (with_reducible repeat (first | apply Kd.R_alloc | apply Kd.R_drewN | apply Kd.R_drew)); exact HO_3.out⟩, ⟨by (try simp only [hl3_2]); (with_reducible repeat (first | refine blk_drewN ?_ _ | refine blk_drew ?_ | refine blk_alloc ?_ _)); exact BK151.out⟩, ⟨by repeat (first | (with_reducible first | exact HB.out | apply below_alloc | apply pw_below_drewN | apply below_drew1 | refine below_set ?_ GE151.out) | exact HB.out)⟩⟩
     ·rw [if_neg c8] at H
      have c8b0 : decide (x4_1 < (x3_1.length : Int)) = false := decide_eq_false c8
      clear c8
      obtain rfl := Option.some.inj H
      obtain ⟨Ao27, co27, eo27⟩ := Kd.R_slice HO_3.out
      subst eo27
      go_wp2
      go_ret
      exact ⟨_, by first | rfl | (simp [errW_none, errW_some] <;> rfl) | (simp [*, errW_none, errW_some] <;> rfl), rz_ HO_3.out, by repeat (first | (with_reducible first | exact HB.out | apply below_alloc | apply pw_below_drewN | apply below_drew1 | refine below_set ?_ GE151.out) | exact HB.out)⟩
  ·rw [if_neg c3] at H
   exact absurd H (by simp)
 ·rw [if_neg c2] at H
  exact absurd H (by simp)

end Go.Proofs.Ytlbkoejpjpcgaaa.Q

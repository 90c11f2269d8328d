-- Written by a program of this session (wip/xprint.py over the kit's printer).
import Derived.Test.YtlbkoejpjpcgaaaQ0
import Derived.Test.YtlbkoejpjpcgaaaQF90
namespace Go.Proofs.Ytlbkoejpjpcgaaa.Q
open Go.RowKit Go.Proofs.YtlbkoejpjpcgaaaW.PrintWords Go.Proofs.YtlbkoejpjpcgaaaW.PrintLast
set_option linter.unusedVariables false
set_option linter.unusedSimpArgs false

/-! ### spec_l4Later: function 83 -/
mutual
def spec_l4Later.l0 : Nat → List Int → Int → List (S108) → List (S100) → Option (List Int)
 | 0, _, _, _, _ => none
 | k + 1, x3, x4, x152000, x152001 => if x4 < (x152001.length : Int) then (if 0 ≤ x4 then ((spec_l2Find.f x152000 x152001 ((rd_T100 x152001 x4).f0)).bind fun t156 => ((spec_l2Find.f x152000 x152001 ((rd_T100 x152001 x4).f1)).bind fun t158 => (if 0 ≤ t156 then (if t156 < (x3.length : Int) then (if 0 ≤ (IntKind.u64.wrap (t158)) then (spec_l4Later.l0 k (x3.set (t156 : Int).toNat (Go.bits .or .i64 (rd x3 t156) (shl .i64 1 (IntKind.u64.wrap (t158))))) (wrap64 (x4 + 1)) x152000 x152001) else (none)) else (none)) else (none)))) else (none)) else (spec_l4Later.l1 k x3 0)
def spec_l4Later.l1 : Nat → List Int → Int → Option (List Int)
 | 0, _, _ => none
 | k + 1, x3, x7 => if x7 < (x3.length : Int) then (spec_l4Later.l2 k x3 x7 0) else (some x3)
def spec_l4Later.l2 : Nat → List Int → Int → Int → Option (List Int)
 | 0, _, _, _ => none
 | k + 1, x3, x7, x8 => if x8 < (x3.length : Int) then (if 0 ≤ x8 then (if 0 ≤ (IntKind.u64.wrap (x7)) then (if (Go.bits .and .i64 (shr .i64 (rd x3 x8) (IntKind.u64.wrap (x7))) 1) = 1 then (if 0 ≤ x7 then (if x7 < (x3.length : Int) then (spec_l4Later.l2 k (x3.set (x8 : Int).toNat (Go.bits .or .i64 (rd x3 x8) (rd x3 x7))) x7 (wrap64 (x8 + 1))) else (none)) else (none)) else (spec_l4Later.l2 k x3 x7 (wrap64 (x8 + 1)))) else (none)) else (none)) else (spec_l4Later.l1 k x3 (wrap64 (x7 + 1)))
end
def spec_l4Later.f (k : Nat) (l0_0 : List (S108)) (l0_1 : List (S100)) : Option (List Int) := if 0 ≤ (l0_0.length : Int) then (if ((l0_0.length : Int) : Int).toNat ≤ 35184372088832 then (spec_l4Later.l0 k (List.replicate ((l0_0.length : Int) : Int).toNat 0) 0 l0_0 l0_1) else (none)) else (none)
theorem spec_l4Later.mono_l : ∀ k, (∀ y0 y1 y2 y3, LeO (spec_l4Later.l0 k y0 y1 y2 y3) (spec_l4Later.l0 (k + 1) y0 y1 y2 y3)) ∧ (∀ y0 y1, LeO (spec_l4Later.l1 k y0 y1) (spec_l4Later.l1 (k + 1) y0 y1)) ∧ (∀ y0 y1 y2, LeO (spec_l4Later.l2 k y0 y1 y2) (spec_l4Later.l2 (k + 1) y0 y1 y2))
 | 0 => ⟨fun _ _ _ _ r h => by simp [spec_l4Later.l0] at h, fun _ _ r h => by simp [spec_l4Later.l1] at h, fun _ _ _ r h => by simp [spec_l4Later.l2] at h⟩
 | k + 1 => by
  obtain ⟨ih0, ih1, ih2⟩ := spec_l4Later.mono_l k
  refine ⟨?_, ?_, ?_⟩
  ·intro y0 y1 y2 y3
   unfold spec_l4Later.l0
   repeat' first
   | (with_reducible exact ih0 _ _ _ _)
   | (with_reducible exact ih1 _ _)
   | (with_reducible exact ih2 _ _ _)
   | (with_reducible exact LeO.refl _)
   | (with_reducible exact LeO.none _)
   | (with_reducible refine LeO.ite ?_ ?_)
   | (with_reducible refine LeO.bind ?_ (fun _ => ?_))
   | exact ih0 _ _ _ _
   | exact ih1 _ _
   | exact ih2 _ _ _
   | exact LeO.none _
   | refine LeO.ite ?_ ?_
   | refine LeO.bind ?_ (fun _ => ?_)
  ·intro y0 y1
   unfold spec_l4Later.l1
   repeat' first
   | (with_reducible exact ih0 _ _ _ _)
   | (with_reducible exact ih1 _ _)
   | (with_reducible exact ih2 _ _ _)
   | (with_reducible exact LeO.refl _)
   | (with_reducible exact LeO.none _)
   | (with_reducible refine LeO.ite ?_ ?_)
   | (with_reducible refine LeO.bind ?_ (fun _ => ?_))
   | exact ih0 _ _ _ _
   | exact ih1 _ _
   | exact ih2 _ _ _
   | exact LeO.none _
   | refine LeO.ite ?_ ?_
   | refine LeO.bind ?_ (fun _ => ?_)
  ·intro y0 y1 y2
   unfold spec_l4Later.l2
   repeat' first
   | (with_reducible exact ih0 _ _ _ _)
   | (with_reducible exact ih1 _ _)
   | (with_reducible exact ih2 _ _ _)
   | (with_reducible exact LeO.refl _)
   | (with_reducible exact LeO.none _)
   | (with_reducible refine LeO.ite ?_ ?_)
   | (with_reducible refine LeO.bind ?_ (fun _ => ?_))
   | exact ih0 _ _ _ _
   | exact ih1 _ _
   | exact ih2 _ _ _
   | exact LeO.none _
   | refine LeO.ite ?_ ?_
   | refine LeO.bind ?_ (fun _ => ?_)
theorem spec_l4Later.mono : ∀ a0 a1 k, LeO (spec_l4Later.f k a0 a1) (spec_l4Later.f (k + 1) a0 a1) := by
 intro a0 a1 k
 obtain ⟨ih0, ih1, ih2⟩ := spec_l4Later.mono_l k
 unfold spec_l4Later.f
 repeat' first
   | (with_reducible exact ih0 _ _ _ _)
   | (with_reducible exact ih1 _ _)
   | (with_reducible exact ih2 _ _ _)
   | (with_reducible exact LeO.refl _)
   | (with_reducible exact LeO.none _)
   | (with_reducible refine LeO.ite ?_ ?_)
   | (with_reducible refine LeO.bind ?_ (fun _ => ?_))
   | exact ih0 _ _ _ _
   | exact ih1 _ _
   | exact ih2 _ _ _
   | exact LeO.none _
   | refine LeO.ite ?_ ?_
   | refine LeO.bind ?_ (fun _ => ?_)
def spec_l4Later.T5 : Bool × List (List Nat × List Nat) := (true, [([], []), ([], []), ([1], [1]), ([], []), ([2, 3], [2, 3]), ([4], [4]), ([5], [5]), ([0, 6], [0, 6]), ([], []), ([], []), ([9], [9]), ([], []), ([10, 11], [10, 11]), ([12], [12]), ([13], [13]), ([8, 14, 7], [8, 14]), ([7, 15, 0, 1, 2, 3, 4, 5, 6, 7], [7]), ([15, 16, 0, 1, 2, 3, 4, 5, 6, 7, 8, 9, 10, 11, 12, 13, 14, 15, 16], [15])])
def spec_l4Later.B5 : List Nat := [0, 0, 2, 0, 14, 30, 62, 127, 0, 0, 512, 0, 3584, 7680, 15872, 32767, 65535, 131071]
theorem spec_l4Later.tab5 : rtab .any (opsOf Try.f83 5) = spec_l4Later.T5 := by kernel_rfl
theorem spec_l4Later.bits5 : waitsOk spec_l4Later.T5.2 spec_l4Later.B5 = true := by kernel_rfl
def spec_l4Later.T14 : Bool × List (List Nat × List Nat) := (true, [([], []), ([], []), ([], []), ([], []), ([2, 3], [2, 3]), ([4], [4]), ([], []), ([], []), ([6, 7], [6, 7]), ([8], [8]), ([5, 9], [5, 9]), ([0, 1, 0, 1, 2, 3, 4, 5, 6, 7, 8, 9, 10], [0, 1]), ([11, 10, 0, 1, 2, 3, 4, 5, 6, 7, 8, 9, 10], [10, 11])])
def spec_l4Later.B14 : List Nat := [0, 0, 0, 0, 12, 28, 0, 0, 192, 448, 1020, 2047, 4095]
theorem spec_l4Later.tab14 : rtab .any (opsOf Try.f83 14) = spec_l4Later.T14 := by kernel_rfl
theorem spec_l4Later.bits14 : waitsOk spec_l4Later.T14.2 spec_l4Later.B14 = true := by kernel_rfl
set_option maxHeartbeats 8000000 in
set_option maxRecDepth 100000 in
theorem spec_l4Later.calls (k : Nat) (A0_0 : Option Addr) (c0_0 : Nat) (l0_0 : List (S108)) (A0_1 : Option Addr) (c0_1 : Nat) (l0_1 : List (S100)) (r : List Int) (w : World) (hr0_0 : Kd.C k108 w A0_0 l0_0.length l0_0) (hc0_0 : l0_0.length ≤ c0_0) (hr0_1 : Kd.C k100 w A0_1 l0_1.length l0_1) (hc0_1 : l0_1.length ≤ c0_1) (h : spec_l4Later.f k l0_0 l0_1 = some r) :
  Calls Try.prog 83 #[.agg #[.slice A0_0 l0_0.length c0_0, .slice A0_1 l0_1.length c0_1]] w fun e w' => ∃ v0_ : Value, e = .returned (v0_) ∧ Kd.R (Kd.int .i64) 3 w' w.heap.size (fun _ => True) v0_ r ∧ Below w.heap.size w w' := by
 have hu33 := Try.underlying33
 have HR0_0 := Aside0.mk hr0_0
 have HC0_0 := Aside0.mk hc0_0
 clear hr0_0 hc0_0
 have HR0_1 := Aside0.mk hr0_1
 have HC0_1 := Aside0.mk hc0_1
 clear hr0_1 hc0_1
 have HB := Aside0.mk (Below.refl w.heap.size w)
 have H : (if 0 ≤ (l0_0.length : Int) then (if ((l0_0.length : Int) : Int).toNat ≤ 35184372088832 then (spec_l4Later.l0 k (List.replicate ((l0_0.length : Int) : Int).toNat 0) 0 l0_0 l0_1) else (none)) else (none)) = some r := h
 clear h
 by_cases c2 : 0 ≤ (l0_0.length : Int)
 ·rw [if_pos c2] at H
  have c2b0 := eq_true c2
  have c2b1 : decide (0 ≤ (l0_0.length : Int)) = true := decide_eq_true c2
  clear c2
  by_cases c3 : ((l0_0.length : Int) : Int).toNat ≤ 35184372088832
  ·rw [if_pos c3] at H
   have c3b0 := eq_true c3
   have c3b1 : decide (((l0_0.length : Int) : Int).toNat ≤ 35184372088832) = true := decide_eq_true c3
   clear c3
   obtain ⟨y152, hy152⟩ : ∃ y_ : List Int, y_ = (List.replicate ((l0_0.length : Int) : Int).toNat 0) := ⟨_, rfl⟩
   replace H : (spec_l4Later.l0 k y152 0 l0_0 l0_1) = some r := by first | (rw [hy152]; with_reducible exact H) | (have H2_ := (Option.bind_some _ _).symm.trans H; rw [hy152]; with_reducible exact H2_) | (have H2_ := (Option.bind_some _ _).symm.trans H; with_reducible exact H2_) | with_reducible exact H | (rw [hy152]; exact H) | exact H
   have Ny152 := Aside0.mk hy152
   clear hy152
   have H' := Aside0.mk H
   clear H
   go_enter Try.func83, Try.ntmps83
   go_wp2_with (first | ((with_reducible refine gate_dst (N := 1) rfl ?_); refine box_event ?hg (N := 1) ?hd (cs := #[.slice A0_0 l0_0.length c0_0, .slice A0_1 l0_1.length c0_1]) (t := 33) ?hr ?_; (case hd => rfl); (case hg => rfl); (case hr => first | (go_simp; done) | (go_simp; rfl)); intro gb151 hg w4 hbox hb; have n0_ := Aside0.mk (below_step (wz_ HB.out) hb); have n1_ := Aside0.mk (hbox); have n2_ := Aside0.mk ((by rw [hg]; exact (below_size (wz_ HB.out)) : w.heap.size ≤ gb151)); have n3_ := Aside0.mk ((by rw [hg]; exact (below_size (wz_ HB.out)) : w.heap.size ≤ gb151)); clear HB; have HB := n0_; have BK151 := n1_; have GW151 := n2_; have GE151 := n3_; clear n0_ n1_ n2_ n3_; clear hb hbox hg; have hcz5_0 : w4.cell? ⟨gb151, 0, none⟩ = some (.slice A0_0 l0_0.length c0_0) := (blk_cell BK151.out 0).trans rfl; have hcz5_1 : w4.cell? ⟨gb151, 1, none⟩ = some (.slice A0_1 l0_1.length c0_1) := (blk_cell BK151.out 1).trans rfl; have hfz5_0 := blk_frozen BK151.out 0; have hfz5_1 := blk_frozen BK151.out 1) | ((with_reducible refine gate_dst (N := 12) rfl ?_); refine Kd.R_make (Kd.int .i64) _ 3 rfl (N := 12) rfl 54 _ _ rfl (l0_0.length : Int) rfl rfl Try.underlying54 (.int .i64 0) 8 info3 rfl (by decide) (by omega) 0 (ok := fun _ => True) (okp := fun _ => True) rfl (fun _ hk => hk) trivial (od_) (Nat.le_trans (Nat.mul_le_mul_right _ (od_ : (l0_0.length : Int).toNat ≤ 35184372088832)) (by omega)) (Below.refl _ _) (Nat.le_refl _) ?_; intro v153 w6 ho7 hb hg_ hnew_; clear hg_ hnew_; (first | rw [← Ny152.out] at ho7 | (simp only [Int.reduceToNat] at ho7; rw [← Ny152.out] at ho7)); have n0_ := Aside0.mk (Kd.R_lower ho7 (below_size (by repeat (first | (with_reducible first | exact HB.out | apply below_alloc | apply pw_below_drewN | apply below_drew1 | refine below_set ?_ GE151.out) | exact HB.out)))); have n1_ := Aside0.mk (blk_below (bz_ BK151.out) hb); have n2_ := Aside0.mk (below_step (by repeat (first | (with_reducible first | exact HB.out | apply below_alloc | apply pw_below_drewN | apply below_drew1 | refine below_set ?_ GE151.out) | exact HB.out)) hb); clear BK151; clear HB; have HO154 := n0_; have BK151 := n1_; have HB := n2_; clear n0_ n1_ n2_; clear hb ho7))
   go_loopg [4] k (fun kq v4 w' => ∃ (x3_1 : List Int) (x4_1 : Int), v4 = .int .i64 x4_1 ∧ Aside0 (spec_l4Later.l0 kq x3_1 x4_1 l0_0 l0_1 = some r) ∧ Aside0 (kq ≤ k) ∧ Aside0 (Kd.R (Kd.int .i64) 3 w' w.heap.size (fun _ => True) v153 x3_1) ∧ Aside0 (w'.heap[gb151]? = some (.cells #[(.slice A0_0 l0_0.length c0_0), (.slice A0_1 l0_1.length c0_1)] 33 (0, 0))) ∧ Aside0 (Below w.heap.size w w'))
   case atStart => exact ⟨(y152), (0), (by first | rfl | (simp; done) | (simp [*]; done)), H', ⟨Nat.le_refl _⟩, ⟨rz_ HO154.out⟩, ⟨bz_ BK151.out⟩, ⟨by repeat (first | (with_reducible first | exact HB.out | apply below_alloc | apply pw_below_drewN | apply below_drew1 | refine below_set ?_ GE151.out) | exact HB.out)⟩⟩
   case round =>
    clear H'
    try clear c2
    try clear c2b0
    try clear c2b1
    try clear p2
    try clear c3
    try clear c3b0
    try clear c3b1
    try clear hcz5_0
    try clear hcz5_1
    try clear hfz5_0
    try clear hfz5_1
    obtain ⟨x3_1, x4_1, rfl, HA, HK1, HO_3, BK151, HB⟩ := hrel
    cases gk with
    | zero => exact absurd HA.out (by simp [spec_l4Later.l0])
    | succ k1 =>
     have H := HA.out
     clear HA
     simp only [spec_l4Later.l0] at H
     by_cases c8 : x4_1 < (l0_1.length : Int)
     ·rw [if_pos c8] at H
      have c8b0 : decide (x4_1 < (l0_1.length : Int)) = true := decide_eq_true c8
      clear c8
      by_cases c9 : 0 ≤ x4_1
      ·rw [if_pos c9] at H
       have c9b0 : decide (0 ≤ x4_1) = true := decide_eq_true c9
       clear c9
       replace H := Option.bind_eq_some_iff.mp H
       obtain ⟨t156, A100, H⟩ := H
       replace H : ((spec_l2Find.f l0_0 l0_1 ((rd_T100 l0_1 x4_1).f1)).bind fun t158 => (if 0 ≤ t156 then (if t156 < (x3_1.length : Int) then (if 0 ≤ (IntKind.u64.wrap (t158)) then (spec_l4Later.l0 k1 (x3_1.set (t156 : Int).toNat (Go.bits .or .i64 (rd x3_1 t156) (shl .i64 1 (IntKind.u64.wrap (t158))))) (wrap64 (x4_1 + 1)) l0_0 l0_1) else (none)) else (none)) else (none))) = some r := H
       have A10 := Aside0.mk A100
       clear A100
       replace H := Option.bind_eq_some_iff.mp H
       obtain ⟨t158, A110, H⟩ := H
       replace H : (if 0 ≤ t156 then (if t156 < (x3_1.length : Int) then (if 0 ≤ (IntKind.u64.wrap (t158)) then (spec_l4Later.l0 k1 (x3_1.set (t156 : Int).toNat (Go.bits .or .i64 (rd x3_1 t156) (shl .i64 1 (IntKind.u64.wrap (t158))))) (wrap64 (x4_1 + 1)) l0_0 l0_1) else (none)) else (none)) else (none)) = some r := H
       have A11 := Aside0.mk A110
       clear A110
       by_cases c12 : 0 ≤ t156
       ·rw [if_pos c12] at H
        have c12b0 : decide (0 ≤ t156) = true := decide_eq_true c12
        clear c12
        by_cases c13 : t156 < (x3_1.length : Int)
        ·rw [if_pos c13] at H
         have c13b0 : decide (t156 < (x3_1.length : Int)) = true := decide_eq_true c13
         clear c13
         obtain ⟨ji14, hji14⟩ : ∃ j_ : Int, (IntKind.u64.wrap (t158)) = j_ := ⟨_, rfl⟩
         replace H : (if 0 ≤ (ji14) then (spec_l4Later.l0 k1 (x3_1.set (t156 : Int).toNat (Go.bits .or .i64 (rd x3_1 t156) (shl .i64 1 (ji14)))) (wrap64 (x4_1 + 1)) l0_0 l0_1) else (none)) = some r := by first | (rw [hji14] at H; exact H) | (simp only [hji14] at H ⊢; exact H)
         (try rw [hji14] at A10)
         (try rw [hji14] at A11)
         by_cases c15 : 0 ≤ (ji14)
         ·rw [if_pos c15] at H
          have c15b0 := eq_true c15
          have c15b1 : decide (0 ≤ (ji14)) = true := decide_eq_true c15
          clear c15
          obtain ⟨ji16, hji16⟩ : ∃ j_ : Int, (shl .i64 1 (ji14)) = j_ := ⟨_, rfl⟩
          replace H : (spec_l4Later.l0 k1 (x3_1.set (t156 : Int).toNat (Go.bits .or .i64 (rd x3_1 t156) (ji16))) (wrap64 (x4_1 + 1)) l0_0 l0_1) = some r := by first | (rw [hji16] at H; exact H) | (simp only [hji16] at H ⊢; exact H)
          (try rw [hji16] at A10)
          (try rw [hji16] at A11)
          have hji16_ : (IntKind.i64.wrap (1 * 2 ^ min (ji14).toNat 64)) = ji16 := hji16
          have hji16z : (ji14) ≤ 64 → (IntKind.i64.wrap (1 * 2 ^ (ji14).toNat)) = ji16 := shl_small hji16
          have hji16u : (IntKind.i64.wrap (2 ^ min (ji14).toNat 64)) = ji16 := by have h_ := hji16_; rw [Int.one_mul] at h_; exact h_
          have hji16v : (ji14) ≤ 64 → (IntKind.i64.wrap (2 ^ (ji14).toNat)) = ji16 := fun hle_ => by have h_ := hji16z hle_; rw [Int.one_mul] at h_; exact h_
          have hji16y : (wrap64 (1 * 2 ^ min (ji14).toNat 64)) = ji16 := (i64_w _).symm.trans hji16_
          have hji16x : (ji14) ≤ 64 → (wrap64 (1 * 2 ^ (ji14).toNat)) = ji16 := fun h_ => (i64_w _).symm.trans (hji16z h_)
          obtain ⟨y160, hy160⟩ : ∃ y_ : List Int, y_ = (x3_1.set (t156 : Int).toNat (Go.bits .or .i64 (rd x3_1 t156) (ji16))) := ⟨_, rfl⟩
          replace H : (spec_l4Later.l0 k1 y160 (wrap64 (x4_1 + 1)) l0_0 l0_1) = some r := by first | (rw [hy160]; with_reducible exact H) | (have H2_ := (Option.bind_some _ _).symm.trans H; rw [hy160]; with_reducible exact H2_) | (have H2_ := (Option.bind_some _ _).symm.trans H; with_reducible exact H2_) | with_reducible exact H | (rw [hy160]; exact H) | exact H
          have Ny160 := Aside0.mk hy160
          clear hy160
          have H' := Aside0.mk H
          clear H
          have hcz18_0 : wr.cell? ⟨gb151, 0, none⟩ = some (.slice A0_0 l0_0.length c0_0) := (blk_cell BK151.out 0).trans rfl
          have hcz18_1 : wr.cell? ⟨gb151, 1, none⟩ = some (.slice A0_1 l0_1.length c0_1) := (blk_cell BK151.out 1).trans rfl
          have hfz18_0 := blk_frozen BK151.out 0
          have hfz18_1 := blk_frozen BK151.out 1
          try go_wp2
          have n0_ := Aside0.mk (Kd.R_drew HO_3.out)
          have n1_ := Aside0.mk (blk_drew BK151.out)
          have n2_ := Aside0.mk (below_drew1 HB.out)
          clear HO_3
          clear BK151
          clear HB
          have HO_3 := n0_
          have BK151 := n1_
          have HB := n2_
          clear n0_ n1_ n2_
          have p155 : 0 ≤ (x4_1 : Int) := od_
          have q155 : x4_1 < (l0_1.length : Int) := od_
          obtain ⟨ad155, e155, hx155_0, hx155_1⟩ := at_T100 HR0_1.out x4_1 p155 q155
          have hw155_1 := hx155_1
          have hw155_0 := hx155_0
          cases e155
          replace hx155_0 := lc_ HB.out hx155_0
          replace hx155_1 := lc_ HB.out hx155_1
          replace p155 := eq_true p155
          replace q155 := eq_true q155
          have p157 : 0 ≤ (x4_1 : Int) := od_
          have q157 : x4_1 < (l0_1.length : Int) := od_
          obtain ⟨ad157, e157, hx157_0, hx157_1⟩ := at_T100 HR0_1.out x4_1 p157 q157
          have hw157_1 := hx157_1
          have hw157_0 := hx157_0
          obtain rfl : ad155 = ad157 := (by injection e157)
          replace hx157_0 := lc_ HB.out hx157_0
          replace hx157_1 := lc_ HB.out hx157_1
          replace p157 := eq_true p157
          replace q157 := eq_true q157
          refine start_ (n := 18) (S := fun w' => w'.cell? ⟨gb151, 0, none⟩ = some (.slice A0_0 l0_0.length c0_0) ∧ w'.cell? ⟨gb151, 1, none⟩ = some (.slice (some ad155) l0_1.length c0_1) ∧ w'.cell? (ad155.add ((x4_1).toNat * 2)) = some (.int .i64 ((rd_T100 l0_1 x4_1).f0)) ∧ w'.cell? ⟨(ad155.add ((x4_1).toNat * 2)).block, (ad155.add ((x4_1).toNat * 2)).off + 1, none⟩ = some (.int .i64 ((rd_T100 l0_1 x4_1).f1)) ∧ w'.cell? (ad155.add ((x4_1).toNat * 2)) = some (.int .i64 ((rd_T100 l0_1 x4_1).f0)) ∧ w'.cell? ⟨(ad155.add ((x4_1).toNat * 2)).block, (ad155.add ((x4_1).toNat * 2)).off + 1, none⟩ = some (.int .i64 ((rd_T100 l0_1 x4_1).f1))) (ds := []) #[false, false, false, false, false, false, false, false, false, false, false, false, false, false, false, false, false, false] (by kernel_rfl) rfl rfl ⟨(blk_cell BK151.out 0).trans rfl, (blk_cell BK151.out 1).trans rfl, ((HB.out.cell (World.block_lt_of_cell? w _ hw155_0)).trans hw155_0), ((HB.out.cell (World.block_lt_of_cell? w _ hw155_1)).trans hw155_1), ((HB.out.cell (World.block_lt_of_cell? w _ hw157_0)).trans hw157_0), ((HB.out.cell (World.block_lt_of_cell? w _ hw157_1)).trans hw157_1)⟩ (fun hHeld => ?_); refine with_tabW spec_l4Later.tab5 spec_l4Later.bits5 (fun HT_ HW_ => ?_)
          generalize wr.drew = w19 at HO_3 BK151 HB hx155_0 hx155_1 hx157_0 hx157_1 hHeld ⊢
          refine pA_ 1 (some 21) #[false, true, false, false, false, false, false, false, false, false, false, false, false, false, false, false, false, false] HT_.out (h := ?_)
          refine pA_ 3 (some 23) #[false, true, false, true, false, false, false, false, false, false, false, false, false, false, false, false, false, false] HT_.out (h := ?_)
          refine pA_ 9 (some 29) #[false, true, false, true, false, false, false, false, false, true, false, false, false, false, false, false, false, false] HT_.out (h := ?_)
          refine pA_ 11 (some 31) #[false, true, false, true, false, false, false, false, false, true, false, true, false, false, false, false, false, false] HT_.out (h := ?_)
          refine tA_ 0 (some 20) #[true, true, false, true, false, false, false, false, false, true, false, true, false, false, false, false, false, false] HT_.out HW_.out hHeld (h := ?_)
          refine tA_ 2 (some 22) #[true, true, true, true, false, false, false, false, false, true, false, true, false, false, false, false, false, false] HT_.out HW_.out hHeld (h := ?_)
          refine pA_ 4 (some 24) #[true, true, true, true, true, false, false, false, false, true, false, true, false, false, false, false, false, false] HT_.out (h := ?_)
          refine pA_ 5 (some 25) #[true, true, true, true, true, true, false, false, false, true, false, true, false, false, false, false, false, false] HT_.out (h := ?_)
          refine tA_ 6 (some 26) #[true, true, true, true, true, true, true, false, false, true, false, true, false, false, false, false, false, false] HT_.out HW_.out hHeld (h := ?_)
          refine tA_ 8 (some 28) #[true, true, true, true, true, true, true, false, true, true, false, true, false, false, false, false, false, false] HT_.out HW_.out hHeld (h := ?_)
          refine tA_ 10 (some 30) #[true, true, true, true, true, true, true, false, true, true, true, true, false, false, false, false, false, false] HT_.out HW_.out hHeld (h := ?_)
          refine pA_ 12 (some 32) #[true, true, true, true, true, true, true, false, true, true, true, true, true, false, false, false, false, false] HT_.out (h := ?_)
          refine pA_ 13 (some 33) #[true, true, true, true, true, true, true, false, true, true, true, true, true, true, false, false, false, false] HT_.out (h := ?_)
          refine tA_ 14 (some 34) #[true, true, true, true, true, true, true, false, true, true, true, true, true, true, true, false, false, false] HT_.out HW_.out hHeld (h := ?_)
          refine one_ (i := 7) (N := some 27) (bl 15 18) rfl rfl (one_of HT_.out (by kernel_rfl)) (by decide) (fun K hK => ?_)
          refine goes_ Try.func90 (by kernel_rfl) rfl #[.agg #[.slice A0_0 l0_0.length c0_0, .slice (some ad155) l0_1.length c0_1], .int .i64 ((rd_T100 l0_1 x4_1).f0)] (by rfl) rfl rfl (by (try simp only [List.map_toArray, List.map_cons, List.map_nil]); first | done | rfl | (simp only [List.length_drop, List.length_take]; rfl)) ?_
          with_reducible refine (spec_l2Find.calls _ _ l0_0 _ _ l0_1 ((rd_T100 l0_1 x4_1).f0) t156 _ ?side1 ?side2 ?side3 ?side4 A10.out).mono ?_
          (case side1 => exact cz_ (Kd.C_below HR0_0.out HB.out))
          (case side2 => exact HC0_0.out)
          (case side3 => exact cz_ (Kd.C_below HR0_1.out HB.out))
          (case side4 => exact HC0_1.out)
          rintro e w20 ⟨rfl, hb⟩
          refine ⟨_, rfl, ?_⟩
          have n0_ := Aside0.mk (Kd.R_below (rz_ HO_3.out) hb)
          have n1_ := Aside0.mk (blk_below (bz_ BK151.out) hb)
          have n2_ := Aside0.mk (below_step (by repeat (first | (with_reducible first | exact HB.out | apply below_alloc | apply pw_below_drewN | apply below_drew1 | refine below_set ?_ GE151.out) | exact HB.out)) hb)
          clear HO_3
          clear BK151
          clear HB
          have HO_3 := n0_
          have BK151 := n1_
          have HB := n2_
          clear n0_ n1_ n2_
          (try clear hb)
          (try clear hb2)
          (try clear hk)
          (try clear hi)
          refine hK.out _ _ ⟨(blk_cell BK151.out 0).trans rfl, (blk_cell BK151.out 1).trans rfl, ((HB.out.cell (World.block_lt_of_cell? w _ hw155_0)).trans hw155_0), ((HB.out.cell (World.block_lt_of_cell? w _ hw155_1)).trans hw155_1), ((HB.out.cell (World.block_lt_of_cell? w _ hw157_0)).trans hw157_0), ((HB.out.cell (World.block_lt_of_cell? w _ hw157_1)).trans hw157_1)⟩ (fun hHeld => ?_)
          clear hK K
          refine norm_ (a' := ?_) ?_ ?_
          rotate_left
          ·show Act.put _ (some 27) _ = _
           simp only [Act.put, List.setIfInBounds_toArray, List.set_cons_zero, List.set_cons_succ, i64_w, i32_w]
           rfl
          refine one_ (i := 15) (N := some 35) (bl 16 18) rfl rfl (one_of HT_.out (by kernel_rfl)) (by decide) (fun K hK => ?_)
          refine goes_ Try.func90 (by kernel_rfl) rfl #[.agg #[.slice A0_0 l0_0.length c0_0, .slice (some ad155) l0_1.length c0_1], .int .i64 ((rd_T100 l0_1 x4_1).f1)] (by rfl) rfl rfl (by (try simp only [List.map_toArray, List.map_cons, List.map_nil]); first | done | rfl | (simp only [List.length_drop, List.length_take]; rfl)) ?_
          with_reducible refine (spec_l2Find.calls _ _ l0_0 _ _ l0_1 ((rd_T100 l0_1 x4_1).f1) t158 _ ?side1 ?side2 ?side3 ?side4 A11.out).mono ?_
          (case side1 => exact cz_ (Kd.C_below HR0_0.out HB.out))
          (case side2 => exact HC0_0.out)
          (case side3 => exact cz_ (Kd.C_below HR0_1.out HB.out))
          (case side4 => exact HC0_1.out)
          rintro e w21 ⟨rfl, hb⟩
          refine ⟨_, rfl, ?_⟩
          have n0_ := Aside0.mk (Kd.R_below (rz_ HO_3.out) hb)
          have n1_ := Aside0.mk (blk_below (bz_ BK151.out) hb)
          have n2_ := Aside0.mk (below_step (by repeat (first | (with_reducible first | exact HB.out | apply below_alloc | apply pw_below_drewN | apply below_drew1 | refine below_set ?_ GE151.out) | exact HB.out)) hb)
          clear HO_3
          clear BK151
          clear HB
          have HO_3 := n0_
          have BK151 := n1_
          have HB := n2_
          clear n0_ n1_ n2_
          (try clear hb)
          (try clear hb2)
          (try clear hk)
          (try clear hi)
          refine hK.out _ _ ⟨(blk_cell BK151.out 0).trans rfl, (blk_cell BK151.out 1).trans rfl, ((HB.out.cell (World.block_lt_of_cell? w _ hw155_0)).trans hw155_0), ((HB.out.cell (World.block_lt_of_cell? w _ hw155_1)).trans hw155_1), ((HB.out.cell (World.block_lt_of_cell? w _ hw157_0)).trans hw157_0), ((HB.out.cell (World.block_lt_of_cell? w _ hw157_1)).trans hw157_1)⟩ (fun hHeld => ?_)
          clear hK K
          refine norm_ (a' := ?_) ?_ ?_
          rotate_left
          ·show Act.put _ (some 35) _ = _
           simp only [Act.put, List.setIfInBounds_toArray, List.set_cons_zero, List.set_cons_succ, i64_w, i32_w]
           rfl
          refine pA_ 16 (some 5) (bl 17 18) HT_.out (h := ?_)
          refine pA_ 17 (some 6) (bl 18 18) HT_.out (h := ?_)
          refine done_ (done_of HT_.out (by kernel_rfl)) ?_
          obtain ⟨Ao22, co22, eo22⟩ := Kd.R_slice HO_3.out
          subst eo22
          have p159 : 0 ≤ (t156 : Int) := od_
          have q159 : t156 < (x3_1.length : Int) := od_
          obtain ⟨ad159, e159, hx159_0⟩ := Kd.at_int (Kd.R_reads' HO_3.out).2.2 t156 p159 q159
          cases e159
          replace p159 := eq_true p159
          replace q159 := eq_true q159
          have p17 : 0 ≤ (t156 : Int) := od_
          have q17 : (t156 : Int) < ((x3_1.length : Int) : Int) := od_
          obtain ⟨go17, co17, eo17, gb17, gl17, cl17, HG17⟩ := Kd.R_form HO_3.out (by omega)
          (first | cases eo17 | (injection eo17 with ea_ en_ ec_; (first | subst ea_ | (injection ea_ with ea_; subst ea_)); subst ec_; clear en_))
          have GB17 := Aside0.mk gb17
          have GG17 := Aside0.mk HG17
          clear gb17 gl17 HG17
          (first | simp only [add_plain] at hx159_0 | skip)
          obtain ⟨hx17_0, hf17_0⟩ := Kd.R_celln 0 HO_3.out (t156 : Int) p17 q17
          replace p17 := eq_true p17
          replace q17 := eq_true q17
          obtain ⟨hy23_, hz23_⟩ := Kd.R_celln 0 HO_3.out (t156 : Int) (od_) (od_)
          have HP23 := Kd.R_putg HO_3.out (t156 : Int) (Go.bits .or .i64 (rd x3_1 t156) (ji16))
          try go_wp2_with (first | ((with_reducible refine gate_store (t := 3) (p := 46) rfl ?_); refine store_event (t := 3) (p := 46) (v := ?vo_w24) (w1 := (w21.setCell ⟨go17, (t156 : Int).toNat, none⟩ (.int .i64 (Go.bits .or .i64 (rd x3_1 t156) (ji16))))) ?hg ?ho ?hn ?hr ?_; (case ho => rfl); (case hg => rfl); (case hn => rfl); (case hr => first | (go_simp; done) | (go_simp; rfl)); intro w24 hw; have hg : w21.grownBy w24 (some go17) := (by rw [hw]; exact HP23.2); have hp_ : Kd.R (Kd.int .i64) 3 w24 w.heap.size (fun _ => True) (.slice (some ⟨go17, 0, none⟩) x3_1.length co22) y160 := (by rw [hw, Ny160.out]; exact HP23.1); clear HP23; have n0_ := Aside0.mk (hp_); have n1_ := Aside0.mk (blk_grown (g := gb151) (o := .cells #[.slice A0_0 l0_0.length c0_0, .slice (some ad155) l0_1.length c0_1] 33 (0, 0)) (bz_ BK151.out) hg (Kd.R_ne HO_3.out BK151.out (by decide))); have n2_ := Aside0.mk ((by rw [hw]; exact below_set (HB.out) GB17.out : Below w.heap.size w w24)); clear HO_3; clear BK151; clear HB; have HO_3 := n0_; have BK151 := n1_; have HB := n2_; clear n0_ n1_ n2_; clear hg hw hp_))
          go_roundg k1
          case measure => have := HK1.out; omega
          case rel => exact ⟨(y160), (wrap64 (x4_1 + 1)), (by first | rfl | (simp; done) | (simp [*]; done)), H', ⟨by have := HK1.out; omega⟩, ⟨rz_ HO_3.out⟩, ⟨bz_ BK151.out⟩, ⟨by repeat (first | (with_reducible first | exact HB.out | apply below_alloc | apply pw_below_drewN | apply below_drew1 | refine below_set ?_ GE151.out) | exact HB.out)⟩⟩
         ·rw [if_neg c15] at H
          exact absurd H (by simp)
        ·rw [if_neg c13] at H
         exact absurd H (by simp)
       ·rw [if_neg c12] at H
        exact absurd H (by simp)
      ·rw [if_neg c9] at H
       exact absurd H (by simp)
     ·rw [if_neg c8] at H
      have c8b0 : decide (x4_1 < (l0_1.length : Int)) = false := decide_eq_false c8
      clear c8
      have H' := Aside0.mk H
      clear H
      have hcz25_0 : wr.cell? ⟨gb151, 0, none⟩ = some (.slice A0_0 l0_0.length c0_0) := (blk_cell BK151.out 0).trans rfl
      have hcz25_1 : wr.cell? ⟨gb151, 1, none⟩ = some (.slice A0_1 l0_1.length c0_1) := (blk_cell BK151.out 1).trans rfl
      have hfz25_0 := blk_frozen BK151.out 0
      have hfz25_1 := blk_frozen BK151.out 1
      go_wp2
      go_loopg [7] k1 (fun kq v7 w' => ∃ (x3_2 : List Int) (x7_2 : Int), v7 = .int .i64 x7_2 ∧ Aside0 (spec_l4Later.l1 kq x3_2 x7_2 = some r) ∧ Aside0 (kq ≤ k1) ∧ Aside0 (Kd.R (Kd.int .i64) 3 w' w.heap.size (fun _ => True) v153 x3_2) ∧ Aside0 (w'.heap[gb151]? = some (.cells #[(.slice A0_0 l0_0.length c0_0), (.slice A0_1 l0_1.length c0_1)] 33 (0, 0))) ∧ Aside0 (Below w.heap.size w w'))
      case atStart => exact ⟨(x3_1), (0), (by first | rfl | (simp; done) | (simp [*]; done)), H', ⟨Nat.le_refl _⟩, ⟨rz_ HO_3.out⟩, ⟨bz_ BK151.out⟩, ⟨by repeat (first | (with_reducible first | exact HB.out | apply below_alloc | apply pw_below_drewN | apply below_drew1 | refine below_set ?_ GE151.out) | exact HB.out)⟩⟩
      case round =>
       clear H'
       try clear c1
       try clear p1
       try clear q1
       try clear hx1
       try clear hf1
       try clear c2
       try clear c2b0
       try clear c2b1
       try clear p2
       try clear c3
       try clear c3b0
       try clear c3b1
       try clear p6
       try clear c8
       try clear c8b0
       try clear c9
       try clear c9b0
       try clear c12
       try clear c12b0
       try clear c13
       try clear c13b0
       try clear c15
       try clear c15b0
       try clear c15b1
       try clear p15
       try clear q15
       try clear hx15
       try clear p17
       try clear q17
       try clear hx17
       try clear hf17
       try clear hcz18_0
       try clear hcz18_1
       try clear hcz25_0
       try clear hcz25_1
       try clear hcz5_0
       try clear hcz5_1
       try clear hfz18_0
       try clear hfz18_1
       try clear hfz25_0
       try clear hfz25_1
       try clear hfz5_0
       try clear hfz5_1
       try clear hx155_0
       try clear hx155_1
       try clear hx157_0
       try clear hx157_1
       try clear hx159_0
       try clear hx17_0
       try clear p155
       try clear p157
       try clear p159
       try clear p17
       try clear p2
       try clear q155
       try clear q157
       try clear q159
       try clear q17
       obtain ⟨x3_2, x7_2, rfl, HA, HK2, HO_3, BK151, HB⟩ := hrel
       cases gk with
       | zero => exact absurd HA.out (by simp [spec_l4Later.l1])
       | succ k2 =>
        have H := HA.out
        clear HA
        simp only [spec_l4Later.l1] at H
        by_cases c26 : x7_2 < (x3_2.length : Int)
        ·rw [if_pos c26] at H
         have c26b0 : decide (x7_2 < (x3_2.length : Int)) = true := decide_eq_true c26
         clear c26
         have H' := Aside0.mk H
         clear H
         obtain ⟨Ao27, co27, eo27⟩ := Kd.R_slice HO_3.out
         subst eo27
         go_wp2
         go_loopg [8] k2 (fun kq v8 w' => ∃ (x3_3 : List Int) (x8_3 : Int), v8 = .int .i64 x8_3 ∧ Aside0 (spec_l4Later.l2 kq x3_3 x7_2 x8_3 = some r) ∧ Aside0 (kq ≤ k2) ∧ Aside0 (Kd.R (Kd.int .i64) 3 w' w.heap.size (fun _ => True) (.slice Ao27 x3_2.length co27) x3_3) ∧ Aside0 (w'.heap[gb151]? = some (.cells #[(.slice A0_0 l0_0.length c0_0), (.slice A0_1 l0_1.length c0_1)] 33 (0, 0))) ∧ Aside0 (Below w.heap.size w w'))
         case atStart => exact ⟨(x3_2), (0), (by first | rfl | (simp; done) | (simp [*]; done)), H', ⟨Nat.le_refl _⟩, ⟨rz_ HO_3.out⟩, ⟨bz_ BK151.out⟩, ⟨by repeat (first | (with_reducible first | exact HB.out | apply below_alloc | apply pw_below_drewN | apply below_drew1 | refine below_set ?_ GE151.out) | exact HB.out)⟩⟩
         case round =>
          clear H'
          try clear c1
          try clear p1
          try clear q1
          try clear hx1
          try clear hf1
          try clear c2
          try clear c2b0
          try clear c2b1
          try clear p2
          try clear c3
          try clear c3b0
          try clear c3b1
          try clear p6
          try clear c8
          try clear c8b0
          try clear c9
          try clear c9b0
          try clear c12
          try clear c12b0
          try clear c13
          try clear c13b0
          try clear c15
          try clear c15b0
          try clear c15b1
          try clear p15
          try clear q15
          try clear hx15
          try clear p17
          try clear q17
          try clear hx17
          try clear hf17
          try clear c26
          try clear c26b0
          try clear hcz18_0
          try clear hcz18_1
          try clear hcz25_0
          try clear hcz25_1
          try clear hcz5_0
          try clear hcz5_1
          try clear hfz18_0
          try clear hfz18_1
          try clear hfz25_0
          try clear hfz25_1
          try clear hfz5_0
          try clear hfz5_1
          try clear hx155_0
          try clear hx155_1
          try clear hx157_0
          try clear hx157_1
          try clear hx159_0
          try clear hx17_0
          try clear p1
          try clear p15
          try clear p155
          try clear p157
          try clear p159
          try clear p17
          try clear p2
          try clear p6
          try clear q1
          try clear q15
          try clear q155
          try clear q157
          try clear q159
          try clear q17
          obtain ⟨x3_3, x8_3, rfl, HA, HK3, HO_3, BK151, HB⟩ := hrel
          have hl3_3 := (Kd.R_reads' HO_3.out).1
          rw [hl3_3] at HO_3
          (try simp only [hl3_3])
          (try simp only [hl3_3] at BK151)
          cases gk with
          | zero => exact absurd HA.out (by simp [spec_l4Later.l2])
          | succ k3 =>
           have H := HA.out
           clear HA
           simp only [spec_l4Later.l2] at H
           by_cases c28 : x8_3 < (x3_3.length : Int)
           ·rw [if_pos c28] at H
            have c28b0 : decide (x8_3 < (x3_3.length : Int)) = true := decide_eq_true c28
            clear c28
            by_cases c29 : 0 ≤ x8_3
            ·rw [if_pos c29] at H
             have c29b0 : decide (0 ≤ x8_3) = true := decide_eq_true c29
             clear c29
             obtain ⟨ji30, hji30⟩ : ∃ j_ : Int, (IntKind.u64.wrap (x7_2)) = j_ := ⟨_, rfl⟩
             replace H : (if 0 ≤ (ji30) then (if (Go.bits .and .i64 (shr .i64 (rd x3_3 x8_3) (ji30)) 1) = 1 then (if 0 ≤ x7_2 then (if x7_2 < (x3_3.length : Int) then (spec_l4Later.l2 k3 (x3_3.set (x8_3 : Int).toNat (Go.bits .or .i64 (rd x3_3 x8_3) (rd x3_3 x7_2))) x7_2 (wrap64 (x8_3 + 1))) else (none)) else (none)) else (spec_l4Later.l2 k3 x3_3 x7_2 (wrap64 (x8_3 + 1)))) else (none)) = some r := by first | (rw [hji30] at H; exact H) | (simp only [hji30] at H ⊢; exact H)
             by_cases c31 : 0 ≤ (ji30)
             ·rw [if_pos c31] at H
              have c31b0 := eq_true c31
              have c31b1 : decide (0 ≤ (ji30)) = true := decide_eq_true c31
              clear c31
              obtain ⟨ji32, hji32⟩ : ∃ j_ : Int, (shr .i64 (rd x3_3 x8_3) (ji30)) = j_ := ⟨_, rfl⟩
              replace H : (if (Go.bits .and .i64 (ji32) 1) = 1 then (if 0 ≤ x7_2 then (if x7_2 < (x3_3.length : Int) then (spec_l4Later.l2 k3 (x3_3.set (x8_3 : Int).toNat (Go.bits .or .i64 (rd x3_3 x8_3) (rd x3_3 x7_2))) x7_2 (wrap64 (x8_3 + 1))) else (none)) else (none)) else (spec_l4Later.l2 k3 x3_3 x7_2 (wrap64 (x8_3 + 1)))) = some r := by first | (rw [hji32] at H; exact H) | (simp only [hji32] at H ⊢; exact H)
              have hji32_ : ((rd x3_3 x8_3) / 2 ^ min (ji30).toNat 64) = ji32 := hji32
              have hji32z : (ji30) ≤ 64 → ((rd x3_3 x8_3) / 2 ^ (ji30).toNat) = ji32 := shr_small hji32
              by_cases c33 : (Go.bits .and .i64 (ji32) 1) = 1
              ·rw [if_pos c33] at H
               have c33b0 : ((Go.bits .and .i64 (ji32) 1) == 1) = true := beq_iff_eq.mpr c33
               have c33b1 : ((Go.bits .and .i64 (ji32) 1) != 1) = false := bne_eq_false_iff_eq.mpr c33
               clear c33
               by_cases c34 : 0 ≤ x7_2
               ·rw [if_pos c34] at H
                have c34b0 : decide (0 ≤ x7_2) = true := decide_eq_true c34
                clear c34
                by_cases c35 : x7_2 < (x3_3.length : Int)
                ·rw [if_pos c35] at H
                 have c35b0 : decide (x7_2 < (x3_3.length : Int)) = true := decide_eq_true c35
                 clear c35
                 obtain ⟨y164, hy164⟩ : ∃ y_ : List Int, y_ = (x3_3.set (x8_3 : Int).toNat (Go.bits .or .i64 (rd x3_3 x8_3) (rd x3_3 x7_2))) := ⟨_, rfl⟩
                 replace H : (spec_l4Later.l2 k3 y164 x7_2 (wrap64 (x8_3 + 1))) = some r := by first | (rw [hy164]; with_reducible exact H) | (have H2_ := (Option.bind_some _ _).symm.trans H; rw [hy164]; with_reducible exact H2_) | (have H2_ := (Option.bind_some _ _).symm.trans H; with_reducible exact H2_) | with_reducible exact H | (rw [hy164]; exact H) | exact H
                 have Ny164 := Aside0.mk hy164
                 clear hy164
                 have H' := Aside0.mk H
                 clear H
                 have p161 : 0 ≤ (x8_3 : Int) := od_
                 have q161 : x8_3 < (x3_3.length : Int) := od_
                 obtain ⟨ad161, e161, hx161_0⟩ := Kd.at_int (Kd.R_reads' HO_3.out).2.2 x8_3 p161 q161
                 cases e161
                 replace p161 := eq_true p161
                 replace q161 := eq_true q161
                 try go_wp2
                 have n0_ := Aside0.mk (Kd.R_drew HO_3.out)
                 have n1_ := Aside0.mk (blk_drew BK151.out)
                 have n2_ := Aside0.mk (below_drew1 HB.out)
                 clear HO_3
                 clear BK151
                 clear HB
                 have HO_3 := n0_
                 have BK151 := n1_
                 have HB := n2_
                 clear n0_ n1_ n2_
                 have p162 : 0 ≤ (x8_3 : Int) := od_
                 have q162 : x8_3 < (x3_3.length : Int) := od_
                 obtain ⟨ad162, e162, hx162_0⟩ := Kd.at_int (Kd.R_reads' HO_3.out).2.2 x8_3 p162 q162
                 obtain rfl : ad161 = ad162 := (by injection e162)
                 replace p162 := eq_true p162
                 replace q162 := eq_true q162
                 have p163 : 0 ≤ (x7_2 : Int) := od_
                 have q163 : x7_2 < (x3_3.length : Int) := od_
                 obtain ⟨ad163, e163, hx163_0⟩ := Kd.at_int (Kd.R_reads' HO_3.out).2.2 x7_2 p163 q163
                 obtain rfl : ad161 = ad163 := (by injection e163)
                 replace p163 := eq_true p163
                 replace q163 := eq_true q163
                 have p36 : 0 ≤ (x8_3 : Int) := od_
                 have q36 : (x8_3 : Int) < ((x3_3.length : Int) : Int) := od_
                 obtain ⟨go36, co36, eo36, gb36, gl36, cl36, HG36⟩ := Kd.R_form HO_3.out (by omega)
                 (first | cases eo36 | (injection eo36 with ea_ en_ ec_; (first | subst ea_ | (injection ea_ with ea_; subst ea_)); subst ec_; clear en_))
                 have GB36 := Aside0.mk gb36
                 have GG36 := Aside0.mk HG36
                 clear gb36 gl36 HG36
                 (first | simp only [add_plain] at hx161_0 | skip)
                 (first | simp only [add_plain] at hx162_0 | skip)
                 (first | simp only [add_plain] at hx163_0 | skip)
                 obtain ⟨hx36_0, hf36_0⟩ := Kd.R_celln 0 HO_3.out (x8_3 : Int) p36 q36
                 replace p36 := eq_true p36
                 replace q36 := eq_true q36
                 have HP38 := Kd.R_putn HO_3.out (x8_3 : Int) (Go.bits .or .i64 (rd x3_3 x8_3) (rd x3_3 x7_2))
                 rw [← Ny164.out] at HP38
                 have HQ38 := Aside0.mk HP38
                 clear HP38
                 refine start_ (n := 13) (S := fun w' => w'.cell? ⟨go36, (x8_3).toNat, none⟩ = some (.int .i64 (rd x3_3 x8_3)) ∧ w'.cell? ⟨go36, (x7_2).toNat, none⟩ = some (.int .i64 (rd x3_3 x7_2))) (ds := [12]) #[false, false, false, false, false, false, false, false, false, false, false, false, false] (by kernel_rfl) rfl rfl ⟨hx162_0, hx163_0⟩ (fun hHeld => ?_); refine with_tabW spec_l4Later.tab14 spec_l4Later.bits14 (fun HT_ HW_ => ?_)
                 generalize wr.drew = w37 at HO_3 BK151 HB GG36 HQ38 hf36_0 hx161_0 hx162_0 hx163_0 hx36_0 hHeld ⊢
                 refine pA_ 0 (some 68) (bl 1 13) HT_.out (h := ?_)
                 refine pA_ 1 (some 69) (bl 2 13) HT_.out (h := ?_)
                 refine pA_ 2 (some 70) (bl 3 13) HT_.out (h := ?_)
                 refine pA_ 3 (some 71) (bl 4 13) HT_.out (h := ?_)
                 refine pA_ 4 (some 72) (bl 5 13) HT_.out (h := ?_)
                 refine pA_ 6 (some 74) #[true, true, true, true, true, false, true, false, false, false, false, false, false] HT_.out (h := ?_)
                 refine pA_ 7 (some 75) #[true, true, true, true, true, false, true, true, false, false, false, false, false] HT_.out (h := ?_)
                 refine pA_ 8 (some 76) #[true, true, true, true, true, false, true, true, true, false, false, false, false] HT_.out (h := ?_)
                 refine tA_ 5 (some 73) (bl 9 13) HT_.out HW_.out hHeld (h := ?_)
                 refine tA_ 9 (some 77) (bl 10 13) HT_.out HW_.out hHeld (h := ?_)
                 refine pA_ 10 (some 78) (bl 11 13) HT_.out (h := ?_)
                 refine pA_ 11 (some 79) (bl 12 13) HT_.out (h := ?_)
                 refine last_ (i := 12) (N := none) (bl 13 13) rfl rfl (one_of HT_.out (by kernel_rfl)) (by decide) (fun K hK => ?_)
                 refine skip_ (w1 := ?_) (by rfl) rfl ?_ ?_
                 rotate_left
                 ·go_simp
                  rfl
                 refine hK.out _ _ ?_
                 clear hK K
                 refine done_ (done_of HT_.out (by kernel_rfl)) ?_
                 try go_wp2
                 (try simp only [← hl3_3])
                 go_roundg k3
                 case measure => have := HK1.out; have := HK2.out; have := HK3.out; omega
                 case rel => exact ⟨(y164), (wrap64 (x8_3 + 1)), (by first | rfl | (simp; done) | (simp [*]; done)), H', ⟨by have := HK1.out; have := HK2.out; have := HK3.out; omega⟩, ⟨by (try simp only [hl3_3]); (with_reducible repeat (first | apply Kd.R_alloc | apply Kd.R_drewN | apply Kd.R_drew)); exact HQ38.out⟩, ⟨by (try simp only [hl3_3]); (with_reducible repeat (first | refine blk_drewN ?_ _ | refine blk_drew ?_ | refine blk_alloc ?_ _)); refine blk_far ?_ (by have h_ := Kd.R_ne HO_3.out BK151.out (by decide); intro e_; exact h_ (by rw [e_]; rfl)) _; (with_reducible repeat (first | refine blk_drewN ?_ _ | refine blk_drew ?_ | refine blk_alloc ?_ _)); exact BK151.out⟩, ⟨by repeat (first | (with_reducible first | exact HB.out | apply below_alloc | apply pw_below_drewN | apply below_drew1 | refine below_set ?_ GB36.out | refine below_set ?_ GE151.out) | exact HB.out)⟩⟩
                ·rw [if_neg c35] at H
                 exact absurd H (by simp)
               ·rw [if_neg c34] at H
                exact absurd H (by simp)
              ·rw [if_neg c33] at H
               have c33b0 : ((Go.bits .and .i64 (ji32) 1) == 1) = false := beq_eq_false_iff_ne.mpr c33
               have c33b1 : ((Go.bits .and .i64 (ji32) 1) != 1) = true := bne_iff_ne.mpr c33
               have H' := Aside0.mk H
               clear H
               have p161 : 0 ≤ (x8_3 : Int) := od_
               have q161 : x8_3 < (x3_3.length : Int) := od_
               obtain ⟨ad161, e161, hx161_0⟩ := Kd.at_int (Kd.R_reads' HO_3.out).2.2 x8_3 p161 q161
               cases e161
               replace p161 := eq_true p161
               replace q161 := eq_true q161
               go_wp2
               (try simp only [← hl3_3])
               go_roundg k3
               case measure => have := HK1.out; have := HK2.out; have := HK3.out; omega
               case rel => exact ⟨(x3_3), (wrap64 (x8_3 + 1)), (by first | rfl | (simp; done) | (simp [*]; done)), H', ⟨by have := HK1.out; have := HK2.out; have := HK3.out; omega⟩, ⟨by (try simp only [hl3_3]); (with_reducible repeat (first | apply Kd.R_alloc | apply Kd.R_drewN | apply Kd.R_drew)); exact HO_3.out⟩, ⟨by (try simp only [hl3_3]); (with_reducible repeat (first | refine blk_drewN ?_ _ | refine blk_drew ?_ | refine blk_alloc ?_ _)); exact BK151.out⟩, ⟨by repeat (first | (with_reducible first | exact HB.out | apply below_alloc | apply pw_below_drewN | apply below_drew1 | refine below_set ?_ GE151.out) | exact HB.out)⟩⟩
             ·rw [if_neg c31] at H
              exact absurd H (by simp)
            ·rw [if_neg c29] at H
             exact absurd H (by simp)
           ·rw [if_neg c28] at H
            have c28b0 : decide (x8_3 < (x3_3.length : Int)) = false := decide_eq_false c28
            clear c28
            have H' := Aside0.mk H
            clear H
            go_wp2
            (try simp only [← hl3_3])
            go_roundg k3
            case measure => have := HK1.out; have := HK2.out; have := HK3.out; omega
            case rel => exact ⟨(x3_3), (wrap64 (x7_2 + 1)), (by first | rfl | (simp; done) | (simp [*]; done)), H', ⟨by have := HK1.out; have := HK2.out; have := HK3.out; omega⟩, ⟨by (try simp only [hl3_3]); (with_reducible repeat (first | apply Kd.R_alloc | apply Kd.R_drewN | apply Kd.R_drew)); exact HO_3.out⟩, ⟨by (try simp only [hl3_3]); (with_reducible repeat (first | refine blk_drewN ?_ _ | refine blk_drew ?_ | refine blk_alloc ?_ _)); exact BK151.out⟩, ⟨by repeat (first | (with_reducible first | exact HB.out | apply below_alloc | apply pw_below_drewN | apply below_drew1 | refine below_set ?_ GE151.out) | exact HB.out)⟩⟩
        ·rw [if_neg c26] at H
         have c26b0 : decide (x7_2 < (x3_2.length : Int)) = false := decide_eq_false c26
         clear c26
         obtain rfl := Option.some.inj H
         obtain ⟨Ao39, co39, eo39⟩ := Kd.R_slice HO_3.out
         subst eo39
         go_wp2
         go_ret
         exact ⟨_, by first | rfl | (simp [errW_none, errW_some] <;> rfl) | (simp [*, errW_none, errW_some] <;> rfl), rz_ HO_3.out, by repeat (first | (with_reducible first | exact HB.out | apply below_alloc | apply pw_below_drewN | apply below_drew1 | refine below_set ?_ GE151.out) | exact HB.out)⟩
  ·rw [if_neg c3] at H
   exact absurd H (by simp)
 ·rw [if_neg c2] at H
  exact absurd H (by simp)

end Go.Proofs.Ytlbkoejpjpcgaaa.Q

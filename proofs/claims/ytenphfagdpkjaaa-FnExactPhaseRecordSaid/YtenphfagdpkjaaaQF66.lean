-- Written by a program of this session (wip/xprint.py over the kit's printer).
import Derived.Test.YtenphfagdpkjaaaQ0
import Derived.Test.YtenphfagdpkjaaaQF56
import Derived.Test.YtenphfagdpkjaaaQF57
import Derived.Test.YtenphfagdpkjaaaQV2
namespace Go.Proofs.Ytenphfagdpkjaaa.Q
open Go.RowKit Go.Proofs.YtenphfagdpkjaaaW.PrintWords Go.Proofs.YtenphfagdpkjaaaW.PrintLast
set_option linter.unusedVariables false
set_option linter.unusedSimpArgs false

/-! ### spec_l7Above: function 66 -/
mutual
def spec_l7Above.l0 : Nat → List (S64) → List Int → List Int → Int → List (S77) → List (S91) → Option (List Int)
 | 0, _, _, _, _, _, _ => none
 | k + 1, x1, x5, x6, x7, x152000, x152001 => if x7 < (x5.length : Int) then (spec_l7Above.l1 k x1 x5 x6 x7 0 x152000 x152001) else (some x6)
def spec_l7Above.l1 : Nat → List (S64) → List Int → List Int → Int → Int → List (S77) → List (S91) → Option (List Int)
 | 0, _, _, _, _, _, _, _ => none
 | k + 1, x1, x5, x6, x7, x8, x152000, x152001 => if x8 < (x5.length : Int) then (if 0 ≤ x7 then (if x7 < (x152000.length : Int) then ((spec_l7Phase.f k x1 ((rd_T77 x152000 x7).f0)).bind fun t159 => (if 0 ≤ x8 then (if x8 < (x152000.length : Int) then ((spec_l7Phase.f k x1 ((rd_T77 x152000 x8).f0)).bind fun t161 => (if x7 < (x5.length : Int) then ((spec_l4Bit.f (rd x5 x7) x8).bind fun t163 => (if t163 = true then (if t159 ≥ 0 then (if t161 ≥ 0 then (if t159 = t161 then (spec_l7Above.l1 k x1 x5 x6 x7 (wrap64 (x8 + 1)) x152000 x152001) else (if 0 ≤ t159 then (if t159 < (x6.length : Int) then (if 0 ≤ (IntKind.u64.wrap (t161)) then (spec_l7Above.l1 k x1 x5 (x6.set (t159 : Int).toNat (Go.bits .or .i64 (rd x6 t159) (shl .i64 1 (IntKind.u64.wrap (t161))))) x7 (wrap64 (x8 + 1)) x152000 x152001) else (none)) else (none)) else (none))) else (spec_l7Above.l1 k x1 x5 x6 x7 (wrap64 (x8 + 1)) x152000 x152001)) else (spec_l7Above.l1 k x1 x5 x6 x7 (wrap64 (x8 + 1)) x152000 x152001)) else (spec_l7Above.l1 k x1 x5 x6 x7 (wrap64 (x8 + 1)) x152000 x152001))) else (none))) else (none)) else (none))) else (none)) else (none)) else (spec_l7Above.l0 k x1 x5 x6 (wrap64 (x7 + 1)) x152000 x152001)
end
def spec_l7Above.f (k : Nat) (l0_0 : List (S77)) (l0_1 : List (S91)) (l1 : List (S64)) : Option (List Int) := (spec_l4Later.f k l0_0 l0_1).bind fun t152 => (if 0 ≤ (l1.length : Int) then (if ((l1.length : Int) : Int).toNat ≤ 35184372088832 then (spec_l7Above.l0 k l1 t152 (List.replicate ((l1.length : Int) : Int).toNat 0) 0 l0_0 l0_1) else (none)) else (none))
theorem spec_l7Above.mono_l : ∀ k, (∀ y0 y1 y2 y3 y4 y5, LeO (spec_l7Above.l0 k y0 y1 y2 y3 y4 y5) (spec_l7Above.l0 (k + 1) y0 y1 y2 y3 y4 y5)) ∧ (∀ y0 y1 y2 y3 y4 y5 y6, LeO (spec_l7Above.l1 k y0 y1 y2 y3 y4 y5 y6) (spec_l7Above.l1 (k + 1) y0 y1 y2 y3 y4 y5 y6))
 | 0 => ⟨fun _ _ _ _ _ _ r h => by simp [spec_l7Above.l0] at h, fun _ _ _ _ _ _ _ r h => by simp [spec_l7Above.l1] at h⟩
 | k + 1 => by
  obtain ⟨ih0, ih1⟩ := spec_l7Above.mono_l k
  refine ⟨?_, ?_⟩
  ·intro y0 y1 y2 y3 y4 y5
   unfold spec_l7Above.l0
   repeat' first
   | (with_reducible exact ih0 _ _ _ _ _ _)
   | (with_reducible exact ih1 _ _ _ _ _ _ _)
   | (with_reducible exact spec_l4Later.mono _ _ _)
   | (with_reducible exact spec_l7Phase.mono _ _ _)
   | (with_reducible exact LeO.refl _)
   | (with_reducible exact LeO.none _)
   | (with_reducible refine LeO.ite ?_ ?_)
   | (with_reducible refine LeO.bind ?_ (fun _ => ?_))
   | exact ih0 _ _ _ _ _ _
   | exact ih1 _ _ _ _ _ _ _
   | exact spec_l4Later.mono _ _ _
   | exact spec_l7Phase.mono _ _ _
   | exact LeO.none _
   | refine LeO.ite ?_ ?_
   | refine LeO.bind ?_ (fun _ => ?_)
  ·intro y0 y1 y2 y3 y4 y5 y6
   unfold spec_l7Above.l1
   repeat' first
   | (with_reducible exact ih0 _ _ _ _ _ _)
   | (with_reducible exact ih1 _ _ _ _ _ _ _)
   | (with_reducible exact spec_l4Later.mono _ _ _)
   | (with_reducible exact spec_l7Phase.mono _ _ _)
   | (with_reducible exact LeO.refl _)
   | (with_reducible exact LeO.none _)
   | (with_reducible refine LeO.ite ?_ ?_)
   | (with_reducible refine LeO.bind ?_ (fun _ => ?_))
   | exact ih0 _ _ _ _ _ _
   | exact ih1 _ _ _ _ _ _ _
   | exact spec_l4Later.mono _ _ _
   | exact spec_l7Phase.mono _ _ _
   | exact LeO.none _
   | refine LeO.ite ?_ ?_
   | refine LeO.bind ?_ (fun _ => ?_)
theorem spec_l7Above.mono : ∀ a0 a1 a2 k, LeO (spec_l7Above.f k a0 a1 a2) (spec_l7Above.f (k + 1) a0 a1 a2) := by
 intro a0 a1 a2 k
 obtain ⟨ih0, ih1⟩ := spec_l7Above.mono_l k
 unfold spec_l7Above.f
 repeat' first
   | (with_reducible exact ih0 _ _ _ _ _ _)
   | (with_reducible exact ih1 _ _ _ _ _ _ _)
   | (with_reducible exact spec_l4Later.mono _ _ _)
   | (with_reducible exact spec_l7Phase.mono _ _ _)
   | (with_reducible exact LeO.refl _)
   | (with_reducible exact LeO.none _)
   | (with_reducible refine LeO.ite ?_ ?_)
   | (with_reducible refine LeO.bind ?_ (fun _ => ?_))
   | exact ih0 _ _ _ _ _ _
   | exact ih1 _ _ _ _ _ _ _
   | exact spec_l4Later.mono _ _ _
   | exact spec_l7Phase.mono _ _ _
   | exact LeO.none _
   | refine LeO.ite ?_ ?_
   | refine LeO.bind ?_ (fun _ => ?_)
set_option maxHeartbeats 8000000 in
set_option maxRecDepth 100000 in
theorem spec_l7Above.calls (k : Nat) (A0_0 : Option Addr) (c0_0 : Nat) (l0_0 : List (S77)) (A0_1 : Option Addr) (c0_1 : Nat) (l0_1 : List (S91)) (A1 : Option Addr) (c1 : Nat) (l1 : List (S64)) (r : List Int) (w : World) (hr0_0 : Kd.C k77 w A0_0 l0_0.length l0_0) (hc0_0 : l0_0.length ≤ c0_0) (hr0_1 : Kd.C k91 w A0_1 l0_1.length l0_1) (hc0_1 : l0_1.length ≤ c0_1) (hr1 : Kd.C k64 w A1 l1.length l1) (hc1 : l1.length ≤ c1) (h : spec_l7Above.f k l0_0 l0_1 l1 = some r) :
  Calls Try.prog 66 #[.agg #[.slice A0_0 l0_0.length c0_0, .slice A0_1 l0_1.length c0_1], .slice A1 l1.length c1] w fun e w' => ∃ v0_ : Value, e = .returned (v0_) ∧ Kd.R (Kd.int .i64) 3 w' w.heap.size (fun _ => True) v0_ r ∧ Below w.heap.size w w' := by
 have hu33 := Try.underlying33
 have HR0_0 := Aside0.mk hr0_0
 have HC0_0 := Aside0.mk hc0_0
 clear hr0_0 hc0_0
 have HR0_1 := Aside0.mk hr0_1
 have HC0_1 := Aside0.mk hc0_1
 clear hr0_1 hc0_1
 have HR1 := Aside0.mk hr1
 have HC1 := Aside0.mk hc1
 clear hr1 hc1
 have HB := Aside0.mk (Below.refl w.heap.size w)
 have H : ((spec_l4Later.f k l0_0 l0_1).bind fun t152 => (if 0 ≤ (l1.length : Int) then (if ((l1.length : Int) : Int).toNat ≤ 35184372088832 then (spec_l7Above.l0 k l1 t152 (List.replicate ((l1.length : Int) : Int).toNat 0) 0 l0_0 l0_1) else (none)) else (none))) = some r := h
 clear h
 replace H := Option.bind_eq_some_iff.mp H
 obtain ⟨t152, A30, H⟩ := H
 replace H : (if 0 ≤ (l1.length : Int) then (if ((l1.length : Int) : Int).toNat ≤ 35184372088832 then (spec_l7Above.l0 k l1 t152 (List.replicate ((l1.length : Int) : Int).toNat 0) 0 l0_0 l0_1) else (none)) else (none)) = some r := H
 have A3 := Aside0.mk A30
 clear A30
 by_cases c4 : 0 ≤ (l1.length : Int)
 ·rw [if_pos c4] at H
  have c4b0 := eq_true c4
  have c4b1 : decide (0 ≤ (l1.length : Int)) = true := decide_eq_true c4
  clear c4
  by_cases c5 : ((l1.length : Int) : Int).toNat ≤ 35184372088832
  ·rw [if_pos c5] at H
   have c5b0 := eq_true c5
   have c5b1 : decide (((l1.length : Int) : Int).toNat ≤ 35184372088832) = true := decide_eq_true c5
   clear c5
   obtain ⟨y155, hy155⟩ : ∃ y_ : List Int, y_ = (List.replicate ((l1.length : Int) : Int).toNat 0) := ⟨_, rfl⟩
   replace H : (spec_l7Above.l0 k l1 t152 y155 0 l0_0 l0_1) = some r := by first | (rw [hy155]; with_reducible exact H) | (have H2_ := (Option.bind_some _ _).symm.trans H; rw [hy155]; with_reducible exact H2_) | (have H2_ := (Option.bind_some _ _).symm.trans H; with_reducible exact H2_) | with_reducible exact H | (rw [hy155]; exact H) | exact H
   have Ny155 := Aside0.mk hy155
   clear hy155
   have H' := Aside0.mk H
   clear H
   go_enter Try.func66, Try.ntmps66
   go_wp2_with (first | ((with_reducible refine gate_dst (N := 2) rfl ?_); refine box_event ?hg (N := 2) ?hd (cs := #[.slice A0_0 l0_0.length c0_0, .slice A0_1 l0_1.length c0_1]) (t := 33) ?hr ?_; (case hd => rfl); (case hg => rfl); (case hr => first | (go_simp; done) | (go_simp; rfl)); intro gb151 hg w6 hbox hb; have n0_ := Aside0.mk (below_step (wz_ HB.out) hb); have n1_ := Aside0.mk (hbox); have n2_ := Aside0.mk ((by rw [hg]; exact (below_size (wz_ HB.out)) : w.heap.size ≤ gb151)); have n3_ := Aside0.mk ((by rw [hg]; exact (below_size (wz_ HB.out)) : w.heap.size ≤ gb151)); clear HB; have HB := n0_; have BK151 := n1_; have GW151 := n2_; have GE151 := n3_; clear n0_ n1_ n2_ n3_; clear hb hbox hg; have hcz7_0 : w6.cell? ⟨gb151, 0, none⟩ = some (.slice A0_0 l0_0.length c0_0) := (blk_cell BK151.out 0).trans rfl; have hcz7_1 : w6.cell? ⟨gb151, 1, none⟩ = some (.slice A0_1 l0_1.length c0_1) := (blk_cell BK151.out 1).trans rfl; have hfz7_0 := blk_frozen BK151.out 0; have hfz7_1 := blk_frozen BK151.out 1) | (go_at_call 56; (with_reducible refine (spec_l4Later.calls k _ _ l0_0 _ _ l0_1 t152 _ ?side1 ?side2 ?side3 ?side4 A3.out).mono ?_); (case side1 => exact cz_ (Kd.C_below HR0_0.out HB.out)); (case side2 => exact HC0_0.out); (case side3 => exact cz_ (Kd.C_below HR0_1.out HB.out)); (case side4 => exact HC0_1.out); rintro e w8 ⟨v153, rfl, ho0, hb⟩; have n0_ := Aside0.mk (Kd.R_lower ho0 (below_size (by repeat (first | (with_reducible first | exact HB.out | apply below_alloc | apply pw_below_drewN | apply below_drew1 | refine below_set ?_ GE151.out) | exact HB.out)))); have n1_ := Aside0.mk (blk_below (bz_ BK151.out) hb); have n2_ := Aside0.mk (below_step (by repeat (first | (with_reducible first | exact HB.out | apply below_alloc | apply pw_below_drewN | apply below_drew1 | refine below_set ?_ GE151.out) | exact HB.out)) hb); clear BK151; clear HB; have HO154 := n0_; have BK151 := n1_; have HB := n2_; clear n0_ n1_ n2_; (try clear hb); (try clear hb2); (try clear hk); (try clear hi); (try clear ho0)) | ((with_reducible refine gate_dst (N := 15) rfl ?_); refine Kd.R_make (Kd.int .i64) _ 3 rfl (N := 15) rfl 45 _ _ rfl (l1.length : Int) rfl rfl Try.underlying45 (.int .i64 0) 8 info3 rfl (by decide) (by omega) 0 (ok := fun _ => True) (okp := fun _ => True) rfl (fun _ hk => hk) trivial (od_) (Nat.le_trans (Nat.mul_le_mul_right _ (od_ : (l1.length : Int).toNat ≤ 35184372088832)) (by omega)) (Below.refl _ _) (Nat.le_refl _) ?_; intro v156 w9 ho10 hb hg_ hnew_; clear hg_ hnew_; (first | rw [← Ny155.out] at ho10 | (simp only [Int.reduceToNat] at ho10; rw [← Ny155.out] at ho10)); have n0_ := Aside0.mk (Kd.R_elder' (rz_ HO154.out) (Kd.R_base ho10) hb); have n1_ := Aside0.mk (Kd.R_lower (Kd.R_new' ho10 (Kd.R_lt (rz_ HO154.out))) (below_size (by repeat (first | (with_reducible first | exact HB.out | apply below_alloc | apply pw_below_drewN | apply below_drew1 | refine below_set ?_ GE151.out) | exact HB.out)))); have n2_ := Aside0.mk (blk_below (bz_ BK151.out) hb); have n3_ := Aside0.mk (below_step (by repeat (first | (with_reducible first | exact HB.out | apply below_alloc | apply pw_below_drewN | apply below_drew1 | refine below_set ?_ GE151.out) | exact HB.out)) hb); clear HO154; clear BK151; clear HB; have HO154 := n0_; have HO157 := n1_; have BK151 := n2_; have HB := n3_; clear n0_ n1_ n2_ n3_; clear hb ho10))
   repeat (go_quiet (first | ((with_reducible refine gate_dst (N := 2) rfl ?_); refine box_event ?hg (N := 2) ?hd (cs := #[.slice A0_0 l0_0.length c0_0, .slice A0_1 l0_1.length c0_1]) (t := 33) ?hr ?_; (case hd => rfl); (case hg => rfl); (case hr => first | (go_simp; done) | (go_simp; rfl)); intro gb151 hg w6 hbox hb; have n0_ := Aside0.mk (below_step (wz_ HB.out) hb); have n1_ := Aside0.mk (hbox); have n2_ := Aside0.mk ((by rw [hg]; exact (below_size (wz_ HB.out)) : w.heap.size ≤ gb151)); have n3_ := Aside0.mk ((by rw [hg]; exact (below_size (wz_ HB.out)) : w.heap.size ≤ gb151)); clear HB; have HB := n0_; have BK151 := n1_; have GW151 := n2_; have GE151 := n3_; clear n0_ n1_ n2_ n3_; clear hb hbox hg; have hcz7_0 : w6.cell? ⟨gb151, 0, none⟩ = some (.slice A0_0 l0_0.length c0_0) := (blk_cell BK151.out 0).trans rfl; have hcz7_1 : w6.cell? ⟨gb151, 1, none⟩ = some (.slice A0_1 l0_1.length c0_1) := (blk_cell BK151.out 1).trans rfl; have hfz7_0 := blk_frozen BK151.out 0; have hfz7_1 := blk_frozen BK151.out 1) | (go_at_call 56; (with_reducible refine (spec_l4Later.calls k _ _ l0_0 _ _ l0_1 t152 _ ?side1 ?side2 ?side3 ?side4 A3.out).mono ?_); (case side1 => exact cz_ (Kd.C_below HR0_0.out HB.out)); (case side2 => exact HC0_0.out); (case side3 => exact cz_ (Kd.C_below HR0_1.out HB.out)); (case side4 => exact HC0_1.out); rintro e w8 ⟨v153, rfl, ho0, hb⟩; have n0_ := Aside0.mk (Kd.R_lower ho0 (below_size (by repeat (first | (with_reducible first | exact HB.out | apply below_alloc | apply pw_below_drewN | apply below_drew1 | refine below_set ?_ GE151.out) | exact HB.out)))); have n1_ := Aside0.mk (blk_below (bz_ BK151.out) hb); have n2_ := Aside0.mk (below_step (by repeat (first | (with_reducible first | exact HB.out | apply below_alloc | apply pw_below_drewN | apply below_drew1 | refine below_set ?_ GE151.out) | exact HB.out)) hb); clear BK151; clear HB; have HO154 := n0_; have BK151 := n1_; have HB := n2_; clear n0_ n1_ n2_; (try clear hb); (try clear hb2); (try clear hk); (try clear hi); (try clear ho0)) | ((with_reducible refine gate_dst (N := 15) rfl ?_); refine Kd.R_make (Kd.int .i64) _ 3 rfl (N := 15) rfl 45 _ _ rfl (l1.length : Int) rfl rfl Try.underlying45 (.int .i64 0) 8 info3 rfl (by decide) (by omega) 0 (ok := fun _ => True) (okp := fun _ => True) rfl (fun _ hk => hk) trivial (od_) (Nat.le_trans (Nat.mul_le_mul_right _ (od_ : (l1.length : Int).toNat ≤ 35184372088832)) (by omega)) (Below.refl _ _) (Nat.le_refl _) ?_; intro v156 w9 ho10 hb hg_ hnew_; clear hg_ hnew_; (first | rw [← Ny155.out] at ho10 | (simp only [Int.reduceToNat] at ho10; rw [← Ny155.out] at ho10)); have n0_ := Aside0.mk (Kd.R_elder' (rz_ HO154.out) (Kd.R_base ho10) hb); have n1_ := Aside0.mk (Kd.R_lower (Kd.R_new' ho10 (Kd.R_lt (rz_ HO154.out))) (below_size (by repeat (first | (with_reducible first | exact HB.out | apply below_alloc | apply pw_below_drewN | apply below_drew1 | refine below_set ?_ GE151.out) | exact HB.out)))); have n2_ := Aside0.mk (blk_below (bz_ BK151.out) hb); have n3_ := Aside0.mk (below_step (by repeat (first | (with_reducible first | exact HB.out | apply below_alloc | apply pw_below_drewN | apply below_drew1 | refine below_set ?_ GE151.out) | exact HB.out)) hb); clear HO154; clear BK151; clear HB; have HO154 := n0_; have HO157 := n1_; have BK151 := n2_; have HB := n3_; clear n0_ n1_ n2_ n3_; clear hb ho10)); try go_wp2_with (first | ((with_reducible refine gate_dst (N := 2) rfl ?_); refine box_event ?hg (N := 2) ?hd (cs := #[.slice A0_0 l0_0.length c0_0, .slice A0_1 l0_1.length c0_1]) (t := 33) ?hr ?_; (case hd => rfl); (case hg => rfl); (case hr => first | (go_simp; done) | (go_simp; rfl)); intro gb151 hg w6 hbox hb; have n0_ := Aside0.mk (below_step (wz_ HB.out) hb); have n1_ := Aside0.mk (hbox); have n2_ := Aside0.mk ((by rw [hg]; exact (below_size (wz_ HB.out)) : w.heap.size ≤ gb151)); have n3_ := Aside0.mk ((by rw [hg]; exact (below_size (wz_ HB.out)) : w.heap.size ≤ gb151)); clear HB; have HB := n0_; have BK151 := n1_; have GW151 := n2_; have GE151 := n3_; clear n0_ n1_ n2_ n3_; clear hb hbox hg; have hcz7_0 : w6.cell? ⟨gb151, 0, none⟩ = some (.slice A0_0 l0_0.length c0_0) := (blk_cell BK151.out 0).trans rfl; have hcz7_1 : w6.cell? ⟨gb151, 1, none⟩ = some (.slice A0_1 l0_1.length c0_1) := (blk_cell BK151.out 1).trans rfl; have hfz7_0 := blk_frozen BK151.out 0; have hfz7_1 := blk_frozen BK151.out 1) | (go_at_call 56; (with_reducible refine (spec_l4Later.calls k _ _ l0_0 _ _ l0_1 t152 _ ?side1 ?side2 ?side3 ?side4 A3.out).mono ?_); (case side1 => exact cz_ (Kd.C_below HR0_0.out HB.out)); (case side2 => exact HC0_0.out); (case side3 => exact cz_ (Kd.C_below HR0_1.out HB.out)); (case side4 => exact HC0_1.out); rintro e w8 ⟨v153, rfl, ho0, hb⟩; have n0_ := Aside0.mk (Kd.R_lower ho0 (below_size (by repeat (first | (with_reducible first | exact HB.out | apply below_alloc | apply pw_below_drewN | apply below_drew1 | refine below_set ?_ GE151.out) | exact HB.out)))); have n1_ := Aside0.mk (blk_below (bz_ BK151.out) hb); have n2_ := Aside0.mk (below_step (by repeat (first | (with_reducible first | exact HB.out | apply below_alloc | apply pw_below_drewN | apply below_drew1 | refine below_set ?_ GE151.out) | exact HB.out)) hb); clear BK151; clear HB; have HO154 := n0_; have BK151 := n1_; have HB := n2_; clear n0_ n1_ n2_; (try clear hb); (try clear hb2); (try clear hk); (try clear hi); (try clear ho0)) | ((with_reducible refine gate_dst (N := 15) rfl ?_); refine Kd.R_make (Kd.int .i64) _ 3 rfl (N := 15) rfl 45 _ _ rfl (l1.length : Int) rfl rfl Try.underlying45 (.int .i64 0) 8 info3 rfl (by decide) (by omega) 0 (ok := fun _ => True) (okp := fun _ => True) rfl (fun _ hk => hk) trivial (od_) (Nat.le_trans (Nat.mul_le_mul_right _ (od_ : (l1.length : Int).toNat ≤ 35184372088832)) (by omega)) (Below.refl _ _) (Nat.le_refl _) ?_; intro v156 w9 ho10 hb hg_ hnew_; clear hg_ hnew_; (first | rw [← Ny155.out] at ho10 | (simp only [Int.reduceToNat] at ho10; rw [← Ny155.out] at ho10)); have n0_ := Aside0.mk (Kd.R_elder' (rz_ HO154.out) (Kd.R_base ho10) hb); have n1_ := Aside0.mk (Kd.R_lower (Kd.R_new' ho10 (Kd.R_lt (rz_ HO154.out))) (below_size (by repeat (first | (with_reducible first | exact HB.out | apply below_alloc | apply pw_below_drewN | apply below_drew1 | refine below_set ?_ GE151.out) | exact HB.out)))); have n2_ := Aside0.mk (blk_below (bz_ BK151.out) hb); have n3_ := Aside0.mk (below_step (by repeat (first | (with_reducible first | exact HB.out | apply below_alloc | apply pw_below_drewN | apply below_drew1 | refine below_set ?_ GE151.out) | exact HB.out)) hb); clear HO154; clear BK151; clear HB; have HO154 := n0_; have HO157 := n1_; have BK151 := n2_; have HB := n3_; clear n0_ n1_ n2_ n3_; clear hb ho10)))
   go_loopg [7] k (fun kq v7 w' => ∃ (x6_1 : List Int) (x7_1 : Int), v7 = .int .i64 x7_1 ∧ Aside0 (spec_l7Above.l0 kq l1 t152 x6_1 x7_1 l0_0 l0_1 = some r) ∧ Aside0 (kq ≤ k) ∧ Aside0 (Kd.R (Kd.int .i64) 3 w' w.heap.size (fun k_ => some k_ ≠ (v156 : Value).ownBlock) v153 t152) ∧ Aside0 (Kd.R (Kd.int .i64) 3 w' w.heap.size (fun k_ => some k_ ≠ (v153 : Value).ownBlock) v156 x6_1) ∧ Aside0 (w'.heap[gb151]? = some (.cells #[(.slice A0_0 l0_0.length c0_0), (.slice A0_1 l0_1.length c0_1)] 33 (0, 0))) ∧ Aside0 (Below w.heap.size w w'))
   case atStart => exact ⟨(y155), (0), (by first | rfl | (simp; done) | (simp [*]; done)), H', ⟨Nat.le_refl _⟩, ⟨rz_ (Kd.R_mono HO154.out (fun _ hk => hk.2))⟩, ⟨rz_ (Kd.R_mono HO157.out (fun _ hk => hk.2))⟩, ⟨bz_ BK151.out⟩, ⟨by repeat (first | (with_reducible first | exact HB.out | apply below_alloc | apply pw_below_drewN | apply below_drew1 | refine below_set ?_ GE151.out) | exact HB.out)⟩⟩
   case round =>
    clear H'
    try clear c1
    try clear p2
    try clear c4
    try clear c4b0
    try clear c4b1
    try clear c5
    try clear c5b0
    try clear c5b1
    try clear c6
    try clear hcz7_0
    try clear hcz7_1
    try clear hfz7_0
    try clear hfz7_1
    obtain ⟨x6_1, x7_1, rfl, HA, HK1, HO_5, HO_6, BK151, HB⟩ := hrel
    cases gk with
    | zero => exact absurd HA.out (by simp [spec_l7Above.l0])
    | succ k1 =>
     have H := HA.out
     clear HA
     simp only [spec_l7Above.l0] at H
     by_cases c11 : x7_1 < (t152.length : Int)
     ·rw [if_pos c11] at H
      have c11b0 : decide (x7_1 < (t152.length : Int)) = true := decide_eq_true c11
      clear c11
      have H' := Aside0.mk H
      clear H
      obtain ⟨Ao12, co12, eo12⟩ := Kd.R_slice HO_5.out
      subst eo12
      go_wp2
      repeat (go_quiet (fail); try go_wp2)
      go_loopg [8] k1 (fun kq v8 w' => ∃ (x6_2 : List Int) (x8_2 : Int), v8 = .int .i64 x8_2 ∧ Aside0 (spec_l7Above.l1 kq l1 t152 x6_2 x7_1 x8_2 l0_0 l0_1 = some r) ∧ Aside0 (kq ≤ k1) ∧ Aside0 (Kd.R (Kd.int .i64) 3 w' w.heap.size (fun k_ => some k_ ≠ (v156 : Value).ownBlock) (.slice Ao12 t152.length co12) t152) ∧ Aside0 (Kd.R (Kd.int .i64) 3 w' w.heap.size (fun k_ => some k_ ≠ ((.slice Ao12 t152.length co12) : Value).ownBlock) v156 x6_2) ∧ Aside0 (w'.heap[gb151]? = some (.cells #[(.slice A0_0 l0_0.length c0_0), (.slice A0_1 l0_1.length c0_1)] 33 (0, 0))) ∧ Aside0 (Below w.heap.size w w'))
      case atStart => exact ⟨(x6_1), (0), (by first | rfl | (simp; done) | (simp [*]; done)), H', ⟨Nat.le_refl _⟩, ⟨rz_ HO_5.out⟩, ⟨rz_ HO_6.out⟩, ⟨bz_ BK151.out⟩, ⟨by repeat (first | (with_reducible first | exact HB.out | apply below_alloc | apply pw_below_drewN | apply below_drew1 | refine below_set ?_ GE151.out) | exact HB.out)⟩⟩
      case round =>
       clear H'
       try clear c1
       try clear p2
       try clear c4
       try clear c4b0
       try clear c4b1
       try clear c5
       try clear c5b0
       try clear c5b1
       try clear c6
       try clear c11
       try clear c11b0
       try clear hcz7_0
       try clear hcz7_1
       try clear hfz7_0
       try clear hfz7_1
       try clear p2
       obtain ⟨x6_2, x8_2, rfl, HA, HK2, HO_5, HO_6, BK151, HB⟩ := hrel
       cases gk with
       | zero => exact absurd HA.out (by simp [spec_l7Above.l1])
       | succ k2 =>
        have H := HA.out
        clear HA
        simp only [spec_l7Above.l1] at H
        by_cases c13 : x8_2 < (t152.length : Int)
        ·rw [if_pos c13] at H
         have c13b0 : decide (x8_2 < (t152.length : Int)) = true := decide_eq_true c13
         clear c13
         by_cases c14 : 0 ≤ x7_1
         ·rw [if_pos c14] at H
          have c14b0 : decide (0 ≤ x7_1) = true := decide_eq_true c14
          clear c14
          by_cases c15 : x7_1 < (l0_0.length : Int)
          ·rw [if_pos c15] at H
           have c15b0 : decide (x7_1 < (l0_0.length : Int)) = true := decide_eq_true c15
           clear c15
           replace H := Option.bind_eq_some_iff.mp H
           obtain ⟨t159, A160, H⟩ := H
           replace H : (if 0 ≤ x8_2 then (if x8_2 < (l0_0.length : Int) then ((spec_l7Phase.f k2 l1 ((rd_T77 l0_0 x8_2).f0)).bind fun t161 => (if x7_1 < (t152.length : Int) then ((spec_l4Bit.f (rd t152 x7_1) x8_2).bind fun t163 => (if t163 = true then (if t159 ≥ 0 then (if t161 ≥ 0 then (if t159 = t161 then (spec_l7Above.l1 k2 l1 t152 x6_2 x7_1 (wrap64 (x8_2 + 1)) l0_0 l0_1) else (if 0 ≤ t159 then (if t159 < (x6_2.length : Int) then (if 0 ≤ (IntKind.u64.wrap (t161)) then (spec_l7Above.l1 k2 l1 t152 (x6_2.set (t159 : Int).toNat (Go.bits .or .i64 (rd x6_2 t159) (shl .i64 1 (IntKind.u64.wrap (t161))))) x7_1 (wrap64 (x8_2 + 1)) l0_0 l0_1) else (none)) else (none)) else (none))) else (spec_l7Above.l1 k2 l1 t152 x6_2 x7_1 (wrap64 (x8_2 + 1)) l0_0 l0_1)) else (spec_l7Above.l1 k2 l1 t152 x6_2 x7_1 (wrap64 (x8_2 + 1)) l0_0 l0_1)) else (spec_l7Above.l1 k2 l1 t152 x6_2 x7_1 (wrap64 (x8_2 + 1)) l0_0 l0_1))) else (none))) else (none)) else (none)) = some r := H
           have A16 := Aside0.mk A160
           clear A160
           by_cases c17 : 0 ≤ x8_2
           ·rw [if_pos c17] at H
            have c17b0 : decide (0 ≤ x8_2) = true := decide_eq_true c17
            clear c17
            by_cases c18 : x8_2 < (l0_0.length : Int)
            ·rw [if_pos c18] at H
             have c18b0 : decide (x8_2 < (l0_0.length : Int)) = true := decide_eq_true c18
             clear c18
             replace H := Option.bind_eq_some_iff.mp H
             obtain ⟨t161, A190, H⟩ := H
             replace H : (if x7_1 < (t152.length : Int) then ((spec_l4Bit.f (rd t152 x7_1) x8_2).bind fun t163 => (if t163 = true then (if t159 ≥ 0 then (if t161 ≥ 0 then (if t159 = t161 then (spec_l7Above.l1 k2 l1 t152 x6_2 x7_1 (wrap64 (x8_2 + 1)) l0_0 l0_1) else (if 0 ≤ t159 then (if t159 < (x6_2.length : Int) then (if 0 ≤ (IntKind.u64.wrap (t161)) then (spec_l7Above.l1 k2 l1 t152 (x6_2.set (t159 : Int).toNat (Go.bits .or .i64 (rd x6_2 t159) (shl .i64 1 (IntKind.u64.wrap (t161))))) x7_1 (wrap64 (x8_2 + 1)) l0_0 l0_1) else (none)) else (none)) else (none))) else (spec_l7Above.l1 k2 l1 t152 x6_2 x7_1 (wrap64 (x8_2 + 1)) l0_0 l0_1)) else (spec_l7Above.l1 k2 l1 t152 x6_2 x7_1 (wrap64 (x8_2 + 1)) l0_0 l0_1)) else (spec_l7Above.l1 k2 l1 t152 x6_2 x7_1 (wrap64 (x8_2 + 1)) l0_0 l0_1))) else (none)) = some r := H
             have A19 := Aside0.mk A190
             clear A190
             by_cases c20 : x7_1 < (t152.length : Int)
             ·rw [if_pos c20] at H
              have c20b0 : decide (x7_1 < (t152.length : Int)) = true := decide_eq_true c20
              clear c20
              replace H := Option.bind_eq_some_iff.mp H
              obtain ⟨t163, A210, H⟩ := H
              replace H : (if t163 = true then (if t159 ≥ 0 then (if t161 ≥ 0 then (if t159 = t161 then (spec_l7Above.l1 k2 l1 t152 x6_2 x7_1 (wrap64 (x8_2 + 1)) l0_0 l0_1) else (if 0 ≤ t159 then (if t159 < (x6_2.length : Int) then (if 0 ≤ (IntKind.u64.wrap (t161)) then (spec_l7Above.l1 k2 l1 t152 (x6_2.set (t159 : Int).toNat (Go.bits .or .i64 (rd x6_2 t159) (shl .i64 1 (IntKind.u64.wrap (t161))))) x7_1 (wrap64 (x8_2 + 1)) l0_0 l0_1) else (none)) else (none)) else (none))) else (spec_l7Above.l1 k2 l1 t152 x6_2 x7_1 (wrap64 (x8_2 + 1)) l0_0 l0_1)) else (spec_l7Above.l1 k2 l1 t152 x6_2 x7_1 (wrap64 (x8_2 + 1)) l0_0 l0_1)) else (spec_l7Above.l1 k2 l1 t152 x6_2 x7_1 (wrap64 (x8_2 + 1)) l0_0 l0_1)) = some r := H
              have A21 := Aside0.mk A210
              clear A210
              by_cases c22 : t163 = true
              ·subst c22
               have H1 : (if t159 ≥ 0 then (if t161 ≥ 0 then (if t159 = t161 then (spec_l7Above.l1 k2 l1 t152 x6_2 x7_1 (wrap64 (x8_2 + 1)) l0_0 l0_1) else (if 0 ≤ t159 then (if t159 < (x6_2.length : Int) then (if 0 ≤ (IntKind.u64.wrap (t161)) then (spec_l7Above.l1 k2 l1 t152 (x6_2.set (t159 : Int).toNat (Go.bits .or .i64 (rd x6_2 t159) (shl .i64 1 (IntKind.u64.wrap (t161))))) x7_1 (wrap64 (x8_2 + 1)) l0_0 l0_1) else (none)) else (none)) else (none))) else (spec_l7Above.l1 k2 l1 t152 x6_2 x7_1 (wrap64 (x8_2 + 1)) l0_0 l0_1)) else (spec_l7Above.l1 k2 l1 t152 x6_2 x7_1 (wrap64 (x8_2 + 1)) l0_0 l0_1)) = some r := by rw [if_pos rfl] at H; exact H
               clear H
               have H := H1
               clear H1
               by_cases c23 : t159 ≥ 0
               ·rw [if_pos c23] at H
                have c23b0 : decide (0 ≤ t159) = true := decide_eq_true c23
                clear c23
                by_cases c24 : t161 ≥ 0
                ·rw [if_pos c24] at H
                 have c24b0 : decide (0 ≤ t161) = true := decide_eq_true c24
                 clear c24
                 by_cases c25 : t159 = t161
                 ·rw [if_pos c25] at H
                  have c25b0 : (t159 == t161) = true := beq_iff_eq.mpr c25
                  have c25b1 : (t159 != t161) = false := bne_eq_false_iff_eq.mpr c25
                  clear c25
                  have H' := Aside0.mk H
                  clear H
                  have hcz26_0 : wr.cell? ⟨gb151, 0, none⟩ = some (.slice A0_0 l0_0.length c0_0) := (blk_cell BK151.out 0).trans rfl
                  have hcz26_1 : wr.cell? ⟨gb151, 1, none⟩ = some (.slice A0_1 l0_1.length c0_1) := (blk_cell BK151.out 1).trans rfl
                  have hfz26_0 := blk_frozen BK151.out 0
                  have hfz26_1 := blk_frozen BK151.out 1
                  have p158 : 0 ≤ (x7_1 : Int) := od_
                  have q158 : x7_1 < (l0_0.length : Int) := od_
                  obtain ⟨ad158, e158, hx158_0, hx158_1⟩ := at_T77 HR0_0.out x7_1 p158 q158
                  cases e158
                  replace hx158_0 := lc_ HB.out hx158_0
                  replace hx158_1 := lc_ HB.out hx158_1
                  replace p158 := eq_true p158
                  replace q158 := eq_true q158
                  go_wp2_with (first | (go_at_call 52; (with_reducible refine (spec_l7Phase.calls k2 _ _ l1 ((rd_T77 l0_0 x7_1).f0) t159 _ ?side1 ?side2 A16.out).mono ?_); (case side1 => exact cz_ (Kd.C_below HR1.out HB.out)); (case side2 => exact HC1.out); rintro e w' ⟨rfl, ⟨nd, rfl⟩⟩; (try first | exact ⟨rfl, _, World.drewN_drewN _ _ _⟩ | exact ⟨rfl, _, Eq.trans (World.drewN_drewN _ _ _) (congrArg (World.drewN _) (Nat.add_assoc _ _ _))⟩); have p160 : 0 ≤ (x8_2 : Int) := od_; have q160 : x8_2 < (l0_0.length : Int) := od_; obtain ⟨ad160, e160, hx160_0, hx160_1⟩ := at_T77 HR0_0.out x8_2 p160 q160; obtain rfl : ad158 = ad160 := (by injection e160); replace hx160_0 := lc_ HB.out hx160_0; replace hx160_1 := lc_ HB.out hx160_1; replace p160 := eq_true p160; replace q160 := eq_true q160) | (go_at_call 52; (with_reducible refine (spec_l7Phase.calls k2 _ _ l1 ((rd_T77 l0_0 x8_2).f0) t161 _ ?side1 ?side2 A19.out).mono ?_); (case side1 => repeat (first | exact (Kd.C_below HR1.out (by repeat (first | (with_reducible first | exact HB.out | apply below_alloc | apply pw_below_drewN | apply below_drew1 | refine below_set ?_ GE151.out) | exact HB.out))) | (with_reducible refine Kd.C_alloc ?_ _) | (with_reducible refine Kd.C_drewN ?_ _) | (with_reducible refine Kd.C_drew ?_))); (case side2 => exact HC1.out); rintro e w' ⟨rfl, ⟨nd, rfl⟩⟩; (try first | exact ⟨rfl, _, World.drewN_drewN _ _ _⟩ | exact ⟨rfl, _, Eq.trans (World.drewN_drewN _ _ _) (congrArg (World.drewN _) (Nat.add_assoc _ _ _))⟩); have p162 : 0 ≤ (x7_1 : Int) := od_; have q162 : x7_1 < (t152.length : Int) := od_; obtain ⟨ad162, e162, hx162_0⟩ := Kd.at_int (Kd.R_reads' HO_5.out).2.2 x7_1 p162 q162; cases e162; replace p162 := eq_true p162; replace q162 := eq_true q162) | (go_at_call 57; (with_reducible refine (spec_l4Bit.calls (rd t152 x7_1) x8_2 true _ A21.out).mono ?_); rintro e w' ⟨rfl, ⟨nd, rfl⟩⟩; (try first | exact ⟨rfl, _, World.drewN_drewN _ _ _⟩ | exact ⟨rfl, _, Eq.trans (World.drewN_drewN _ _ _) (congrArg (World.drewN _) (Nat.add_assoc _ _ _))⟩)))
                  repeat (go_quiet (first | (go_at_call 52; (with_reducible refine (spec_l7Phase.calls k2 _ _ l1 ((rd_T77 l0_0 x7_1).f0) t159 _ ?side1 ?side2 A16.out).mono ?_); (case side1 => exact cz_ (Kd.C_below HR1.out HB.out)); (case side2 => exact HC1.out); rintro e w' ⟨rfl, ⟨nd, rfl⟩⟩; (try first | exact ⟨rfl, _, World.drewN_drewN _ _ _⟩ | exact ⟨rfl, _, Eq.trans (World.drewN_drewN _ _ _) (congrArg (World.drewN _) (Nat.add_assoc _ _ _))⟩); have p160 : 0 ≤ (x8_2 : Int) := od_; have q160 : x8_2 < (l0_0.length : Int) := od_; obtain ⟨ad160, e160, hx160_0, hx160_1⟩ := at_T77 HR0_0.out x8_2 p160 q160; obtain rfl : ad158 = ad160 := (by injection e160); replace hx160_0 := lc_ HB.out hx160_0; replace hx160_1 := lc_ HB.out hx160_1; replace p160 := eq_true p160; replace q160 := eq_true q160) | (go_at_call 52; (with_reducible refine (spec_l7Phase.calls k2 _ _ l1 ((rd_T77 l0_0 x8_2).f0) t161 _ ?side1 ?side2 A19.out).mono ?_); (case side1 => repeat (first | exact (Kd.C_below HR1.out (by repeat (first | (with_reducible first | exact HB.out | apply below_alloc | apply pw_below_drewN | apply below_drew1 | refine below_set ?_ GE151.out) | exact HB.out))) | (with_reducible refine Kd.C_alloc ?_ _) | (with_reducible refine Kd.C_drewN ?_ _) | (with_reducible refine Kd.C_drew ?_))); (case side2 => exact HC1.out); rintro e w' ⟨rfl, ⟨nd, rfl⟩⟩; (try first | exact ⟨rfl, _, World.drewN_drewN _ _ _⟩ | exact ⟨rfl, _, Eq.trans (World.drewN_drewN _ _ _) (congrArg (World.drewN _) (Nat.add_assoc _ _ _))⟩); have p162 : 0 ≤ (x7_1 : Int) := od_; have q162 : x7_1 < (t152.length : Int) := od_; obtain ⟨ad162, e162, hx162_0⟩ := Kd.at_int (Kd.R_reads' HO_5.out).2.2 x7_1 p162 q162; cases e162; replace p162 := eq_true p162; replace q162 := eq_true q162) | (go_at_call 57; (with_reducible refine (spec_l4Bit.calls (rd t152 x7_1) x8_2 true _ A21.out).mono ?_); rintro e w' ⟨rfl, ⟨nd, rfl⟩⟩; (try first | exact ⟨rfl, _, World.drewN_drewN _ _ _⟩ | exact ⟨rfl, _, Eq.trans (World.drewN_drewN _ _ _) (congrArg (World.drewN _) (Nat.add_assoc _ _ _))⟩))); try go_wp2_with (first | (go_at_call 52; (with_reducible refine (spec_l7Phase.calls k2 _ _ l1 ((rd_T77 l0_0 x7_1).f0) t159 _ ?side1 ?side2 A16.out).mono ?_); (case side1 => exact cz_ (Kd.C_below HR1.out HB.out)); (case side2 => exact HC1.out); rintro e w' ⟨rfl, ⟨nd, rfl⟩⟩; (try first | exact ⟨rfl, _, World.drewN_drewN _ _ _⟩ | exact ⟨rfl, _, Eq.trans (World.drewN_drewN _ _ _) (congrArg (World.drewN _) (Nat.add_assoc _ _ _))⟩); have p160 : 0 ≤ (x8_2 : Int) := od_; have q160 : x8_2 < (l0_0.length : Int) := od_; obtain ⟨ad160, e160, hx160_0, hx160_1⟩ := at_T77 HR0_0.out x8_2 p160 q160; obtain rfl : ad158 = ad160 := (by injection e160); replace hx160_0 := lc_ HB.out hx160_0; replace hx160_1 := lc_ HB.out hx160_1; replace p160 := eq_true p160; replace q160 := eq_true q160) | (go_at_call 52; (with_reducible refine (spec_l7Phase.calls k2 _ _ l1 ((rd_T77 l0_0 x8_2).f0) t161 _ ?side1 ?side2 A19.out).mono ?_); (case side1 => repeat (first | exact (Kd.C_below HR1.out (by repeat (first | (with_reducible first | exact HB.out | apply below_alloc | apply pw_below_drewN | apply below_drew1 | refine below_set ?_ GE151.out) | exact HB.out))) | (with_reducible refine Kd.C_alloc ?_ _) | (with_reducible refine Kd.C_drewN ?_ _) | (with_reducible refine Kd.C_drew ?_))); (case side2 => exact HC1.out); rintro e w' ⟨rfl, ⟨nd, rfl⟩⟩; (try first | exact ⟨rfl, _, World.drewN_drewN _ _ _⟩ | exact ⟨rfl, _, Eq.trans (World.drewN_drewN _ _ _) (congrArg (World.drewN _) (Nat.add_assoc _ _ _))⟩); have p162 : 0 ≤ (x7_1 : Int) := od_; have q162 : x7_1 < (t152.length : Int) := od_; obtain ⟨ad162, e162, hx162_0⟩ := Kd.at_int (Kd.R_reads' HO_5.out).2.2 x7_1 p162 q162; cases e162; replace p162 := eq_true p162; replace q162 := eq_true q162) | (go_at_call 57; (with_reducible refine (spec_l4Bit.calls (rd t152 x7_1) x8_2 true _ A21.out).mono ?_); rintro e w' ⟨rfl, ⟨nd, rfl⟩⟩; (try first | exact ⟨rfl, _, World.drewN_drewN _ _ _⟩ | exact ⟨rfl, _, Eq.trans (World.drewN_drewN _ _ _) (congrArg (World.drewN _) (Nat.add_assoc _ _ _))⟩))))
                  go_roundg k2
                  case measure => have := HK1.out; have := HK2.out; omega
                  case rel => exact ⟨(x6_2), (wrap64 (x8_2 + 1)), (by first | rfl | (simp; done) | (simp [*]; done)), H', ⟨by have := HK1.out; have := HK2.out; omega⟩, ⟨rz_ HO_5.out⟩, ⟨rz_ HO_6.out⟩, ⟨bz_ BK151.out⟩, ⟨by repeat (first | (with_reducible first | exact HB.out | apply below_alloc | apply pw_below_drewN | apply below_drew1 | refine below_set ?_ GE151.out) | exact HB.out)⟩⟩
                 ·rw [if_neg c25] at H
                  have c25b0 : (t159 == t161) = false := beq_eq_false_iff_ne.mpr c25
                  have c25b1 : (t159 != t161) = true := bne_iff_ne.mpr c25
                  by_cases c27 : 0 ≤ t159
                  ·rw [if_pos c27] at H
                   have c27b0 : decide (0 ≤ t159) = true := decide_eq_true c27
                   clear c27
                   by_cases c28 : t159 < (x6_2.length : Int)
                   ·rw [if_pos c28] at H
                    have c28b0 : decide (t159 < (x6_2.length : Int)) = true := decide_eq_true c28
                    clear c28
                    obtain ⟨ji29, hji29⟩ : ∃ j_ : Int, (IntKind.u64.wrap (t161)) = j_ := ⟨_, rfl⟩
                    replace H : (if 0 ≤ (ji29) then (spec_l7Above.l1 k2 l1 t152 (x6_2.set (t159 : Int).toNat (Go.bits .or .i64 (rd x6_2 t159) (shl .i64 1 (ji29)))) x7_1 (wrap64 (x8_2 + 1)) l0_0 l0_1) else (none)) = some r := by first | (rw [hji29] at H; exact H) | (simp only [hji29] at H ⊢; exact H)
                    (try rw [hji29] at A16)
                    (try rw [hji29] at A19)
                    (try rw [hji29] at A21)
                    by_cases c30 : 0 ≤ (ji29)
                    ·rw [if_pos c30] at H
                     have c30b0 := eq_true c30
                     have c30b1 : decide (0 ≤ (ji29)) = true := decide_eq_true c30
                     clear c30
                     obtain ⟨ji31, hji31⟩ : ∃ j_ : Int, (shl .i64 1 (ji29)) = j_ := ⟨_, rfl⟩
                     replace H : (spec_l7Above.l1 k2 l1 t152 (x6_2.set (t159 : Int).toNat (Go.bits .or .i64 (rd x6_2 t159) (ji31))) x7_1 (wrap64 (x8_2 + 1)) l0_0 l0_1) = some r := by first | (rw [hji31] at H; exact H) | (simp only [hji31] at H ⊢; exact H)
                     (try rw [hji31] at A16)
                     (try rw [hji31] at A19)
                     (try rw [hji31] at A21)
                     have hji31_ : (IntKind.i64.wrap (1 * 2 ^ min (ji29).toNat 64)) = ji31 := hji31
                     have hji31z : (ji29) ≤ 64 → (IntKind.i64.wrap (1 * 2 ^ (ji29).toNat)) = ji31 := shl_small hji31
                     have hji31u : (IntKind.i64.wrap (2 ^ min (ji29).toNat 64)) = ji31 := by have h_ := hji31_; rw [Int.one_mul] at h_; exact h_
                     have hji31v : (ji29) ≤ 64 → (IntKind.i64.wrap (2 ^ (ji29).toNat)) = ji31 := fun hle_ => by have h_ := hji31z hle_; rw [Int.one_mul] at h_; exact h_
                     have hji31y : (wrap64 (1 * 2 ^ min (ji29).toNat 64)) = ji31 := (i64_w _).symm.trans hji31_
                     have hji31x : (ji29) ≤ 64 → (wrap64 (1 * 2 ^ (ji29).toNat)) = ji31 := fun h_ => (i64_w _).symm.trans (hji31z h_)
                     obtain ⟨y165, hy165⟩ : ∃ y_ : List Int, y_ = (x6_2.set (t159 : Int).toNat (Go.bits .or .i64 (rd x6_2 t159) (ji31))) := ⟨_, rfl⟩
                     replace H : (spec_l7Above.l1 k2 l1 t152 y165 x7_1 (wrap64 (x8_2 + 1)) l0_0 l0_1) = some r := by first | (rw [hy165]; with_reducible exact H) | (have H2_ := (Option.bind_some _ _).symm.trans H; rw [hy165]; with_reducible exact H2_) | (have H2_ := (Option.bind_some _ _).symm.trans H; with_reducible exact H2_) | with_reducible exact H | (rw [hy165]; exact H) | exact H
                     have Ny165 := Aside0.mk hy165
                     clear hy165
                     have H' := Aside0.mk H
                     clear H
                     have hcz33_0 : wr.cell? ⟨gb151, 0, none⟩ = some (.slice A0_0 l0_0.length c0_0) := (blk_cell BK151.out 0).trans rfl
                     have hcz33_1 : wr.cell? ⟨gb151, 1, none⟩ = some (.slice A0_1 l0_1.length c0_1) := (blk_cell BK151.out 1).trans rfl
                     have hfz33_0 := blk_frozen BK151.out 0
                     have hfz33_1 := blk_frozen BK151.out 1
                     have p158 : 0 ≤ (x7_1 : Int) := od_
                     have q158 : x7_1 < (l0_0.length : Int) := od_
                     obtain ⟨ad158, e158, hx158_0, hx158_1⟩ := at_T77 HR0_0.out x7_1 p158 q158
                     cases e158
                     replace hx158_0 := lc_ HB.out hx158_0
                     replace hx158_1 := lc_ HB.out hx158_1
                     replace p158 := eq_true p158
                     replace q158 := eq_true q158
                     go_wp2_with (first | (go_at_call 52; (with_reducible refine (spec_l7Phase.calls k2 _ _ l1 ((rd_T77 l0_0 x7_1).f0) t159 _ ?side1 ?side2 A16.out).mono ?_); (case side1 => exact cz_ (Kd.C_below HR1.out HB.out)); (case side2 => exact HC1.out); rintro e w' ⟨rfl, ⟨nd, rfl⟩⟩; (try first | exact ⟨rfl, _, World.drewN_drewN _ _ _⟩ | exact ⟨rfl, _, Eq.trans (World.drewN_drewN _ _ _) (congrArg (World.drewN _) (Nat.add_assoc _ _ _))⟩); have p160 : 0 ≤ (x8_2 : Int) := od_; have q160 : x8_2 < (l0_0.length : Int) := od_; obtain ⟨ad160, e160, hx160_0, hx160_1⟩ := at_T77 HR0_0.out x8_2 p160 q160; obtain rfl : ad158 = ad160 := (by injection e160); replace hx160_0 := lc_ HB.out hx160_0; replace hx160_1 := lc_ HB.out hx160_1; replace p160 := eq_true p160; replace q160 := eq_true q160) | (go_at_call 52; (with_reducible refine (spec_l7Phase.calls k2 _ _ l1 ((rd_T77 l0_0 x8_2).f0) t161 _ ?side1 ?side2 A19.out).mono ?_); (case side1 => repeat (first | exact (Kd.C_below HR1.out (by repeat (first | (with_reducible first | exact HB.out | apply below_alloc | apply pw_below_drewN | apply below_drew1 | refine below_set ?_ GE151.out) | exact HB.out))) | (with_reducible refine Kd.C_alloc ?_ _) | (with_reducible refine Kd.C_drewN ?_ _) | (with_reducible refine Kd.C_drew ?_))); (case side2 => exact HC1.out); rintro e w' ⟨rfl, ⟨nd, rfl⟩⟩; (try first | exact ⟨rfl, _, World.drewN_drewN _ _ _⟩ | exact ⟨rfl, _, Eq.trans (World.drewN_drewN _ _ _) (congrArg (World.drewN _) (Nat.add_assoc _ _ _))⟩); have p162 : 0 ≤ (x7_1 : Int) := od_; have q162 : x7_1 < (t152.length : Int) := od_; obtain ⟨ad162, e162, hx162_0⟩ := Kd.at_int (Kd.R_reads' HO_5.out).2.2 x7_1 p162 q162; cases e162; replace p162 := eq_true p162; replace q162 := eq_true q162) | (go_at_call 57; (with_reducible refine (spec_l4Bit.calls (rd t152 x7_1) x8_2 true _ A21.out).mono ?_); rintro e w' ⟨rfl, ⟨nd, rfl⟩⟩; (try first | exact ⟨rfl, _, World.drewN_drewN _ _ _⟩ | exact ⟨rfl, _, Eq.trans (World.drewN_drewN _ _ _) (congrArg (World.drewN _) (Nat.add_assoc _ _ _))⟩); obtain ⟨Ao34, co34, eo34⟩ := Kd.R_slice HO_6.out; subst eo34; have p164 : 0 ≤ (t159 : Int) := od_; have q164 : t159 < (x6_2.length : Int) := od_; obtain ⟨ad164, e164, hx164_0⟩ := Kd.at_int (Kd.R_reads' HO_6.out).2.2 t159 p164 q164; cases e164; replace p164 := eq_true p164; replace q164 := eq_true q164; have p32 : 0 ≤ (t159 : Int) := od_; have q32 : (t159 : Int) < ((x6_2.length : Int) : Int) := od_; obtain ⟨go32, co32, eo32, gb32, gl32, cl32, HG32⟩ := Kd.R_form HO_6.out (by omega); (first | cases eo32 | (injection eo32 with ea_ en_ ec_; (first | subst ea_ | (injection ea_ with ea_; subst ea_)); subst ec_; clear en_)); have GB32 := Aside0.mk gb32; have GG32 := Aside0.mk HG32; clear gb32 gl32 HG32; (first | simp only [add_plain] at hx164_0 | skip); obtain ⟨hx32_0, hf32_0⟩ := Kd.R_celln 0 HO_6.out (t159 : Int) p32 q32; replace p32 := eq_true p32; replace q32 := eq_true q32; obtain ⟨hy35_, hz35_⟩ := Kd.R_celln 0 HO_6.out (t159 : Int) (od_) (od_); have HP35 := Kd.R_putg HO_6.out (t159 : Int) (Go.bits .or .i64 (rd x6_2 t159) (ji31))) | ((with_reducible refine gate_store (t := 3) (p := 73) rfl ?_); (try (rw [drewN_self wr]; generalize hq_ : World.drewN wr _ = wr; have n0_ := Aside0.mk (Kd.R_at hq_ HO_5.out); have n1_ := Aside0.mk (Kd.R_at hq_ HO_6.out); have n2_ := Aside0.mk (blk_at hq_ BK151.out); have n3_ := Aside0.mk (below_at hq_ HB.out); clear hq_ HO_5 HO_6 BK151 HB; have HO_5 := n0_; have HO_6 := n1_; have BK151 := n2_; have HB := n3_; clear n0_ n1_ n2_ n3_; (try (obtain ⟨hy35_, hz35_⟩ := Kd.R_celln 0 HO_6.out (t159 : Int) (od_) (od_))); (try (have HP35 := Kd.R_putg HO_6.out (t159 : Int) (Go.bits .or .i64 (rd x6_2 t159) (ji31)))))); refine store_event (t := 3) (p := 73) (v := ?vo_w36) (w1 := (wr.setCell ⟨go32, (t159 : Int).toNat, none⟩ (.int .i64 (Go.bits .or .i64 (rd x6_2 t159) (ji31))))) ?hg ?ho ?hn ?hr ?_; (case ho => rfl); (case hg => rfl); (case hn => rfl); (case hr => first | (go_simp; done) | (go_simp; rfl)); intro w36 hw; have hg : wr.grownBy w36 (some go32) := (by rw [hw]; exact HP35.2); have hp_ : Kd.R (Kd.int .i64) 3 w36 w.heap.size (fun k_ => some k_ ≠ (.slice (some ad162) t152.length co12 : Value).ownBlock) (.slice (some ⟨go32, 0, none⟩) x6_2.length co34) y165 := (by rw [hw, Ny165.out]; exact HP35.1); clear HP35; have n0_ := Aside0.mk (Kd.R_after (v := (.slice (some ⟨go32, 0, none⟩) x6_2.length co34)) (v1 := (.slice (some ⟨go32, 0, none⟩) x6_2.length co34)) (ok := (fun _ => True)) (rz_ (Kd.R_mono HO_5.out (fun _ hk => ⟨trivial, hk⟩))) hg (.inl rfl)); have n1_ := Aside0.mk (hp_); have n2_ := Aside0.mk (blk_grown (g := gb151) (o := .cells #[.slice (some ad158) l0_0.length c0_0, .slice A0_1 l0_1.length c0_1] 33 (0, 0)) (bz_ BK151.out) hg (Kd.R_ne HO_6.out BK151.out (by decide))); have n3_ := Aside0.mk ((by rw [hw]; exact below_set (HB.out) GB32.out : Below w.heap.size w w36)); clear HO_5; clear HO_6; clear BK151; clear HB; have HO_5 := n0_; have HO_6 := n1_; have BK151 := n2_; have HB := n3_; clear n0_ n1_ n2_ n3_; clear hg hw hp_))
                     repeat (go_quiet (first | (go_at_call 52; (with_reducible refine (spec_l7Phase.calls k2 _ _ l1 ((rd_T77 l0_0 x7_1).f0) t159 _ ?side1 ?side2 A16.out).mono ?_); (case side1 => exact cz_ (Kd.C_below HR1.out HB.out)); (case side2 => exact HC1.out); rintro e w' ⟨rfl, ⟨nd, rfl⟩⟩; (try first | exact ⟨rfl, _, World.drewN_drewN _ _ _⟩ | exact ⟨rfl, _, Eq.trans (World.drewN_drewN _ _ _) (congrArg (World.drewN _) (Nat.add_assoc _ _ _))⟩); have p160 : 0 ≤ (x8_2 : Int) := od_; have q160 : x8_2 < (l0_0.length : Int) := od_; obtain ⟨ad160, e160, hx160_0, hx160_1⟩ := at_T77 HR0_0.out x8_2 p160 q160; obtain rfl : ad158 = ad160 := (by injection e160); replace hx160_0 := lc_ HB.out hx160_0; replace hx160_1 := lc_ HB.out hx160_1; replace p160 := eq_true p160; replace q160 := eq_true q160) | (go_at_call 52; (with_reducible refine (spec_l7Phase.calls k2 _ _ l1 ((rd_T77 l0_0 x8_2).f0) t161 _ ?side1 ?side2 A19.out).mono ?_); (case side1 => repeat (first | exact (Kd.C_below HR1.out (by repeat (first | (with_reducible first | exact HB.out | apply below_alloc | apply pw_below_drewN | apply below_drew1 | refine below_set ?_ GE151.out) | exact HB.out))) | (with_reducible refine Kd.C_alloc ?_ _) | (with_reducible refine Kd.C_drewN ?_ _) | (with_reducible refine Kd.C_drew ?_))); (case side2 => exact HC1.out); rintro e w' ⟨rfl, ⟨nd, rfl⟩⟩; (try first | exact ⟨rfl, _, World.drewN_drewN _ _ _⟩ | exact ⟨rfl, _, Eq.trans (World.drewN_drewN _ _ _) (congrArg (World.drewN _) (Nat.add_assoc _ _ _))⟩); have p162 : 0 ≤ (x7_1 : Int) := od_; have q162 : x7_1 < (t152.length : Int) := od_; obtain ⟨ad162, e162, hx162_0⟩ := Kd.at_int (Kd.R_reads' HO_5.out).2.2 x7_1 p162 q162; cases e162; replace p162 := eq_true p162; replace q162 := eq_true q162) | (go_at_call 57; (with_reducible refine (spec_l4Bit.calls (rd t152 x7_1) x8_2 true _ A21.out).mono ?_); rintro e w' ⟨rfl, ⟨nd, rfl⟩⟩; (try first | exact ⟨rfl, _, World.drewN_drewN _ _ _⟩ | exact ⟨rfl, _, Eq.trans (World.drewN_drewN _ _ _) (congrArg (World.drewN _) (Nat.add_assoc _ _ _))⟩); obtain ⟨Ao34, co34, eo34⟩ := Kd.R_slice HO_6.out; subst eo34; have p164 : 0 ≤ (t159 : Int) := od_; have q164 : t159 < (x6_2.length : Int) := od_; obtain ⟨ad164, e164, hx164_0⟩ := Kd.at_int (Kd.R_reads' HO_6.out).2.2 t159 p164 q164; cases e164; replace p164 := eq_true p164; replace q164 := eq_true q164; have p32 : 0 ≤ (t159 : Int) := od_; have q32 : (t159 : Int) < ((x6_2.length : Int) : Int) := od_; obtain ⟨go32, co32, eo32, gb32, gl32, cl32, HG32⟩ := Kd.R_form HO_6.out (by omega); (first | cases eo32 | (injection eo32 with ea_ en_ ec_; (first | subst ea_ | (injection ea_ with ea_; subst ea_)); subst ec_; clear en_)); have GB32 := Aside0.mk gb32; have GG32 := Aside0.mk HG32; clear gb32 gl32 HG32; (first | simp only [add_plain] at hx164_0 | skip); obtain ⟨hx32_0, hf32_0⟩ := Kd.R_celln 0 HO_6.out (t159 : Int) p32 q32; replace p32 := eq_true p32; replace q32 := eq_true q32; obtain ⟨hy35_, hz35_⟩ := Kd.R_celln 0 HO_6.out (t159 : Int) (od_) (od_); have HP35 := Kd.R_putg HO_6.out (t159 : Int) (Go.bits .or .i64 (rd x6_2 t159) (ji31))) | ((with_reducible refine gate_store (t := 3) (p := 73) rfl ?_); (try (rw [drewN_self wr]; generalize hq_ : World.drewN wr _ = wr; have n0_ := Aside0.mk (Kd.R_at hq_ HO_5.out); have n1_ := Aside0.mk (Kd.R_at hq_ HO_6.out); have n2_ := Aside0.mk (blk_at hq_ BK151.out); have n3_ := Aside0.mk (below_at hq_ HB.out); clear hq_ HO_5 HO_6 BK151 HB; have HO_5 := n0_; have HO_6 := n1_; have BK151 := n2_; have HB := n3_; clear n0_ n1_ n2_ n3_; (try (obtain ⟨hy35_, hz35_⟩ := Kd.R_celln 0 HO_6.out (t159 : Int) (od_) (od_))); (try (have HP35 := Kd.R_putg HO_6.out (t159 : Int) (Go.bits .or .i64 (rd x6_2 t159) (ji31)))))); refine store_event (t := 3) (p := 73) (v := ?vo_w36) (w1 := (wr.setCell ⟨go32, (t159 : Int).toNat, none⟩ (.int .i64 (Go.bits .or .i64 (rd x6_2 t159) (ji31))))) ?hg ?ho ?hn ?hr ?_; (case ho => rfl); (case hg => rfl); (case hn => rfl); (case hr => first | (go_simp; done) | (go_simp; rfl)); intro w36 hw; have hg : wr.grownBy w36 (some go32) := (by rw [hw]; exact HP35.2); have hp_ : Kd.R (Kd.int .i64) 3 w36 w.heap.size (fun k_ => some k_ ≠ (.slice (some ad162) t152.length co12 : Value).ownBlock) (.slice (some ⟨go32, 0, none⟩) x6_2.length co34) y165 := (by rw [hw, Ny165.out]; exact HP35.1); clear HP35; have n0_ := Aside0.mk (Kd.R_after (v := (.slice (some ⟨go32, 0, none⟩) x6_2.length co34)) (v1 := (.slice (some ⟨go32, 0, none⟩) x6_2.length co34)) (ok := (fun _ => True)) (rz_ (Kd.R_mono HO_5.out (fun _ hk => ⟨trivial, hk⟩))) hg (.inl rfl)); have n1_ := Aside0.mk (hp_); have n2_ := Aside0.mk (blk_grown (g := gb151) (o := .cells #[.slice (some ad158) l0_0.length c0_0, .slice A0_1 l0_1.length c0_1] 33 (0, 0)) (bz_ BK151.out) hg (Kd.R_ne HO_6.out BK151.out (by decide))); have n3_ := Aside0.mk ((by rw [hw]; exact below_set (HB.out) GB32.out : Below w.heap.size w w36)); clear HO_5; clear HO_6; clear BK151; clear HB; have HO_5 := n0_; have HO_6 := n1_; have BK151 := n2_; have HB := n3_; clear n0_ n1_ n2_ n3_; clear hg hw hp_)); try go_wp2_with (first | (go_at_call 52; (with_reducible refine (spec_l7Phase.calls k2 _ _ l1 ((rd_T77 l0_0 x7_1).f0) t159 _ ?side1 ?side2 A16.out).mono ?_); (case side1 => exact cz_ (Kd.C_below HR1.out HB.out)); (case side2 => exact HC1.out); rintro e w' ⟨rfl, ⟨nd, rfl⟩⟩; (try first | exact ⟨rfl, _, World.drewN_drewN _ _ _⟩ | exact ⟨rfl, _, Eq.trans (World.drewN_drewN _ _ _) (congrArg (World.drewN _) (Nat.add_assoc _ _ _))⟩); have p160 : 0 ≤ (x8_2 : Int) := od_; have q160 : x8_2 < (l0_0.length : Int) := od_; obtain ⟨ad160, e160, hx160_0, hx160_1⟩ := at_T77 HR0_0.out x8_2 p160 q160; obtain rfl : ad158 = ad160 := (by injection e160); replace hx160_0 := lc_ HB.out hx160_0; replace hx160_1 := lc_ HB.out hx160_1; replace p160 := eq_true p160; replace q160 := eq_true q160) | (go_at_call 52; (with_reducible refine (spec_l7Phase.calls k2 _ _ l1 ((rd_T77 l0_0 x8_2).f0) t161 _ ?side1 ?side2 A19.out).mono ?_); (case side1 => repeat (first | exact (Kd.C_below HR1.out (by repeat (first | (with_reducible first | exact HB.out | apply below_alloc | apply pw_below_drewN | apply below_drew1 | refine below_set ?_ GE151.out) | exact HB.out))) | (with_reducible refine Kd.C_alloc ?_ _) | (with_reducible refine Kd.C_drewN ?_ _) | (with_reducible refine Kd.C_drew ?_))); (case side2 => exact HC1.out); rintro e w' ⟨rfl, ⟨nd, rfl⟩⟩; (try first | exact ⟨rfl, _, World.drewN_drewN _ _ _⟩ | exact ⟨rfl, _, Eq.trans (World.drewN_drewN _ _ _) (congrArg (World.drewN _) (Nat.add_assoc _ _ _))⟩); have p162 : 0 ≤ (x7_1 : Int) := od_; have q162 : x7_1 < (t152.length : Int) := od_; obtain ⟨ad162, e162, hx162_0⟩ := Kd.at_int (Kd.R_reads' HO_5.out).2.2 x7_1 p162 q162; cases e162; replace p162 := eq_true p162; replace q162 := eq_true q162) | (go_at_call 57; (with_reducible refine (spec_l4Bit.calls (rd t152 x7_1) x8_2 true _ A21.out).mono ?_); rintro e w' ⟨rfl, ⟨nd, rfl⟩⟩; (try first | exact ⟨rfl, _, World.drewN_drewN _ _ _⟩ | exact ⟨rfl, _, Eq.trans (World.drewN_drewN _ _ _) (congrArg (World.drewN _) (Nat.add_assoc _ _ _))⟩); obtain ⟨Ao34, co34, eo34⟩ := Kd.R_slice HO_6.out; subst eo34; have p164 : 0 ≤ (t159 : Int) := od_; have q164 : t159 < (x6_2.length : Int) := od_; obtain ⟨ad164, e164, hx164_0⟩ := Kd.at_int (Kd.R_reads' HO_6.out).2.2 t159 p164 q164; cases e164; replace p164 := eq_true p164; replace q164 := eq_true q164; have p32 : 0 ≤ (t159 : Int) := od_; have q32 : (t159 : Int) < ((x6_2.length : Int) : Int) := od_; obtain ⟨go32, co32, eo32, gb32, gl32, cl32, HG32⟩ := Kd.R_form HO_6.out (by omega); (first | cases eo32 | (injection eo32 with ea_ en_ ec_; (first | subst ea_ | (injection ea_ with ea_; subst ea_)); subst ec_; clear en_)); have GB32 := Aside0.mk gb32; have GG32 := Aside0.mk HG32; clear gb32 gl32 HG32; (first | simp only [add_plain] at hx164_0 | skip); obtain ⟨hx32_0, hf32_0⟩ := Kd.R_celln 0 HO_6.out (t159 : Int) p32 q32; replace p32 := eq_true p32; replace q32 := eq_true q32; obtain ⟨hy35_, hz35_⟩ := Kd.R_celln 0 HO_6.out (t159 : Int) (od_) (od_); have HP35 := Kd.R_putg HO_6.out (t159 : Int) (Go.bits .or .i64 (rd x6_2 t159) (ji31))) | ((with_reducible refine gate_store (t := 3) (p := 73) rfl ?_); (try (rw [drewN_self wr]; generalize hq_ : World.drewN wr _ = wr; have n0_ := Aside0.mk (Kd.R_at hq_ HO_5.out); have n1_ := Aside0.mk (Kd.R_at hq_ HO_6.out); have n2_ := Aside0.mk (blk_at hq_ BK151.out); have n3_ := Aside0.mk (below_at hq_ HB.out); clear hq_ HO_5 HO_6 BK151 HB; have HO_5 := n0_; have HO_6 := n1_; have BK151 := n2_; have HB := n3_; clear n0_ n1_ n2_ n3_; (try (obtain ⟨hy35_, hz35_⟩ := Kd.R_celln 0 HO_6.out (t159 : Int) (od_) (od_))); (try (have HP35 := Kd.R_putg HO_6.out (t159 : Int) (Go.bits .or .i64 (rd x6_2 t159) (ji31)))))); refine store_event (t := 3) (p := 73) (v := ?vo_w36) (w1 := (wr.setCell ⟨go32, (t159 : Int).toNat, none⟩ (.int .i64 (Go.bits .or .i64 (rd x6_2 t159) (ji31))))) ?hg ?ho ?hn ?hr ?_; (case ho => rfl); (case hg => rfl); (case hn => rfl); (case hr => first | (go_simp; done) | (go_simp; rfl)); intro w36 hw; have hg : wr.grownBy w36 (some go32) := (by rw [hw]; exact HP35.2); have hp_ : Kd.R (Kd.int .i64) 3 w36 w.heap.size (fun k_ => some k_ ≠ (.slice (some ad162) t152.length co12 : Value).ownBlock) (.slice (some ⟨go32, 0, none⟩) x6_2.length co34) y165 := (by rw [hw, Ny165.out]; exact HP35.1); clear HP35; have n0_ := Aside0.mk (Kd.R_after (v := (.slice (some ⟨go32, 0, none⟩) x6_2.length co34)) (v1 := (.slice (some ⟨go32, 0, none⟩) x6_2.length co34)) (ok := (fun _ => True)) (rz_ (Kd.R_mono HO_5.out (fun _ hk => ⟨trivial, hk⟩))) hg (.inl rfl)); have n1_ := Aside0.mk (hp_); have n2_ := Aside0.mk (blk_grown (g := gb151) (o := .cells #[.slice (some ad158) l0_0.length c0_0, .slice A0_1 l0_1.length c0_1] 33 (0, 0)) (bz_ BK151.out) hg (Kd.R_ne HO_6.out BK151.out (by decide))); have n3_ := Aside0.mk ((by rw [hw]; exact below_set (HB.out) GB32.out : Below w.heap.size w w36)); clear HO_5; clear HO_6; clear BK151; clear HB; have HO_5 := n0_; have HO_6 := n1_; have BK151 := n2_; have HB := n3_; clear n0_ n1_ n2_ n3_; clear hg hw hp_)))
                     go_roundg k2
                     case measure => have := HK1.out; have := HK2.out; omega
                     case rel => exact ⟨(y165), (wrap64 (x8_2 + 1)), (by first | rfl | (simp; done) | (simp [*]; done)), H', ⟨by have := HK1.out; have := HK2.out; omega⟩, ⟨rz_ (Kd.R_mono HO_5.out (fun _ hk => hk.2))⟩, ⟨rz_ HO_6.out⟩, ⟨bz_ BK151.out⟩, ⟨by repeat (first | (with_reducible first | exact HB.out | apply below_alloc | apply pw_below_drewN | apply below_drew1 | refine below_set ?_ GE151.out) | exact HB.out)⟩⟩
                    ·rw [if_neg c30] at H
                     exact absurd H (by simp)
                   ·rw [if_neg c28] at H
                    exact absurd H (by simp)
                  ·rw [if_neg c27] at H
                   exact absurd H (by simp)
                ·rw [if_neg c24] at H
                 have c24b0 : decide (0 ≤ t161) = false := decide_eq_false c24
                 clear c24
                 have H' := Aside0.mk H
                 clear H
                 have hcz37_0 : wr.cell? ⟨gb151, 0, none⟩ = some (.slice A0_0 l0_0.length c0_0) := (blk_cell BK151.out 0).trans rfl
                 have hcz37_1 : wr.cell? ⟨gb151, 1, none⟩ = some (.slice A0_1 l0_1.length c0_1) := (blk_cell BK151.out 1).trans rfl
                 have hfz37_0 := blk_frozen BK151.out 0
                 have hfz37_1 := blk_frozen BK151.out 1
                 have p158 : 0 ≤ (x7_1 : Int) := od_
                 have q158 : x7_1 < (l0_0.length : Int) := od_
                 obtain ⟨ad158, e158, hx158_0, hx158_1⟩ := at_T77 HR0_0.out x7_1 p158 q158
                 cases e158
                 replace hx158_0 := lc_ HB.out hx158_0
                 replace hx158_1 := lc_ HB.out hx158_1
                 replace p158 := eq_true p158
                 replace q158 := eq_true q158
                 go_wp2_with (first | (go_at_call 52; (with_reducible refine (spec_l7Phase.calls k2 _ _ l1 ((rd_T77 l0_0 x7_1).f0) t159 _ ?side1 ?side2 A16.out).mono ?_); (case side1 => exact cz_ (Kd.C_below HR1.out HB.out)); (case side2 => exact HC1.out); rintro e w' ⟨rfl, ⟨nd, rfl⟩⟩; (try first | exact ⟨rfl, _, World.drewN_drewN _ _ _⟩ | exact ⟨rfl, _, Eq.trans (World.drewN_drewN _ _ _) (congrArg (World.drewN _) (Nat.add_assoc _ _ _))⟩); have p160 : 0 ≤ (x8_2 : Int) := od_; have q160 : x8_2 < (l0_0.length : Int) := od_; obtain ⟨ad160, e160, hx160_0, hx160_1⟩ := at_T77 HR0_0.out x8_2 p160 q160; obtain rfl : ad158 = ad160 := (by injection e160); replace hx160_0 := lc_ HB.out hx160_0; replace hx160_1 := lc_ HB.out hx160_1; replace p160 := eq_true p160; replace q160 := eq_true q160) | (go_at_call 52; (with_reducible refine (spec_l7Phase.calls k2 _ _ l1 ((rd_T77 l0_0 x8_2).f0) t161 _ ?side1 ?side2 A19.out).mono ?_); (case side1 => repeat (first | exact (Kd.C_below HR1.out (by repeat (first | (with_reducible first | exact HB.out | apply below_alloc | apply pw_below_drewN | apply below_drew1 | refine below_set ?_ GE151.out) | exact HB.out))) | (with_reducible refine Kd.C_alloc ?_ _) | (with_reducible refine Kd.C_drewN ?_ _) | (with_reducible refine Kd.C_drew ?_))); (case side2 => exact HC1.out); rintro e w' ⟨rfl, ⟨nd, rfl⟩⟩; (try first | exact ⟨rfl, _, World.drewN_drewN _ _ _⟩ | exact ⟨rfl, _, Eq.trans (World.drewN_drewN _ _ _) (congrArg (World.drewN _) (Nat.add_assoc _ _ _))⟩); have p162 : 0 ≤ (x7_1 : Int) := od_; have q162 : x7_1 < (t152.length : Int) := od_; obtain ⟨ad162, e162, hx162_0⟩ := Kd.at_int (Kd.R_reads' HO_5.out).2.2 x7_1 p162 q162; cases e162; replace p162 := eq_true p162; replace q162 := eq_true q162) | (go_at_call 57; (with_reducible refine (spec_l4Bit.calls (rd t152 x7_1) x8_2 true _ A21.out).mono ?_); rintro e w' ⟨rfl, ⟨nd, rfl⟩⟩; (try first | exact ⟨rfl, _, World.drewN_drewN _ _ _⟩ | exact ⟨rfl, _, Eq.trans (World.drewN_drewN _ _ _) (congrArg (World.drewN _) (Nat.add_assoc _ _ _))⟩)))
                 repeat (go_quiet (first | (go_at_call 52; (with_reducible refine (spec_l7Phase.calls k2 _ _ l1 ((rd_T77 l0_0 x7_1).f0) t159 _ ?side1 ?side2 A16.out).mono ?_); (case side1 => exact cz_ (Kd.C_below HR1.out HB.out)); (case side2 => exact HC1.out); rintro e w' ⟨rfl, ⟨nd, rfl⟩⟩; (try first | exact ⟨rfl, _, World.drewN_drewN _ _ _⟩ | exact ⟨rfl, _, Eq.trans (World.drewN_drewN _ _ _) (congrArg (World.drewN _) (Nat.add_assoc _ _ _))⟩); have p160 : 0 ≤ (x8_2 : Int) := od_; have q160 : x8_2 < (l0_0.length : Int) := od_; obtain ⟨ad160, e160, hx160_0, hx160_1⟩ := at_T77 HR0_0.out x8_2 p160 q160; obtain rfl : ad158 = ad160 := (by injection e160); replace hx160_0 := lc_ HB.out hx160_0; replace hx160_1 := lc_ HB.out hx160_1; replace p160 := eq_true p160; replace q160 := eq_true q160) | (go_at_call 52; (with_reducible refine (spec_l7Phase.calls k2 _ _ l1 ((rd_T77 l0_0 x8_2).f0) t161 _ ?side1 ?side2 A19.out).mono ?_); (case side1 => repeat (first | exact (Kd.C_below HR1.out (by repeat (first | (with_reducible first | exact HB.out | apply below_alloc | apply pw_below_drewN | apply below_drew1 | refine below_set ?_ GE151.out) | exact HB.out))) | (with_reducible refine Kd.C_alloc ?_ _) | (with_reducible refine Kd.C_drewN ?_ _) | (with_reducible refine Kd.C_drew ?_))); (case side2 => exact HC1.out); rintro e w' ⟨rfl, ⟨nd, rfl⟩⟩; (try first | exact ⟨rfl, _, World.drewN_drewN _ _ _⟩ | exact ⟨rfl, _, Eq.trans (World.drewN_drewN _ _ _) (congrArg (World.drewN _) (Nat.add_assoc _ _ _))⟩); have p162 : 0 ≤ (x7_1 : Int) := od_; have q162 : x7_1 < (t152.length : Int) := od_; obtain ⟨ad162, e162, hx162_0⟩ := Kd.at_int (Kd.R_reads' HO_5.out).2.2 x7_1 p162 q162; cases e162; replace p162 := eq_true p162; replace q162 := eq_true q162) | (go_at_call 57; (with_reducible refine (spec_l4Bit.calls (rd t152 x7_1) x8_2 true _ A21.out).mono ?_); rintro e w' ⟨rfl, ⟨nd, rfl⟩⟩; (try first | exact ⟨rfl, _, World.drewN_drewN _ _ _⟩ | exact ⟨rfl, _, Eq.trans (World.drewN_drewN _ _ _) (congrArg (World.drewN _) (Nat.add_assoc _ _ _))⟩))); try go_wp2_with (first | (go_at_call 52; (with_reducible refine (spec_l7Phase.calls k2 _ _ l1 ((rd_T77 l0_0 x7_1).f0) t159 _ ?side1 ?side2 A16.out).mono ?_); (case side1 => exact cz_ (Kd.C_below HR1.out HB.out)); (case side2 => exact HC1.out); rintro e w' ⟨rfl, ⟨nd, rfl⟩⟩; (try first | exact ⟨rfl, _, World.drewN_drewN _ _ _⟩ | exact ⟨rfl, _, Eq.trans (World.drewN_drewN _ _ _) (congrArg (World.drewN _) (Nat.add_assoc _ _ _))⟩); have p160 : 0 ≤ (x8_2 : Int) := od_; have q160 : x8_2 < (l0_0.length : Int) := od_; obtain ⟨ad160, e160, hx160_0, hx160_1⟩ := at_T77 HR0_0.out x8_2 p160 q160; obtain rfl : ad158 = ad160 := (by injection e160); replace hx160_0 := lc_ HB.out hx160_0; replace hx160_1 := lc_ HB.out hx160_1; replace p160 := eq_true p160; replace q160 := eq_true q160) | (go_at_call 52; (with_reducible refine (spec_l7Phase.calls k2 _ _ l1 ((rd_T77 l0_0 x8_2).f0) t161 _ ?side1 ?side2 A19.out).mono ?_); (case side1 => repeat (first | exact (Kd.C_below HR1.out (by repeat (first | (with_reducible first | exact HB.out | apply below_alloc | apply pw_below_drewN | apply below_drew1 | refine below_set ?_ GE151.out) | exact HB.out))) | (with_reducible refine Kd.C_alloc ?_ _) | (with_reducible refine Kd.C_drewN ?_ _) | (with_reducible refine Kd.C_drew ?_))); (case side2 => exact HC1.out); rintro e w' ⟨rfl, ⟨nd, rfl⟩⟩; (try first | exact ⟨rfl, _, World.drewN_drewN _ _ _⟩ | exact ⟨rfl, _, Eq.trans (World.drewN_drewN _ _ _) (congrArg (World.drewN _) (Nat.add_assoc _ _ _))⟩); have p162 : 0 ≤ (x7_1 : Int) := od_; have q162 : x7_1 < (t152.length : Int) := od_; obtain ⟨ad162, e162, hx162_0⟩ := Kd.at_int (Kd.R_reads' HO_5.out).2.2 x7_1 p162 q162; cases e162; replace p162 := eq_true p162; replace q162 := eq_true q162) | (go_at_call 57; (with_reducible refine (spec_l4Bit.calls (rd t152 x7_1) x8_2 true _ A21.out).mono ?_); rintro e w' ⟨rfl, ⟨nd, rfl⟩⟩; (try first | exact ⟨rfl, _, World.drewN_drewN _ _ _⟩ | exact ⟨rfl, _, Eq.trans (World.drewN_drewN _ _ _) (congrArg (World.drewN _) (Nat.add_assoc _ _ _))⟩))))
                 go_roundg k2
                 case measure => have := HK1.out; have := HK2.out; omega
                 case rel => exact ⟨(x6_2), (wrap64 (x8_2 + 1)), (by first | rfl | (simp; done) | (simp [*]; done)), H', ⟨by have := HK1.out; have := HK2.out; omega⟩, ⟨rz_ HO_5.out⟩, ⟨rz_ HO_6.out⟩, ⟨bz_ BK151.out⟩, ⟨by repeat (first | (with_reducible first | exact HB.out | apply below_alloc | apply pw_below_drewN | apply below_drew1 | refine below_set ?_ GE151.out) | exact HB.out)⟩⟩
               ·rw [if_neg c23] at H
                have c23b0 : decide (0 ≤ t159) = false := decide_eq_false c23
                clear c23
                have H' := Aside0.mk H
                clear H
                have hcz38_0 : wr.cell? ⟨gb151, 0, none⟩ = some (.slice A0_0 l0_0.length c0_0) := (blk_cell BK151.out 0).trans rfl
                have hcz38_1 : wr.cell? ⟨gb151, 1, none⟩ = some (.slice A0_1 l0_1.length c0_1) := (blk_cell BK151.out 1).trans rfl
                have hfz38_0 := blk_frozen BK151.out 0
                have hfz38_1 := blk_frozen BK151.out 1
                have p158 : 0 ≤ (x7_1 : Int) := od_
                have q158 : x7_1 < (l0_0.length : Int) := od_
                obtain ⟨ad158, e158, hx158_0, hx158_1⟩ := at_T77 HR0_0.out x7_1 p158 q158
                cases e158
                replace hx158_0 := lc_ HB.out hx158_0
                replace hx158_1 := lc_ HB.out hx158_1
                replace p158 := eq_true p158
                replace q158 := eq_true q158
                go_wp2_with (first | (go_at_call 52; (with_reducible refine (spec_l7Phase.calls k2 _ _ l1 ((rd_T77 l0_0 x7_1).f0) t159 _ ?side1 ?side2 A16.out).mono ?_); (case side1 => exact cz_ (Kd.C_below HR1.out HB.out)); (case side2 => exact HC1.out); rintro e w' ⟨rfl, ⟨nd, rfl⟩⟩; (try first | exact ⟨rfl, _, World.drewN_drewN _ _ _⟩ | exact ⟨rfl, _, Eq.trans (World.drewN_drewN _ _ _) (congrArg (World.drewN _) (Nat.add_assoc _ _ _))⟩); have p160 : 0 ≤ (x8_2 : Int) := od_; have q160 : x8_2 < (l0_0.length : Int) := od_; obtain ⟨ad160, e160, hx160_0, hx160_1⟩ := at_T77 HR0_0.out x8_2 p160 q160; obtain rfl : ad158 = ad160 := (by injection e160); replace hx160_0 := lc_ HB.out hx160_0; replace hx160_1 := lc_ HB.out hx160_1; replace p160 := eq_true p160; replace q160 := eq_true q160) | (go_at_call 52; (with_reducible refine (spec_l7Phase.calls k2 _ _ l1 ((rd_T77 l0_0 x8_2).f0) t161 _ ?side1 ?side2 A19.out).mono ?_); (case side1 => repeat (first | exact (Kd.C_below HR1.out (by repeat (first | (with_reducible first | exact HB.out | apply below_alloc | apply pw_below_drewN | apply below_drew1 | refine below_set ?_ GE151.out) | exact HB.out))) | (with_reducible refine Kd.C_alloc ?_ _) | (with_reducible refine Kd.C_drewN ?_ _) | (with_reducible refine Kd.C_drew ?_))); (case side2 => exact HC1.out); rintro e w' ⟨rfl, ⟨nd, rfl⟩⟩; (try first | exact ⟨rfl, _, World.drewN_drewN _ _ _⟩ | exact ⟨rfl, _, Eq.trans (World.drewN_drewN _ _ _) (congrArg (World.drewN _) (Nat.add_assoc _ _ _))⟩); have p162 : 0 ≤ (x7_1 : Int) := od_; have q162 : x7_1 < (t152.length : Int) := od_; obtain ⟨ad162, e162, hx162_0⟩ := Kd.at_int (Kd.R_reads' HO_5.out).2.2 x7_1 p162 q162; cases e162; replace p162 := eq_true p162; replace q162 := eq_true q162) | (go_at_call 57; (with_reducible refine (spec_l4Bit.calls (rd t152 x7_1) x8_2 true _ A21.out).mono ?_); rintro e w' ⟨rfl, ⟨nd, rfl⟩⟩; (try first | exact ⟨rfl, _, World.drewN_drewN _ _ _⟩ | exact ⟨rfl, _, Eq.trans (World.drewN_drewN _ _ _) (congrArg (World.drewN _) (Nat.add_assoc _ _ _))⟩)))
                repeat (go_quiet (first | (go_at_call 52; (with_reducible refine (spec_l7Phase.calls k2 _ _ l1 ((rd_T77 l0_0 x7_1).f0) t159 _ ?side1 ?side2 A16.out).mono ?_); (case side1 => exact cz_ (Kd.C_below HR1.out HB.out)); (case side2 => exact HC1.out); rintro e w' ⟨rfl, ⟨nd, rfl⟩⟩; (try first | exact ⟨rfl, _, World.drewN_drewN _ _ _⟩ | exact ⟨rfl, _, Eq.trans (World.drewN_drewN _ _ _) (congrArg (World.drewN _) (Nat.add_assoc _ _ _))⟩); have p160 : 0 ≤ (x8_2 : Int) := od_; have q160 : x8_2 < (l0_0.length : Int) := od_; obtain ⟨ad160, e160, hx160_0, hx160_1⟩ := at_T77 HR0_0.out x8_2 p160 q160; obtain rfl : ad158 = ad160 := (by injection e160); replace hx160_0 := lc_ HB.out hx160_0; replace hx160_1 := lc_ HB.out hx160_1; replace p160 := eq_true p160; replace q160 := eq_true q160) | (go_at_call 52; (with_reducible refine (spec_l7Phase.calls k2 _ _ l1 ((rd_T77 l0_0 x8_2).f0) t161 _ ?side1 ?side2 A19.out).mono ?_); (case side1 => repeat (first | exact (Kd.C_below HR1.out (by repeat (first | (with_reducible first | exact HB.out | apply below_alloc | apply pw_below_drewN | apply below_drew1 | refine below_set ?_ GE151.out) | exact HB.out))) | (with_reducible refine Kd.C_alloc ?_ _) | (with_reducible refine Kd.C_drewN ?_ _) | (with_reducible refine Kd.C_drew ?_))); (case side2 => exact HC1.out); rintro e w' ⟨rfl, ⟨nd, rfl⟩⟩; (try first | exact ⟨rfl, _, World.drewN_drewN _ _ _⟩ | exact ⟨rfl, _, Eq.trans (World.drewN_drewN _ _ _) (congrArg (World.drewN _) (Nat.add_assoc _ _ _))⟩); have p162 : 0 ≤ (x7_1 : Int) := od_; have q162 : x7_1 < (t152.length : Int) := od_; obtain ⟨ad162, e162, hx162_0⟩ := Kd.at_int (Kd.R_reads' HO_5.out).2.2 x7_1 p162 q162; cases e162; replace p162 := eq_true p162; replace q162 := eq_true q162) | (go_at_call 57; (with_reducible refine (spec_l4Bit.calls (rd t152 x7_1) x8_2 true _ A21.out).mono ?_); rintro e w' ⟨rfl, ⟨nd, rfl⟩⟩; (try first | exact ⟨rfl, _, World.drewN_drewN _ _ _⟩ | exact ⟨rfl, _, Eq.trans (World.drewN_drewN _ _ _) (congrArg (World.drewN _) (Nat.add_assoc _ _ _))⟩))); try go_wp2_with (first | (go_at_call 52; (with_reducible refine (spec_l7Phase.calls k2 _ _ l1 ((rd_T77 l0_0 x7_1).f0) t159 _ ?side1 ?side2 A16.out).mono ?_); (case side1 => exact cz_ (Kd.C_below HR1.out HB.out)); (case side2 => exact HC1.out); rintro e w' ⟨rfl, ⟨nd, rfl⟩⟩; (try first | exact ⟨rfl, _, World.drewN_drewN _ _ _⟩ | exact ⟨rfl, _, Eq.trans (World.drewN_drewN _ _ _) (congrArg (World.drewN _) (Nat.add_assoc _ _ _))⟩); have p160 : 0 ≤ (x8_2 : Int) := od_; have q160 : x8_2 < (l0_0.length : Int) := od_; obtain ⟨ad160, e160, hx160_0, hx160_1⟩ := at_T77 HR0_0.out x8_2 p160 q160; obtain rfl : ad158 = ad160 := (by injection e160); replace hx160_0 := lc_ HB.out hx160_0; replace hx160_1 := lc_ HB.out hx160_1; replace p160 := eq_true p160; replace q160 := eq_true q160) | (go_at_call 52; (with_reducible refine (spec_l7Phase.calls k2 _ _ l1 ((rd_T77 l0_0 x8_2).f0) t161 _ ?side1 ?side2 A19.out).mono ?_); (case side1 => repeat (first | exact (Kd.C_below HR1.out (by repeat (first | (with_reducible first | exact HB.out | apply below_alloc | apply pw_below_drewN | apply below_drew1 | refine below_set ?_ GE151.out) | exact HB.out))) | (with_reducible refine Kd.C_alloc ?_ _) | (with_reducible refine Kd.C_drewN ?_ _) | (with_reducible refine Kd.C_drew ?_))); (case side2 => exact HC1.out); rintro e w' ⟨rfl, ⟨nd, rfl⟩⟩; (try first | exact ⟨rfl, _, World.drewN_drewN _ _ _⟩ | exact ⟨rfl, _, Eq.trans (World.drewN_drewN _ _ _) (congrArg (World.drewN _) (Nat.add_assoc _ _ _))⟩); have p162 : 0 ≤ (x7_1 : Int) := od_; have q162 : x7_1 < (t152.length : Int) := od_; obtain ⟨ad162, e162, hx162_0⟩ := Kd.at_int (Kd.R_reads' HO_5.out).2.2 x7_1 p162 q162; cases e162; replace p162 := eq_true p162; replace q162 := eq_true q162) | (go_at_call 57; (with_reducible refine (spec_l4Bit.calls (rd t152 x7_1) x8_2 true _ A21.out).mono ?_); rintro e w' ⟨rfl, ⟨nd, rfl⟩⟩; (try first | exact ⟨rfl, _, World.drewN_drewN _ _ _⟩ | exact ⟨rfl, _, Eq.trans (World.drewN_drewN _ _ _) (congrArg (World.drewN _) (Nat.add_assoc _ _ _))⟩))))
                go_roundg k2
                case measure => have := HK1.out; have := HK2.out; omega
                case rel => exact ⟨(x6_2), (wrap64 (x8_2 + 1)), (by first | rfl | (simp; done) | (simp [*]; done)), H', ⟨by have := HK1.out; have := HK2.out; omega⟩, ⟨rz_ HO_5.out⟩, ⟨rz_ HO_6.out⟩, ⟨bz_ BK151.out⟩, ⟨by repeat (first | (with_reducible first | exact HB.out | apply below_alloc | apply pw_below_drewN | apply below_drew1 | refine below_set ?_ GE151.out) | exact HB.out)⟩⟩
              ·replace c22 := Bool.eq_false_iff.mpr c22
               subst c22
               have H1 : (spec_l7Above.l1 k2 l1 t152 x6_2 x7_1 (wrap64 (x8_2 + 1)) l0_0 l0_1) = some r := by rw [if_neg (show ¬ (false = true) by decide)] at H; exact H
               clear H
               have H := H1
               clear H1
               have H' := Aside0.mk H
               clear H
               have hcz39_0 : wr.cell? ⟨gb151, 0, none⟩ = some (.slice A0_0 l0_0.length c0_0) := (blk_cell BK151.out 0).trans rfl
               have hcz39_1 : wr.cell? ⟨gb151, 1, none⟩ = some (.slice A0_1 l0_1.length c0_1) := (blk_cell BK151.out 1).trans rfl
               have hfz39_0 := blk_frozen BK151.out 0
               have hfz39_1 := blk_frozen BK151.out 1
               have p158 : 0 ≤ (x7_1 : Int) := od_
               have q158 : x7_1 < (l0_0.length : Int) := od_
               obtain ⟨ad158, e158, hx158_0, hx158_1⟩ := at_T77 HR0_0.out x7_1 p158 q158
               cases e158
               replace hx158_0 := lc_ HB.out hx158_0
               replace hx158_1 := lc_ HB.out hx158_1
               replace p158 := eq_true p158
               replace q158 := eq_true q158
               go_wp2_with (first | (go_at_call 52; (with_reducible refine (spec_l7Phase.calls k2 _ _ l1 ((rd_T77 l0_0 x7_1).f0) t159 _ ?side1 ?side2 A16.out).mono ?_); (case side1 => exact cz_ (Kd.C_below HR1.out HB.out)); (case side2 => exact HC1.out); rintro e w' ⟨rfl, ⟨nd, rfl⟩⟩; (try first | exact ⟨rfl, _, World.drewN_drewN _ _ _⟩ | exact ⟨rfl, _, Eq.trans (World.drewN_drewN _ _ _) (congrArg (World.drewN _) (Nat.add_assoc _ _ _))⟩); have p160 : 0 ≤ (x8_2 : Int) := od_; have q160 : x8_2 < (l0_0.length : Int) := od_; obtain ⟨ad160, e160, hx160_0, hx160_1⟩ := at_T77 HR0_0.out x8_2 p160 q160; obtain rfl : ad158 = ad160 := (by injection e160); replace hx160_0 := lc_ HB.out hx160_0; replace hx160_1 := lc_ HB.out hx160_1; replace p160 := eq_true p160; replace q160 := eq_true q160) | (go_at_call 52; (with_reducible refine (spec_l7Phase.calls k2 _ _ l1 ((rd_T77 l0_0 x8_2).f0) t161 _ ?side1 ?side2 A19.out).mono ?_); (case side1 => repeat (first | exact (Kd.C_below HR1.out (by repeat (first | (with_reducible first | exact HB.out | apply below_alloc | apply pw_below_drewN | apply below_drew1 | refine below_set ?_ GE151.out) | exact HB.out))) | (with_reducible refine Kd.C_alloc ?_ _) | (with_reducible refine Kd.C_drewN ?_ _) | (with_reducible refine Kd.C_drew ?_))); (case side2 => exact HC1.out); rintro e w' ⟨rfl, ⟨nd, rfl⟩⟩; (try first | exact ⟨rfl, _, World.drewN_drewN _ _ _⟩ | exact ⟨rfl, _, Eq.trans (World.drewN_drewN _ _ _) (congrArg (World.drewN _) (Nat.add_assoc _ _ _))⟩); have p162 : 0 ≤ (x7_1 : Int) := od_; have q162 : x7_1 < (t152.length : Int) := od_; obtain ⟨ad162, e162, hx162_0⟩ := Kd.at_int (Kd.R_reads' HO_5.out).2.2 x7_1 p162 q162; cases e162; replace p162 := eq_true p162; replace q162 := eq_true q162) | (go_at_call 57; (with_reducible refine (spec_l4Bit.calls (rd t152 x7_1) x8_2 false _ A21.out).mono ?_); rintro e w' ⟨rfl, ⟨nd, rfl⟩⟩; (try first | exact ⟨rfl, _, World.drewN_drewN _ _ _⟩ | exact ⟨rfl, _, Eq.trans (World.drewN_drewN _ _ _) (congrArg (World.drewN _) (Nat.add_assoc _ _ _))⟩)))
               repeat (go_quiet (first | (go_at_call 52; (with_reducible refine (spec_l7Phase.calls k2 _ _ l1 ((rd_T77 l0_0 x7_1).f0) t159 _ ?side1 ?side2 A16.out).mono ?_); (case side1 => exact cz_ (Kd.C_below HR1.out HB.out)); (case side2 => exact HC1.out); rintro e w' ⟨rfl, ⟨nd, rfl⟩⟩; (try first | exact ⟨rfl, _, World.drewN_drewN _ _ _⟩ | exact ⟨rfl, _, Eq.trans (World.drewN_drewN _ _ _) (congrArg (World.drewN _) (Nat.add_assoc _ _ _))⟩); have p160 : 0 ≤ (x8_2 : Int) := od_; have q160 : x8_2 < (l0_0.length : Int) := od_; obtain ⟨ad160, e160, hx160_0, hx160_1⟩ := at_T77 HR0_0.out x8_2 p160 q160; obtain rfl : ad158 = ad160 := (by injection e160); replace hx160_0 := lc_ HB.out hx160_0; replace hx160_1 := lc_ HB.out hx160_1; replace p160 := eq_true p160; replace q160 := eq_true q160) | (go_at_call 52; (with_reducible refine (spec_l7Phase.calls k2 _ _ l1 ((rd_T77 l0_0 x8_2).f0) t161 _ ?side1 ?side2 A19.out).mono ?_); (case side1 => repeat (first | exact (Kd.C_below HR1.out (by repeat (first | (with_reducible first | exact HB.out | apply below_alloc | apply pw_below_drewN | apply below_drew1 | refine below_set ?_ GE151.out) | exact HB.out))) | (with_reducible refine Kd.C_alloc ?_ _) | (with_reducible refine Kd.C_drewN ?_ _) | (with_reducible refine Kd.C_drew ?_))); (case side2 => exact HC1.out); rintro e w' ⟨rfl, ⟨nd, rfl⟩⟩; (try first | exact ⟨rfl, _, World.drewN_drewN _ _ _⟩ | exact ⟨rfl, _, Eq.trans (World.drewN_drewN _ _ _) (congrArg (World.drewN _) (Nat.add_assoc _ _ _))⟩); have p162 : 0 ≤ (x7_1 : Int) := od_; have q162 : x7_1 < (t152.length : Int) := od_; obtain ⟨ad162, e162, hx162_0⟩ := Kd.at_int (Kd.R_reads' HO_5.out).2.2 x7_1 p162 q162; cases e162; replace p162 := eq_true p162; replace q162 := eq_true q162) | (go_at_call 57; (with_reducible refine (spec_l4Bit.calls (rd t152 x7_1) x8_2 false _ A21.out).mono ?_); rintro e w' ⟨rfl, ⟨nd, rfl⟩⟩; (try first | exact ⟨rfl, _, World.drewN_drewN _ _ _⟩ | exact ⟨rfl, _, Eq.trans (World.drewN_drewN _ _ _) (congrArg (World.drewN _) (Nat.add_assoc _ _ _))⟩))); try go_wp2_with (first | (go_at_call 52; (with_reducible refine (spec_l7Phase.calls k2 _ _ l1 ((rd_T77 l0_0 x7_1).f0) t159 _ ?side1 ?side2 A16.out).mono ?_); (case side1 => exact cz_ (Kd.C_below HR1.out HB.out)); (case side2 => exact HC1.out); rintro e w' ⟨rfl, ⟨nd, rfl⟩⟩; (try first | exact ⟨rfl, _, World.drewN_drewN _ _ _⟩ | exact ⟨rfl, _, Eq.trans (World.drewN_drewN _ _ _) (congrArg (World.drewN _) (Nat.add_assoc _ _ _))⟩); have p160 : 0 ≤ (x8_2 : Int) := od_; have q160 : x8_2 < (l0_0.length : Int) := od_; obtain ⟨ad160, e160, hx160_0, hx160_1⟩ := at_T77 HR0_0.out x8_2 p160 q160; obtain rfl : ad158 = ad160 := (by injection e160); replace hx160_0 := lc_ HB.out hx160_0; replace hx160_1 := lc_ HB.out hx160_1; replace p160 := eq_true p160; replace q160 := eq_true q160) | (go_at_call 52; (with_reducible refine (spec_l7Phase.calls k2 _ _ l1 ((rd_T77 l0_0 x8_2).f0) t161 _ ?side1 ?side2 A19.out).mono ?_); (case side1 => repeat (first | exact (Kd.C_below HR1.out (by repeat (first | (with_reducible first | exact HB.out | apply below_alloc | apply pw_below_drewN | apply below_drew1 | refine below_set ?_ GE151.out) | exact HB.out))) | (with_reducible refine Kd.C_alloc ?_ _) | (with_reducible refine Kd.C_drewN ?_ _) | (with_reducible refine Kd.C_drew ?_))); (case side2 => exact HC1.out); rintro e w' ⟨rfl, ⟨nd, rfl⟩⟩; (try first | exact ⟨rfl, _, World.drewN_drewN _ _ _⟩ | exact ⟨rfl, _, Eq.trans (World.drewN_drewN _ _ _) (congrArg (World.drewN _) (Nat.add_assoc _ _ _))⟩); have p162 : 0 ≤ (x7_1 : Int) := od_; have q162 : x7_1 < (t152.length : Int) := od_; obtain ⟨ad162, e162, hx162_0⟩ := Kd.at_int (Kd.R_reads' HO_5.out).2.2 x7_1 p162 q162; cases e162; replace p162 := eq_true p162; replace q162 := eq_true q162) | (go_at_call 57; (with_reducible refine (spec_l4Bit.calls (rd t152 x7_1) x8_2 false _ A21.out).mono ?_); rintro e w' ⟨rfl, ⟨nd, rfl⟩⟩; (try first | exact ⟨rfl, _, World.drewN_drewN _ _ _⟩ | exact ⟨rfl, _, Eq.trans (World.drewN_drewN _ _ _) (congrArg (World.drewN _) (Nat.add_assoc _ _ _))⟩))))
               go_roundg k2
               case measure => have := HK1.out; have := HK2.out; omega
               case rel => exact ⟨(x6_2), (wrap64 (x8_2 + 1)), (by first | rfl | (simp; done) | (simp [*]; done)), H', ⟨by have := HK1.out; have := HK2.out; omega⟩, ⟨rz_ HO_5.out⟩, ⟨rz_ HO_6.out⟩, ⟨bz_ BK151.out⟩, ⟨by repeat (first | (with_reducible first | exact HB.out | apply below_alloc | apply pw_below_drewN | apply below_drew1 | refine below_set ?_ GE151.out) | exact HB.out)⟩⟩
             ·rw [if_neg c20] at H
              exact absurd H (by simp)
            ·rw [if_neg c18] at H
             exact absurd H (by simp)
           ·rw [if_neg c17] at H
            exact absurd H (by simp)
          ·rw [if_neg c15] at H
           exact absurd H (by simp)
         ·rw [if_neg c14] at H
          exact absurd H (by simp)
        ·rw [if_neg c13] at H
         have c13b0 : decide (x8_2 < (t152.length : Int)) = false := decide_eq_false c13
         clear c13
         have H' := Aside0.mk H
         clear H
         go_wp2
         repeat (go_quiet (fail); try go_wp2)
         go_roundg k2
         case measure => have := HK1.out; have := HK2.out; omega
         case rel => exact ⟨(x6_2), (wrap64 (x7_1 + 1)), (by first | rfl | (simp; done) | (simp [*]; done)), H', ⟨by have := HK1.out; have := HK2.out; omega⟩, ⟨rz_ HO_5.out⟩, ⟨rz_ HO_6.out⟩, ⟨bz_ BK151.out⟩, ⟨by repeat (first | (with_reducible first | exact HB.out | apply below_alloc | apply pw_below_drewN | apply below_drew1 | refine below_set ?_ GE151.out) | exact HB.out)⟩⟩
     ·rw [if_neg c11] at H
      have c11b0 : decide (x7_1 < (t152.length : Int)) = false := decide_eq_false c11
      clear c11
      obtain rfl := Option.some.inj H
      obtain ⟨Ao40, co40, eo40⟩ := Kd.R_slice HO_5.out
      subst eo40
      go_wp2
      repeat (go_quiet (fail); try go_wp2)
      go_ret
      exact ⟨_, by first | rfl | (simp [errW_none, errW_some] <;> rfl) | (simp [*, errW_none, errW_some] <;> rfl), rz_ (Kd.R_mono HO_6.out (fun _ hk => trivial)), by repeat (first | (with_reducible first | exact HB.out | apply below_alloc | apply pw_below_drewN | apply below_drew1 | refine below_set ?_ GE151.out) | exact HB.out)⟩
  ·rw [if_neg c5] at H
   exact absurd H (by simp)
 ·rw [if_neg c4] at H
  exact absurd H (by simp)

end Go.Proofs.Ytenphfagdpkjaaa.Q

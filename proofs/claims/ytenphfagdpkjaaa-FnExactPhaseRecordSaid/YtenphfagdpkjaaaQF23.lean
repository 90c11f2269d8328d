-- Written by a program of this session (wip/xprint.py over the kit's printer).
import Derived.Test.YtenphfagdpkjaaaQ0
import Derived.Test.YtenphfagdpkjaaaQF43
import Derived.Test.YtenphfagdpkjaaaQF56
import Derived.Test.YtenphfagdpkjaaaQF57
import Derived.Test.YtenphfagdpkjaaaQV2
namespace Go.Proofs.Ytenphfagdpkjaaa.Q
open Go.RowKit Go.Proofs.YtenphfagdpkjaaaW.PrintWords Go.Proofs.YtenphfagdpkjaaaW.PrintLast
set_option linter.unusedVariables false
set_option linter.unusedSimpArgs false

/-! ### spec_FirstUnsound: function 23 -/
mutual
def spec_FirstUnsound.l0 : Nat → List (S64) → List Int → Int → List (S77) → List (S91) → Option (Int × Int × Bool × Bool)
 | 0, _, _, _, _, _ => none
 | k + 1, x1, x8, x9, x152000, x152001 => if x9 < (x8.length : Int) then (spec_FirstUnsound.l1 k x1 x8 x9 0 x152000 x152001) else (some (0, 0, false, true))
def spec_FirstUnsound.l1 : Nat → List (S64) → List Int → Int → Int → List (S77) → List (S91) → Option (Int × Int × Bool × Bool)
 | 0, _, _, _, _, _, _ => none
 | k + 1, x1, x8, x9, x10, x152000, x152001 => if x10 < (x8.length : Int) then (if 0 ≤ x9 then (if x9 < (x152000.length : Int) then ((spec_l7Phase.f k x1 ((rd_T77 x152000 x9).f0)).bind fun t157 => (if 0 ≤ x10 then (if x10 < (x152000.length : Int) then ((spec_l7Phase.f k x1 ((rd_T77 x152000 x10).f0)).bind fun t159 => (if x9 < (x8.length : Int) then ((spec_l4Bit.f (rd x8 x9) x10).bind fun t161 => (if t161 = true then (if t159 ≥ 0 then (if t159 < t157 then (some ((rd_T77 x152000 x9).f0, (rd_T77 x152000 x10).f0, true, true)) else (spec_FirstUnsound.l1 k x1 x8 x9 (wrap64 (x10 + 1)) x152000 x152001)) else (spec_FirstUnsound.l1 k x1 x8 x9 (wrap64 (x10 + 1)) x152000 x152001)) else (spec_FirstUnsound.l1 k x1 x8 x9 (wrap64 (x10 + 1)) x152000 x152001))) else (none))) else (none)) else (none))) else (none)) else (none)) else (spec_FirstUnsound.l0 k x1 x8 (wrap64 (x9 + 1)) x152000 x152001)
end
def spec_FirstUnsound.f (k : Nat) (l0_0 : List (S77)) (l0_1 : List (S91)) (l1 : List (S64)) : Option (Int × Int × Bool × Bool) := (spec_l7Good.f k l0_0 l0_1 l1).bind fun t152 => (if t152 = true then ((spec_l4Later.f k l0_0 l0_1).bind fun t153 => (spec_FirstUnsound.l0 k l1 t153 0 l0_0 l0_1)) else (some (0, 0, false, false)))
theorem spec_FirstUnsound.mono_l : ∀ k, (∀ y0 y1 y2 y3 y4, LeO (spec_FirstUnsound.l0 k y0 y1 y2 y3 y4) (spec_FirstUnsound.l0 (k + 1) y0 y1 y2 y3 y4)) ∧ (∀ y0 y1 y2 y3 y4 y5, LeO (spec_FirstUnsound.l1 k y0 y1 y2 y3 y4 y5) (spec_FirstUnsound.l1 (k + 1) y0 y1 y2 y3 y4 y5))
 | 0 => ⟨fun _ _ _ _ _ r h => by simp [spec_FirstUnsound.l0] at h, fun _ _ _ _ _ _ r h => by simp [spec_FirstUnsound.l1] at h⟩
 | k + 1 => by
  obtain ⟨ih0, ih1⟩ := spec_FirstUnsound.mono_l k
  refine ⟨?_, ?_⟩
  ·intro y0 y1 y2 y3 y4
   unfold spec_FirstUnsound.l0
   repeat' first
   | (with_reducible exact ih0 _ _ _ _ _)
   | (with_reducible exact ih1 _ _ _ _ _ _)
   | (with_reducible exact spec_l4Later.mono _ _ _)
   | (with_reducible exact spec_l7Good.mono _ _ _ _)
   | (with_reducible exact spec_l7Phase.mono _ _ _)
   | (with_reducible exact LeO.refl _)
   | (with_reducible exact LeO.none _)
   | (with_reducible refine LeO.ite ?_ ?_)
   | (with_reducible refine LeO.bind ?_ (fun _ => ?_))
   | exact ih0 _ _ _ _ _
   | exact ih1 _ _ _ _ _ _
   | exact spec_l4Later.mono _ _ _
   | exact spec_l7Good.mono _ _ _ _
   | exact spec_l7Phase.mono _ _ _
   | exact LeO.none _
   | refine LeO.ite ?_ ?_
   | refine LeO.bind ?_ (fun _ => ?_)
  ·intro y0 y1 y2 y3 y4 y5
   unfold spec_FirstUnsound.l1
   repeat' first
   | (with_reducible exact ih0 _ _ _ _ _)
   | (with_reducible exact ih1 _ _ _ _ _ _)
   | (with_reducible exact spec_l4Later.mono _ _ _)
   | (with_reducible exact spec_l7Good.mono _ _ _ _)
   | (with_reducible exact spec_l7Phase.mono _ _ _)
   | (with_reducible exact LeO.refl _)
   | (with_reducible exact LeO.none _)
   | (with_reducible refine LeO.ite ?_ ?_)
   | (with_reducible refine LeO.bind ?_ (fun _ => ?_))
   | exact ih0 _ _ _ _ _
   | exact ih1 _ _ _ _ _ _
   | exact spec_l4Later.mono _ _ _
   | exact spec_l7Good.mono _ _ _ _
   | exact spec_l7Phase.mono _ _ _
   | exact LeO.none _
   | refine LeO.ite ?_ ?_
   | refine LeO.bind ?_ (fun _ => ?_)
theorem spec_FirstUnsound.mono : ∀ a0 a1 a2 k, LeO (spec_FirstUnsound.f k a0 a1 a2) (spec_FirstUnsound.f (k + 1) a0 a1 a2) := by
 intro a0 a1 a2 k
 obtain ⟨ih0, ih1⟩ := spec_FirstUnsound.mono_l k
 unfold spec_FirstUnsound.f
 repeat' first
   | (with_reducible exact ih0 _ _ _ _ _)
   | (with_reducible exact ih1 _ _ _ _ _ _)
   | (with_reducible exact spec_l4Later.mono _ _ _)
   | (with_reducible exact spec_l7Good.mono _ _ _ _)
   | (with_reducible exact spec_l7Phase.mono _ _ _)
   | (with_reducible exact LeO.refl _)
   | (with_reducible exact LeO.none _)
   | (with_reducible refine LeO.ite ?_ ?_)
   | (with_reducible refine LeO.bind ?_ (fun _ => ?_))
   | exact ih0 _ _ _ _ _
   | exact ih1 _ _ _ _ _ _
   | exact spec_l4Later.mono _ _ _
   | exact spec_l7Good.mono _ _ _ _
   | exact spec_l7Phase.mono _ _ _
   | exact LeO.none _
   | refine LeO.ite ?_ ?_
   | refine LeO.bind ?_ (fun _ => ?_)
set_option maxHeartbeats 8000000 in
set_option maxRecDepth 100000 in
theorem spec_FirstUnsound.calls (k : Nat) (A0_0 : Option Addr) (c0_0 : Nat) (l0_0 : List (S77)) (A0_1 : Option Addr) (c0_1 : Nat) (l0_1 : List (S91)) (A1 : Option Addr) (c1 : Nat) (l1 : List (S64)) (r1 : Int) (r2 : Int) (r3 : Bool) (r4 : Bool) (w : World) (hr0_0 : Kd.C k77 w A0_0 l0_0.length l0_0) (hc0_0 : l0_0.length ≤ c0_0) (hr0_1 : Kd.C k91 w A0_1 l0_1.length l0_1) (hc0_1 : l0_1.length ≤ c0_1) (hr1 : Kd.C k64 w A1 l1.length l1) (hc1 : l1.length ≤ c1) (h : spec_FirstUnsound.f k l0_0 l0_1 l1 = some (r1, r2, r3, r4)) :
  Calls Try.prog 23 #[.agg #[.slice A0_0 l0_0.length c0_0, .slice A0_1 l0_1.length c0_1], .slice A1 l1.length c1] w fun e w' => e = .returned (.tuple #[.int .i64 r1, .int .i64 r2, .bool r3, .bool r4]) ∧ Below w.heap.size w w' := by
 have hu33 := Try.underlying33
 have HR0_0 := Aside0.mk hr0_0
 have HC0_0 := Aside0.mk hc0_0
 clear hr0_0 hc0_0
 have HR0_1 := Aside0.mk hr0_1
 have HC0_1 := Aside0.mk hc0_1
 clear hr0_1 hc0_1
 have HR1 := Aside0.mk hr1
 have HC1 := Aside0.mk hc1
 clear hr1 hc1
 have HB := Aside0.mk (Below.refl w.heap.size w)
 have H : ((spec_l7Good.f k l0_0 l0_1 l1).bind fun t152 => (if t152 = true then ((spec_l4Later.f k l0_0 l0_1).bind fun t153 => (spec_FirstUnsound.l0 k l1 t153 0 l0_0 l0_1)) else (some (0, 0, false, false)))) = some (r1, r2, r3, r4) := h
 clear h
 replace H := Option.bind_eq_some_iff.mp H
 obtain ⟨t152, A30, H⟩ := H
 replace H : (if t152 = true then ((spec_l4Later.f k l0_0 l0_1).bind fun t153 => (spec_FirstUnsound.l0 k l1 t153 0 l0_0 l0_1)) else (some (0, 0, false, false))) = some (r1, r2, r3, r4) := H
 have A3 := Aside0.mk A30
 clear A30
 by_cases c4 : t152 = true
 ·subst c4
  have H1 : ((spec_l4Later.f k l0_0 l0_1).bind fun t153 => (spec_FirstUnsound.l0 k l1 t153 0 l0_0 l0_1)) = some (r1, r2, r3, r4) := by rw [if_pos rfl] at H; exact H
  clear H
  have H := H1
  clear H1
  replace H := Option.bind_eq_some_iff.mp H
  obtain ⟨t153, A50, H⟩ := H
  replace H : (spec_FirstUnsound.l0 k l1 t153 0 l0_0 l0_1) = some (r1, r2, r3, r4) := H
  have A5 := Aside0.mk A50
  clear A50
  have H' := Aside0.mk H
  clear H
  go_enter Try.func23, Try.ntmps23
  go_wp2_with (first | ((with_reducible refine gate_dst (N := 2) rfl ?_); refine box_event ?hg (N := 2) ?hd (cs := #[.slice A0_0 l0_0.length c0_0, .slice A0_1 l0_1.length c0_1]) (t := 33) ?hr ?_; (case hd => rfl); (case hg => rfl); (case hr => first | (go_simp; done) | (go_simp; rfl)); intro gb151 hg w6 hbox hb; have n0_ := Aside0.mk (below_step (wz_ HB.out) hb); have n1_ := Aside0.mk (hbox); have n2_ := Aside0.mk ((by rw [hg]; exact (below_size (wz_ HB.out)) : w.heap.size ≤ gb151)); have n3_ := Aside0.mk ((by rw [hg]; exact (below_size (wz_ HB.out)) : w.heap.size ≤ gb151)); clear HB; have HB := n0_; have BK151 := n1_; have GW151 := n2_; have GE151 := n3_; clear n0_ n1_ n2_ n3_; clear hb hbox hg; have hcz7_0 : w6.cell? ⟨gb151, 0, none⟩ = some (.slice A0_0 l0_0.length c0_0) := (blk_cell BK151.out 0).trans rfl; have hcz7_1 : w6.cell? ⟨gb151, 1, none⟩ = some (.slice A0_1 l0_1.length c0_1) := (blk_cell BK151.out 1).trans rfl; have hfz7_0 := blk_frozen BK151.out 0; have hfz7_1 := blk_frozen BK151.out 1) | (go_at_call 43; (with_reducible refine (spec_l7Good.calls k _ _ l0_0 _ _ l0_1 _ _ l1 true _ ?side1 ?side2 ?side3 ?side4 ?side5 ?side6 A3.out).mono ?_); (case side1 => exact cz_ (Kd.C_below HR0_0.out HB.out)); (case side2 => exact HC0_0.out); (case side3 => exact cz_ (Kd.C_below HR0_1.out HB.out)); (case side4 => exact HC0_1.out); (case side5 => exact cz_ (Kd.C_below HR1.out HB.out)); (case side6 => exact HC1.out); rintro e w8 ⟨rfl, hb⟩; have n0_ := Aside0.mk (blk_below (bz_ BK151.out) hb); have n1_ := Aside0.mk (below_step (by repeat (first | (with_reducible first | exact HB.out | apply below_alloc | apply pw_below_drewN | apply below_drew1 | refine below_set ?_ GE151.out) | exact HB.out)) hb); clear BK151; clear HB; have BK151 := n0_; have HB := n1_; clear n0_ n1_; (try clear hb); (try clear hb2); (try clear hk); (try clear hi); have hcz9_0 : w8.cell? ⟨gb151, 0, none⟩ = some (.slice A0_0 l0_0.length c0_0) := (blk_cell BK151.out 0).trans rfl; have hcz9_1 : w8.cell? ⟨gb151, 1, none⟩ = some (.slice A0_1 l0_1.length c0_1) := (blk_cell BK151.out 1).trans rfl; have hfz9_0 := blk_frozen BK151.out 0; have hfz9_1 := blk_frozen BK151.out 1) | (go_at_call 56; (with_reducible refine (spec_l4Later.calls k _ _ l0_0 _ _ l0_1 t153 _ ?side1 ?side2 ?side3 ?side4 A5.out).mono ?_); (case side1 => exact cz_ (Kd.C_below HR0_0.out HB.out)); (case side2 => exact HC0_0.out); (case side3 => exact cz_ (Kd.C_below HR0_1.out HB.out)); (case side4 => exact HC0_1.out); rintro e w10 ⟨v154, rfl, ho0, hb⟩; have n0_ := Aside0.mk (Kd.R_lower ho0 (below_size (by repeat (first | (with_reducible first | exact HB.out | apply below_alloc | apply pw_below_drewN | apply below_drew1 | refine below_set ?_ GE151.out) | exact HB.out)))); have n1_ := Aside0.mk (blk_below (bz_ BK151.out) hb); have n2_ := Aside0.mk (below_step (by repeat (first | (with_reducible first | exact HB.out | apply below_alloc | apply pw_below_drewN | apply below_drew1 | refine below_set ?_ GE151.out) | exact HB.out)) hb); clear BK151; clear HB; have HO155 := n0_; have BK151 := n1_; have HB := n2_; clear n0_ n1_ n2_; (try clear hb); (try clear hb2); (try clear hk); (try clear hi); (try clear ho0)))
  repeat (go_quiet (first | ((with_reducible refine gate_dst (N := 2) rfl ?_); refine box_event ?hg (N := 2) ?hd (cs := #[.slice A0_0 l0_0.length c0_0, .slice A0_1 l0_1.length c0_1]) (t := 33) ?hr ?_; (case hd => rfl); (case hg => rfl); (case hr => first | (go_simp; done) | (go_simp; rfl)); intro gb151 hg w6 hbox hb; have n0_ := Aside0.mk (below_step (wz_ HB.out) hb); have n1_ := Aside0.mk (hbox); have n2_ := Aside0.mk ((by rw [hg]; exact (below_size (wz_ HB.out)) : w.heap.size ≤ gb151)); have n3_ := Aside0.mk ((by rw [hg]; exact (below_size (wz_ HB.out)) : w.heap.size ≤ gb151)); clear HB; have HB := n0_; have BK151 := n1_; have GW151 := n2_; have GE151 := n3_; clear n0_ n1_ n2_ n3_; clear hb hbox hg; have hcz7_0 : w6.cell? ⟨gb151, 0, none⟩ = some (.slice A0_0 l0_0.length c0_0) := (blk_cell BK151.out 0).trans rfl; have hcz7_1 : w6.cell? ⟨gb151, 1, none⟩ = some (.slice A0_1 l0_1.length c0_1) := (blk_cell BK151.out 1).trans rfl; have hfz7_0 := blk_frozen BK151.out 0; have hfz7_1 := blk_frozen BK151.out 1) | (go_at_call 43; (with_reducible refine (spec_l7Good.calls k _ _ l0_0 _ _ l0_1 _ _ l1 true _ ?side1 ?side2 ?side3 ?side4 ?side5 ?side6 A3.out).mono ?_); (case side1 => exact cz_ (Kd.C_below HR0_0.out HB.out)); (case side2 => exact HC0_0.out); (case side3 => exact cz_ (Kd.C_below HR0_1.out HB.out)); (case side4 => exact HC0_1.out); (case side5 => exact cz_ (Kd.C_below HR1.out HB.out)); (case side6 => exact HC1.out); rintro e w8 ⟨rfl, hb⟩; have n0_ := Aside0.mk (blk_below (bz_ BK151.out) hb); have n1_ := Aside0.mk (below_step (by repeat (first | (with_reducible first | exact HB.out | apply below_alloc | apply pw_below_drewN | apply below_drew1 | refine below_set ?_ GE151.out) | exact HB.out)) hb); clear BK151; clear HB; have BK151 := n0_; have HB := n1_; clear n0_ n1_; (try clear hb); (try clear hb2); (try clear hk); (try clear hi); have hcz9_0 : w8.cell? ⟨gb151, 0, none⟩ = some (.slice A0_0 l0_0.length c0_0) := (blk_cell BK151.out 0).trans rfl; have hcz9_1 : w8.cell? ⟨gb151, 1, none⟩ = some (.slice A0_1 l0_1.length c0_1) := (blk_cell BK151.out 1).trans rfl; have hfz9_0 := blk_frozen BK151.out 0; have hfz9_1 := blk_frozen BK151.out 1) | (go_at_call 56; (with_reducible refine (spec_l4Later.calls k _ _ l0_0 _ _ l0_1 t153 _ ?side1 ?side2 ?side3 ?side4 A5.out).mono ?_); (case side1 => exact cz_ (Kd.C_below HR0_0.out HB.out)); (case side2 => exact HC0_0.out); (case side3 => exact cz_ (Kd.C_below HR0_1.out HB.out)); (case side4 => exact HC0_1.out); rintro e w10 ⟨v154, rfl, ho0, hb⟩; have n0_ := Aside0.mk (Kd.R_lower ho0 (below_size (by repeat (first | (with_reducible first | exact HB.out | apply below_alloc | apply pw_below_drewN | apply below_drew1 | refine below_set ?_ GE151.out) | exact HB.out)))); have n1_ := Aside0.mk (blk_below (bz_ BK151.out) hb); have n2_ := Aside0.mk (below_step (by repeat (first | (with_reducible first | exact HB.out | apply below_alloc | apply pw_below_drewN | apply below_drew1 | refine below_set ?_ GE151.out) | exact HB.out)) hb); clear BK151; clear HB; have HO155 := n0_; have BK151 := n1_; have HB := n2_; clear n0_ n1_ n2_; (try clear hb); (try clear hb2); (try clear hk); (try clear hi); (try clear ho0))); try go_wp2_with (first | ((with_reducible refine gate_dst (N := 2) rfl ?_); refine box_event ?hg (N := 2) ?hd (cs := #[.slice A0_0 l0_0.length c0_0, .slice A0_1 l0_1.length c0_1]) (t := 33) ?hr ?_; (case hd => rfl); (case hg => rfl); (case hr => first | (go_simp; done) | (go_simp; rfl)); intro gb151 hg w6 hbox hb; have n0_ := Aside0.mk (below_step (wz_ HB.out) hb); have n1_ := Aside0.mk (hbox); have n2_ := Aside0.mk ((by rw [hg]; exact (below_size (wz_ HB.out)) : w.heap.size ≤ gb151)); have n3_ := Aside0.mk ((by rw [hg]; exact (below_size (wz_ HB.out)) : w.heap.size ≤ gb151)); clear HB; have HB := n0_; have BK151 := n1_; have GW151 := n2_; have GE151 := n3_; clear n0_ n1_ n2_ n3_; clear hb hbox hg; have hcz7_0 : w6.cell? ⟨gb151, 0, none⟩ = some (.slice A0_0 l0_0.length c0_0) := (blk_cell BK151.out 0).trans rfl; have hcz7_1 : w6.cell? ⟨gb151, 1, none⟩ = some (.slice A0_1 l0_1.length c0_1) := (blk_cell BK151.out 1).trans rfl; have hfz7_0 := blk_frozen BK151.out 0; have hfz7_1 := blk_frozen BK151.out 1) | (go_at_call 43; (with_reducible refine (spec_l7Good.calls k _ _ l0_0 _ _ l0_1 _ _ l1 true _ ?side1 ?side2 ?side3 ?side4 ?side5 ?side6 A3.out).mono ?_); (case side1 => exact cz_ (Kd.C_below HR0_0.out HB.out)); (case side2 => exact HC0_0.out); (case side3 => exact cz_ (Kd.C_below HR0_1.out HB.out)); (case side4 => exact HC0_1.out); (case side5 => exact cz_ (Kd.C_below HR1.out HB.out)); (case side6 => exact HC1.out); rintro e w8 ⟨rfl, hb⟩; have n0_ := Aside0.mk (blk_below (bz_ BK151.out) hb); have n1_ := Aside0.mk (below_step (by repeat (first | (with_reducible first | exact HB.out | apply below_alloc | apply pw_below_drewN | apply below_drew1 | refine below_set ?_ GE151.out) | exact HB.out)) hb); clear BK151; clear HB; have BK151 := n0_; have HB := n1_; clear n0_ n1_; (try clear hb); (try clear hb2); (try clear hk); (try clear hi); have hcz9_0 : w8.cell? ⟨gb151, 0, none⟩ = some (.slice A0_0 l0_0.length c0_0) := (blk_cell BK151.out 0).trans rfl; have hcz9_1 : w8.cell? ⟨gb151, 1, none⟩ = some (.slice A0_1 l0_1.length c0_1) := (blk_cell BK151.out 1).trans rfl; have hfz9_0 := blk_frozen BK151.out 0; have hfz9_1 := blk_frozen BK151.out 1) | (go_at_call 56; (with_reducible refine (spec_l4Later.calls k _ _ l0_0 _ _ l0_1 t153 _ ?side1 ?side2 ?side3 ?side4 A5.out).mono ?_); (case side1 => exact cz_ (Kd.C_below HR0_0.out HB.out)); (case side2 => exact HC0_0.out); (case side3 => exact cz_ (Kd.C_below HR0_1.out HB.out)); (case side4 => exact HC0_1.out); rintro e w10 ⟨v154, rfl, ho0, hb⟩; have n0_ := Aside0.mk (Kd.R_lower ho0 (below_size (by repeat (first | (with_reducible first | exact HB.out | apply below_alloc | apply pw_below_drewN | apply below_drew1 | refine below_set ?_ GE151.out) | exact HB.out)))); have n1_ := Aside0.mk (blk_below (bz_ BK151.out) hb); have n2_ := Aside0.mk (below_step (by repeat (first | (with_reducible first | exact HB.out | apply below_alloc | apply pw_below_drewN | apply below_drew1 | refine below_set ?_ GE151.out) | exact HB.out)) hb); clear BK151; clear HB; have HO155 := n0_; have BK151 := n1_; have HB := n2_; clear n0_ n1_ n2_; (try clear hb); (try clear hb2); (try clear hk); (try clear hi); (try clear ho0))))
  go_loopg [9] k (fun kq v9 w' => ∃ (x9_1 : Int), v9 = .int .i64 x9_1 ∧ Aside0 (spec_FirstUnsound.l0 kq l1 t153 x9_1 l0_0 l0_1 = some (r1, r2, r3, r4)) ∧ Aside0 (kq ≤ k) ∧ Aside0 (Kd.R (Kd.int .i64) 3 w' w.heap.size (fun _ => True) v154 t153) ∧ Aside0 (w'.heap[gb151]? = some (.cells #[(.slice A0_0 l0_0.length c0_0), (.slice A0_1 l0_1.length c0_1)] 33 (0, 0))) ∧ Aside0 (Below w.heap.size w w'))
  case atStart => exact ⟨(0), (by first | rfl | (simp; done) | (simp [*]; done)), H', ⟨Nat.le_refl _⟩, ⟨rz_ HO155.out⟩, ⟨bz_ BK151.out⟩, ⟨by repeat (first | (with_reducible first | exact HB.out | apply below_alloc | apply pw_below_drewN | apply below_drew1 | refine below_set ?_ GE151.out) | exact HB.out)⟩⟩
  case round =>
   clear H'
   try clear c1
   try clear c2
   try clear p2
   try clear c4
   try clear hcz7_0
   try clear hcz7_1
   try clear hcz9_0
   try clear hcz9_1
   try clear hfz7_0
   try clear hfz7_1
   try clear hfz9_0
   try clear hfz9_1
   obtain ⟨x9_1, rfl, HA, HK1, HO_8, BK151, HB⟩ := hrel
   cases gk with
   | zero => exact absurd HA.out (by simp [spec_FirstUnsound.l0])
   | succ k1 =>
    have H := HA.out
    clear HA
    simp only [spec_FirstUnsound.l0] at H
    by_cases c11 : x9_1 < (t153.length : Int)
    ·rw [if_pos c11] at H
     have c11b0 : decide (x9_1 < (t153.length : Int)) = true := decide_eq_true c11
     clear c11
     have H' := Aside0.mk H
     clear H
     obtain ⟨Ao12, co12, eo12⟩ := Kd.R_slice HO_8.out
     subst eo12
     go_wp2
     repeat (go_quiet (fail); try go_wp2)
     go_loopg [10] k1 (fun kq v10 w' => ∃ (x10_2 : Int), v10 = .int .i64 x10_2 ∧ Aside0 (spec_FirstUnsound.l1 kq l1 t153 x9_1 x10_2 l0_0 l0_1 = some (r1, r2, r3, r4)) ∧ Aside0 (kq ≤ k1) ∧ Aside0 (Kd.R (Kd.int .i64) 3 w' w.heap.size (fun _ => True) (.slice Ao12 t153.length co12) t153) ∧ Aside0 (w'.heap[gb151]? = some (.cells #[(.slice A0_0 l0_0.length c0_0), (.slice A0_1 l0_1.length c0_1)] 33 (0, 0))) ∧ Aside0 (Below w.heap.size w w'))
     case atStart => exact ⟨(0), (by first | rfl | (simp; done) | (simp [*]; done)), H', ⟨Nat.le_refl _⟩, ⟨rz_ HO_8.out⟩, ⟨bz_ BK151.out⟩, ⟨by repeat (first | (with_reducible first | exact HB.out | apply below_alloc | apply pw_below_drewN | apply below_drew1 | refine below_set ?_ GE151.out) | exact HB.out)⟩⟩
     case round =>
      clear H'
      try clear c1
      try clear c2
      try clear p2
      try clear c4
      try clear c11
      try clear c11b0
      try clear hcz7_0
      try clear hcz7_1
      try clear hcz9_0
      try clear hcz9_1
      try clear hfz7_0
      try clear hfz7_1
      try clear hfz9_0
      try clear hfz9_1
      try clear p2
      obtain ⟨x10_2, rfl, HA, HK2, HO_8, BK151, HB⟩ := hrel
      cases gk with
      | zero => exact absurd HA.out (by simp [spec_FirstUnsound.l1])
      | succ k2 =>
       have H := HA.out
       clear HA
       simp only [spec_FirstUnsound.l1] at H
       by_cases c13 : x10_2 < (t153.length : Int)
       ·rw [if_pos c13] at H
        have c13b0 : decide (x10_2 < (t153.length : Int)) = true := decide_eq_true c13
        clear c13
        by_cases c14 : 0 ≤ x9_1
        ·rw [if_pos c14] at H
         have c14b0 : decide (0 ≤ x9_1) = true := decide_eq_true c14
         clear c14
         by_cases c15 : x9_1 < (l0_0.length : Int)
         ·rw [if_pos c15] at H
          have c15b0 : decide (x9_1 < (l0_0.length : Int)) = true := decide_eq_true c15
          clear c15
          replace H := Option.bind_eq_some_iff.mp H
          obtain ⟨t157, A160, H⟩ := H
          replace H : (if 0 ≤ x10_2 then (if x10_2 < (l0_0.length : Int) then ((spec_l7Phase.f k2 l1 ((rd_T77 l0_0 x10_2).f0)).bind fun t159 => (if x9_1 < (t153.length : Int) then ((spec_l4Bit.f (rd t153 x9_1) x10_2).bind fun t161 => (if t161 = true then (if t159 ≥ 0 then (if t159 < t157 then (some ((rd_T77 l0_0 x9_1).f0, (rd_T77 l0_0 x10_2).f0, true, true)) else (spec_FirstUnsound.l1 k2 l1 t153 x9_1 (wrap64 (x10_2 + 1)) l0_0 l0_1)) else (spec_FirstUnsound.l1 k2 l1 t153 x9_1 (wrap64 (x10_2 + 1)) l0_0 l0_1)) else (spec_FirstUnsound.l1 k2 l1 t153 x9_1 (wrap64 (x10_2 + 1)) l0_0 l0_1))) else (none))) else (none)) else (none)) = some (r1, r2, r3, r4) := H
          have A16 := Aside0.mk A160
          clear A160
          by_cases c17 : 0 ≤ x10_2
          ·rw [if_pos c17] at H
           have c17b0 : decide (0 ≤ x10_2) = true := decide_eq_true c17
           clear c17
           by_cases c18 : x10_2 < (l0_0.length : Int)
           ·rw [if_pos c18] at H
            have c18b0 : decide (x10_2 < (l0_0.length : Int)) = true := decide_eq_true c18
            clear c18
            replace H := Option.bind_eq_some_iff.mp H
            obtain ⟨t159, A190, H⟩ := H
            replace H : (if x9_1 < (t153.length : Int) then ((spec_l4Bit.f (rd t153 x9_1) x10_2).bind fun t161 => (if t161 = true then (if t159 ≥ 0 then (if t159 < t157 then (some ((rd_T77 l0_0 x9_1).f0, (rd_T77 l0_0 x10_2).f0, true, true)) else (spec_FirstUnsound.l1 k2 l1 t153 x9_1 (wrap64 (x10_2 + 1)) l0_0 l0_1)) else (spec_FirstUnsound.l1 k2 l1 t153 x9_1 (wrap64 (x10_2 + 1)) l0_0 l0_1)) else (spec_FirstUnsound.l1 k2 l1 t153 x9_1 (wrap64 (x10_2 + 1)) l0_0 l0_1))) else (none)) = some (r1, r2, r3, r4) := H
            have A19 := Aside0.mk A190
            clear A190
            by_cases c20 : x9_1 < (t153.length : Int)
            ·rw [if_pos c20] at H
             have c20b0 : decide (x9_1 < (t153.length : Int)) = true := decide_eq_true c20
             clear c20
             replace H := Option.bind_eq_some_iff.mp H
             obtain ⟨t161, A210, H⟩ := H
             replace H : (if t161 = true then (if t159 ≥ 0 then (if t159 < t157 then (some ((rd_T77 l0_0 x9_1).f0, (rd_T77 l0_0 x10_2).f0, true, true)) else (spec_FirstUnsound.l1 k2 l1 t153 x9_1 (wrap64 (x10_2 + 1)) l0_0 l0_1)) else (spec_FirstUnsound.l1 k2 l1 t153 x9_1 (wrap64 (x10_2 + 1)) l0_0 l0_1)) else (spec_FirstUnsound.l1 k2 l1 t153 x9_1 (wrap64 (x10_2 + 1)) l0_0 l0_1)) = some (r1, r2, r3, r4) := H
             have A21 := Aside0.mk A210
             clear A210
             by_cases c22 : t161 = true
             ·subst c22
              have H1 : (if t159 ≥ 0 then (if t159 < t157 then (some ((rd_T77 l0_0 x9_1).f0, (rd_T77 l0_0 x10_2).f0, true, true)) else (spec_FirstUnsound.l1 k2 l1 t153 x9_1 (wrap64 (x10_2 + 1)) l0_0 l0_1)) else (spec_FirstUnsound.l1 k2 l1 t153 x9_1 (wrap64 (x10_2 + 1)) l0_0 l0_1)) = some (r1, r2, r3, r4) := by rw [if_pos rfl] at H; exact H
              clear H
              have H := H1
              clear H1
              by_cases c23 : t159 ≥ 0
              ·rw [if_pos c23] at H
               have c23b0 : decide (0 ≤ t159) = true := decide_eq_true c23
               clear c23
               by_cases c24 : t159 < t157
               ·rw [if_pos c24] at H
                have c24b0 : decide (t159 < t157) = true := decide_eq_true c24
                clear c24
                simp only [Option.some.injEq, Prod.mk.injEq] at H
                obtain ⟨rfl, rfl, rfl, rfl⟩ := H
                have hcz25_0 : wr.cell? ⟨gb151, 0, none⟩ = some (.slice A0_0 l0_0.length c0_0) := (blk_cell BK151.out 0).trans rfl
                have hcz25_1 : wr.cell? ⟨gb151, 1, none⟩ = some (.slice A0_1 l0_1.length c0_1) := (blk_cell BK151.out 1).trans rfl
                have hfz25_0 := blk_frozen BK151.out 0
                have hfz25_1 := blk_frozen BK151.out 1
                have p156 : 0 ≤ (x9_1 : Int) := od_
                have q156 : x9_1 < (l0_0.length : Int) := od_
                obtain ⟨ad156, e156, hx156_0, hx156_1⟩ := at_T77 HR0_0.out x9_1 p156 q156
                cases e156
                replace hx156_0 := lc_ HB.out hx156_0
                replace hx156_1 := lc_ HB.out hx156_1
                replace p156 := eq_true p156
                replace q156 := eq_true q156
                go_wp2_with (first | (go_at_call 52; (with_reducible refine (spec_l7Phase.calls k2 _ _ l1 ((rd_T77 l0_0 x9_1).f0) t157 _ ?side1 ?side2 A16.out).mono ?_); (case side1 => exact cz_ (Kd.C_below HR1.out HB.out)); (case side2 => exact HC1.out); rintro e w' ⟨rfl, ⟨nd, rfl⟩⟩; (try first | exact ⟨rfl, _, World.drewN_drewN _ _ _⟩ | exact ⟨rfl, _, Eq.trans (World.drewN_drewN _ _ _) (congrArg (World.drewN _) (Nat.add_assoc _ _ _))⟩); have p158 : 0 ≤ (x10_2 : Int) := od_; have q158 : x10_2 < (l0_0.length : Int) := od_; obtain ⟨ad158, e158, hx158_0, hx158_1⟩ := at_T77 HR0_0.out x10_2 p158 q158; obtain rfl : ad156 = ad158 := (by injection e158); replace hx158_0 := lc_ HB.out hx158_0; replace hx158_1 := lc_ HB.out hx158_1; replace p158 := eq_true p158; replace q158 := eq_true q158) | (go_at_call 52; (with_reducible refine (spec_l7Phase.calls k2 _ _ l1 ((rd_T77 l0_0 x10_2).f0) t159 _ ?side1 ?side2 A19.out).mono ?_); (case side1 => repeat (first | exact (Kd.C_below HR1.out (by repeat (first | (with_reducible first | exact HB.out | apply below_alloc | apply pw_below_drewN | apply below_drew1 | refine below_set ?_ GE151.out) | exact HB.out))) | (with_reducible refine Kd.C_alloc ?_ _) | (with_reducible refine Kd.C_drewN ?_ _) | (with_reducible refine Kd.C_drew ?_))); (case side2 => exact HC1.out); rintro e w' ⟨rfl, ⟨nd, rfl⟩⟩; (try first | exact ⟨rfl, _, World.drewN_drewN _ _ _⟩ | exact ⟨rfl, _, Eq.trans (World.drewN_drewN _ _ _) (congrArg (World.drewN _) (Nat.add_assoc _ _ _))⟩); have p160 : 0 ≤ (x9_1 : Int) := od_; have q160 : x9_1 < (t153.length : Int) := od_; obtain ⟨ad160, e160, hx160_0⟩ := Kd.at_int (Kd.R_reads' HO_8.out).2.2 x9_1 p160 q160; cases e160; replace p160 := eq_true p160; replace q160 := eq_true q160) | (go_at_call 57; (with_reducible refine (spec_l4Bit.calls (rd t153 x9_1) x10_2 true _ A21.out).mono ?_); rintro e w' ⟨rfl, ⟨nd, rfl⟩⟩; (try first | exact ⟨rfl, _, World.drewN_drewN _ _ _⟩ | exact ⟨rfl, _, Eq.trans (World.drewN_drewN _ _ _) (congrArg (World.drewN _) (Nat.add_assoc _ _ _))⟩); have p162 : 0 ≤ (x9_1 : Int) := od_; have q162 : x9_1 < (l0_0.length : Int) := od_; obtain ⟨ad162, e162, hx162_0, hx162_1⟩ := at_T77 HR0_0.out x9_1 p162 q162; obtain rfl : ad156 = ad162 := (by injection e162); replace hx162_0 := lc_ HB.out hx162_0; replace hx162_1 := lc_ HB.out hx162_1; replace p162 := eq_true p162; replace q162 := eq_true q162; have p163 : 0 ≤ (x10_2 : Int) := od_; have q163 : x10_2 < (l0_0.length : Int) := od_; obtain ⟨ad163, e163, hx163_0, hx163_1⟩ := at_T77 HR0_0.out x10_2 p163 q163; obtain rfl : ad156 = ad163 := (by injection e163); replace hx163_0 := lc_ HB.out hx163_0; replace hx163_1 := lc_ HB.out hx163_1; replace p163 := eq_true p163; replace q163 := eq_true q163))
                repeat (go_quiet (first | (go_at_call 52; (with_reducible refine (spec_l7Phase.calls k2 _ _ l1 ((rd_T77 l0_0 x9_1).f0) t157 _ ?side1 ?side2 A16.out).mono ?_); (case side1 => exact cz_ (Kd.C_below HR1.out HB.out)); (case side2 => exact HC1.out); rintro e w' ⟨rfl, ⟨nd, rfl⟩⟩; (try first | exact ⟨rfl, _, World.drewN_drewN _ _ _⟩ | exact ⟨rfl, _, Eq.trans (World.drewN_drewN _ _ _) (congrArg (World.drewN _) (Nat.add_assoc _ _ _))⟩); have p158 : 0 ≤ (x10_2 : Int) := od_; have q158 : x10_2 < (l0_0.length : Int) := od_; obtain ⟨ad158, e158, hx158_0, hx158_1⟩ := at_T77 HR0_0.out x10_2 p158 q158; obtain rfl : ad156 = ad158 := (by injection e158); replace hx158_0 := lc_ HB.out hx158_0; replace hx158_1 := lc_ HB.out hx158_1; replace p158 := eq_true p158; replace q158 := eq_true q158) | (go_at_call 52; (with_reducible refine (spec_l7Phase.calls k2 _ _ l1 ((rd_T77 l0_0 x10_2).f0) t159 _ ?side1 ?side2 A19.out).mono ?_); (case side1 => repeat (first | exact (Kd.C_below HR1.out (by repeat (first | (with_reducible first | exact HB.out | apply below_alloc | apply pw_below_drewN | apply below_drew1 | refine below_set ?_ GE151.out) | exact HB.out))) | (with_reducible refine Kd.C_alloc ?_ _) | (with_reducible refine Kd.C_drewN ?_ _) | (with_reducible refine Kd.C_drew ?_))); (case side2 => exact HC1.out); rintro e w' ⟨rfl, ⟨nd, rfl⟩⟩; (try first | exact ⟨rfl, _, World.drewN_drewN _ _ _⟩ | exact ⟨rfl, _, Eq.trans (World.drewN_drewN _ _ _) (congrArg (World.drewN _) (Nat.add_assoc _ _ _))⟩); have p160 : 0 ≤ (x9_1 : Int) := od_; have q160 : x9_1 < (t153.length : Int) := od_; obtain ⟨ad160, e160, hx160_0⟩ := Kd.at_int (Kd.R_reads' HO_8.out).2.2 x9_1 p160 q160; cases e160; replace p160 := eq_true p160; replace q160 := eq_true q160) | (go_at_call 57; (with_reducible refine (spec_l4Bit.calls (rd t153 x9_1) x10_2 true _ A21.out).mono ?_); rintro e w' ⟨rfl, ⟨nd, rfl⟩⟩; (try first | exact ⟨rfl, _, World.drewN_drewN _ _ _⟩ | exact ⟨rfl, _, Eq.trans (World.drewN_drewN _ _ _) (congrArg (World.drewN _) (Nat.add_assoc _ _ _))⟩); have p162 : 0 ≤ (x9_1 : Int) := od_; have q162 : x9_1 < (l0_0.length : Int) := od_; obtain ⟨ad162, e162, hx162_0, hx162_1⟩ := at_T77 HR0_0.out x9_1 p162 q162; obtain rfl : ad156 = ad162 := (by injection e162); replace hx162_0 := lc_ HB.out hx162_0; replace hx162_1 := lc_ HB.out hx162_1; replace p162 := eq_true p162; replace q162 := eq_true q162; have p163 : 0 ≤ (x10_2 : Int) := od_; have q163 : x10_2 < (l0_0.length : Int) := od_; obtain ⟨ad163, e163, hx163_0, hx163_1⟩ := at_T77 HR0_0.out x10_2 p163 q163; obtain rfl : ad156 = ad163 := (by injection e163); replace hx163_0 := lc_ HB.out hx163_0; replace hx163_1 := lc_ HB.out hx163_1; replace p163 := eq_true p163; replace q163 := eq_true q163)); try go_wp2_with (first | (go_at_call 52; (with_reducible refine (spec_l7Phase.calls k2 _ _ l1 ((rd_T77 l0_0 x9_1).f0) t157 _ ?side1 ?side2 A16.out).mono ?_); (case side1 => exact cz_ (Kd.C_below HR1.out HB.out)); (case side2 => exact HC1.out); rintro e w' ⟨rfl, ⟨nd, rfl⟩⟩; (try first | exact ⟨rfl, _, World.drewN_drewN _ _ _⟩ | exact ⟨rfl, _, Eq.trans (World.drewN_drewN _ _ _) (congrArg (World.drewN _) (Nat.add_assoc _ _ _))⟩); have p158 : 0 ≤ (x10_2 : Int) := od_; have q158 : x10_2 < (l0_0.length : Int) := od_; obtain ⟨ad158, e158, hx158_0, hx158_1⟩ := at_T77 HR0_0.out x10_2 p158 q158; obtain rfl : ad156 = ad158 := (by injection e158); replace hx158_0 := lc_ HB.out hx158_0; replace hx158_1 := lc_ HB.out hx158_1; replace p158 := eq_true p158; replace q158 := eq_true q158) | (go_at_call 52; (with_reducible refine (spec_l7Phase.calls k2 _ _ l1 ((rd_T77 l0_0 x10_2).f0) t159 _ ?side1 ?side2 A19.out).mono ?_); (case side1 => repeat (first | exact (Kd.C_below HR1.out (by repeat (first | (with_reducible first | exact HB.out | apply below_alloc | apply pw_below_drewN | apply below_drew1 | refine below_set ?_ GE151.out) | exact HB.out))) | (with_reducible refine Kd.C_alloc ?_ _) | (with_reducible refine Kd.C_drewN ?_ _) | (with_reducible refine Kd.C_drew ?_))); (case side2 => exact HC1.out); rintro e w' ⟨rfl, ⟨nd, rfl⟩⟩; (try first | exact ⟨rfl, _, World.drewN_drewN _ _ _⟩ | exact ⟨rfl, _, Eq.trans (World.drewN_drewN _ _ _) (congrArg (World.drewN _) (Nat.add_assoc _ _ _))⟩); have p160 : 0 ≤ (x9_1 : Int) := od_; have q160 : x9_1 < (t153.length : Int) := od_; obtain ⟨ad160, e160, hx160_0⟩ := Kd.at_int (Kd.R_reads' HO_8.out).2.2 x9_1 p160 q160; cases e160; replace p160 := eq_true p160; replace q160 := eq_true q160) | (go_at_call 57; (with_reducible refine (spec_l4Bit.calls (rd t153 x9_1) x10_2 true _ A21.out).mono ?_); rintro e w' ⟨rfl, ⟨nd, rfl⟩⟩; (try first | exact ⟨rfl, _, World.drewN_drewN _ _ _⟩ | exact ⟨rfl, _, Eq.trans (World.drewN_drewN _ _ _) (congrArg (World.drewN _) (Nat.add_assoc _ _ _))⟩); have p162 : 0 ≤ (x9_1 : Int) := od_; have q162 : x9_1 < (l0_0.length : Int) := od_; obtain ⟨ad162, e162, hx162_0, hx162_1⟩ := at_T77 HR0_0.out x9_1 p162 q162; obtain rfl : ad156 = ad162 := (by injection e162); replace hx162_0 := lc_ HB.out hx162_0; replace hx162_1 := lc_ HB.out hx162_1; replace p162 := eq_true p162; replace q162 := eq_true q162; have p163 : 0 ≤ (x10_2 : Int) := od_; have q163 : x10_2 < (l0_0.length : Int) := od_; obtain ⟨ad163, e163, hx163_0, hx163_1⟩ := at_T77 HR0_0.out x10_2 p163 q163; obtain rfl : ad156 = ad163 := (by injection e163); replace hx163_0 := lc_ HB.out hx163_0; replace hx163_1 := lc_ HB.out hx163_1; replace p163 := eq_true p163; replace q163 := eq_true q163)))
                refine bodyPost_ret (results_list (rs := [.tmp 4, .tmp 5, .tmp 6, .tmp 7]) rfl (by simp) (.tmp (.tmp (.tmp (.tmp .nil))))) rfl ?_
                exact ⟨by first | rfl | (simp [errW_none, errW_some] <;> rfl) | (simp [*, errW_none, errW_some] <;> rfl), by repeat (first | (with_reducible first | exact HB.out | apply below_alloc | apply pw_below_drewN | apply below_drew1 | refine below_set ?_ GE151.out) | exact HB.out)⟩
               ·rw [if_neg c24] at H
                have c24b0 : decide (t159 < t157) = false := decide_eq_false c24
                clear c24
                have H' := Aside0.mk H
                clear H
                have hcz26_0 : wr.cell? ⟨gb151, 0, none⟩ = some (.slice A0_0 l0_0.length c0_0) := (blk_cell BK151.out 0).trans rfl
                have hcz26_1 : wr.cell? ⟨gb151, 1, none⟩ = some (.slice A0_1 l0_1.length c0_1) := (blk_cell BK151.out 1).trans rfl
                have hfz26_0 := blk_frozen BK151.out 0
                have hfz26_1 := blk_frozen BK151.out 1
                have p156 : 0 ≤ (x9_1 : Int) := od_
                have q156 : x9_1 < (l0_0.length : Int) := od_
                obtain ⟨ad156, e156, hx156_0, hx156_1⟩ := at_T77 HR0_0.out x9_1 p156 q156
                cases e156
                replace hx156_0 := lc_ HB.out hx156_0
                replace hx156_1 := lc_ HB.out hx156_1
                replace p156 := eq_true p156
                replace q156 := eq_true q156
                go_wp2_with (first | (go_at_call 52; (with_reducible refine (spec_l7Phase.calls k2 _ _ l1 ((rd_T77 l0_0 x9_1).f0) t157 _ ?side1 ?side2 A16.out).mono ?_); (case side1 => exact cz_ (Kd.C_below HR1.out HB.out)); (case side2 => exact HC1.out); rintro e w' ⟨rfl, ⟨nd, rfl⟩⟩; (try first | exact ⟨rfl, _, World.drewN_drewN _ _ _⟩ | exact ⟨rfl, _, Eq.trans (World.drewN_drewN _ _ _) (congrArg (World.drewN _) (Nat.add_assoc _ _ _))⟩); have p158 : 0 ≤ (x10_2 : Int) := od_; have q158 : x10_2 < (l0_0.length : Int) := od_; obtain ⟨ad158, e158, hx158_0, hx158_1⟩ := at_T77 HR0_0.out x10_2 p158 q158; obtain rfl : ad156 = ad158 := (by injection e158); replace hx158_0 := lc_ HB.out hx158_0; replace hx158_1 := lc_ HB.out hx158_1; replace p158 := eq_true p158; replace q158 := eq_true q158) | (go_at_call 52; (with_reducible refine (spec_l7Phase.calls k2 _ _ l1 ((rd_T77 l0_0 x10_2).f0) t159 _ ?side1 ?side2 A19.out).mono ?_); (case side1 => repeat (first | exact (Kd.C_below HR1.out (by repeat (first | (with_reducible first | exact HB.out | apply below_alloc | apply pw_below_drewN | apply below_drew1 | refine below_set ?_ GE151.out) | exact HB.out))) | (with_reducible refine Kd.C_alloc ?_ _) | (with_reducible refine Kd.C_drewN ?_ _) | (with_reducible refine Kd.C_drew ?_))); (case side2 => exact HC1.out); rintro e w' ⟨rfl, ⟨nd, rfl⟩⟩; (try first | exact ⟨rfl, _, World.drewN_drewN _ _ _⟩ | exact ⟨rfl, _, Eq.trans (World.drewN_drewN _ _ _) (congrArg (World.drewN _) (Nat.add_assoc _ _ _))⟩); have p160 : 0 ≤ (x9_1 : Int) := od_; have q160 : x9_1 < (t153.length : Int) := od_; obtain ⟨ad160, e160, hx160_0⟩ := Kd.at_int (Kd.R_reads' HO_8.out).2.2 x9_1 p160 q160; cases e160; replace p160 := eq_true p160; replace q160 := eq_true q160) | (go_at_call 57; (with_reducible refine (spec_l4Bit.calls (rd t153 x9_1) x10_2 true _ A21.out).mono ?_); rintro e w' ⟨rfl, ⟨nd, rfl⟩⟩; (try first | exact ⟨rfl, _, World.drewN_drewN _ _ _⟩ | exact ⟨rfl, _, Eq.trans (World.drewN_drewN _ _ _) (congrArg (World.drewN _) (Nat.add_assoc _ _ _))⟩)))
                repeat (go_quiet (first | (go_at_call 52; (with_reducible refine (spec_l7Phase.calls k2 _ _ l1 ((rd_T77 l0_0 x9_1).f0) t157 _ ?side1 ?side2 A16.out).mono ?_); (case side1 => exact cz_ (Kd.C_below HR1.out HB.out)); (case side2 => exact HC1.out); rintro e w' ⟨rfl, ⟨nd, rfl⟩⟩; (try first | exact ⟨rfl, _, World.drewN_drewN _ _ _⟩ | exact ⟨rfl, _, Eq.trans (World.drewN_drewN _ _ _) (congrArg (World.drewN _) (Nat.add_assoc _ _ _))⟩); have p158 : 0 ≤ (x10_2 : Int) := od_; have q158 : x10_2 < (l0_0.length : Int) := od_; obtain ⟨ad158, e158, hx158_0, hx158_1⟩ := at_T77 HR0_0.out x10_2 p158 q158; obtain rfl : ad156 = ad158 := (by injection e158); replace hx158_0 := lc_ HB.out hx158_0; replace hx158_1 := lc_ HB.out hx158_1; replace p158 := eq_true p158; replace q158 := eq_true q158) | (go_at_call 52; (with_reducible refine (spec_l7Phase.calls k2 _ _ l1 ((rd_T77 l0_0 x10_2).f0) t159 _ ?side1 ?side2 A19.out).mono ?_); (case side1 => repeat (first | exact (Kd.C_below HR1.out (by repeat (first | (with_reducible first | exact HB.out | apply below_alloc | apply pw_below_drewN | apply below_drew1 | refine below_set ?_ GE151.out) | exact HB.out))) | (with_reducible refine Kd.C_alloc ?_ _) | (with_reducible refine Kd.C_drewN ?_ _) | (with_reducible refine Kd.C_drew ?_))); (case side2 => exact HC1.out); rintro e w' ⟨rfl, ⟨nd, rfl⟩⟩; (try first | exact ⟨rfl, _, World.drewN_drewN _ _ _⟩ | exact ⟨rfl, _, Eq.trans (World.drewN_drewN _ _ _) (congrArg (World.drewN _) (Nat.add_assoc _ _ _))⟩); have p160 : 0 ≤ (x9_1 : Int) := od_; have q160 : x9_1 < (t153.length : Int) := od_; obtain ⟨ad160, e160, hx160_0⟩ := Kd.at_int (Kd.R_reads' HO_8.out).2.2 x9_1 p160 q160; cases e160; replace p160 := eq_true p160; replace q160 := eq_true q160) | (go_at_call 57; (with_reducible refine (spec_l4Bit.calls (rd t153 x9_1) x10_2 true _ A21.out).mono ?_); rintro e w' ⟨rfl, ⟨nd, rfl⟩⟩; (try first | exact ⟨rfl, _, World.drewN_drewN _ _ _⟩ | exact ⟨rfl, _, Eq.trans (World.drewN_drewN _ _ _) (congrArg (World.drewN _) (Nat.add_assoc _ _ _))⟩))); try go_wp2_with (first | (go_at_call 52; (with_reducible refine (spec_l7Phase.calls k2 _ _ l1 ((rd_T77 l0_0 x9_1).f0) t157 _ ?side1 ?side2 A16.out).mono ?_); (case side1 => exact cz_ (Kd.C_below HR1.out HB.out)); (case side2 => exact HC1.out); rintro e w' ⟨rfl, ⟨nd, rfl⟩⟩; (try first | exact ⟨rfl, _, World.drewN_drewN _ _ _⟩ | exact ⟨rfl, _, Eq.trans (World.drewN_drewN _ _ _) (congrArg (World.drewN _) (Nat.add_assoc _ _ _))⟩); have p158 : 0 ≤ (x10_2 : Int) := od_; have q158 : x10_2 < (l0_0.length : Int) := od_; obtain ⟨ad158, e158, hx158_0, hx158_1⟩ := at_T77 HR0_0.out x10_2 p158 q158; obtain rfl : ad156 = ad158 := (by injection e158); replace hx158_0 := lc_ HB.out hx158_0; replace hx158_1 := lc_ HB.out hx158_1; replace p158 := eq_true p158; replace q158 := eq_true q158) | (go_at_call 52; (with_reducible refine (spec_l7Phase.calls k2 _ _ l1 ((rd_T77 l0_0 x10_2).f0) t159 _ ?side1 ?side2 A19.out).mono ?_); (case side1 => repeat (first | exact (Kd.C_below HR1.out (by repeat (first | (with_reducible first | exact HB.out | apply below_alloc | apply pw_below_drewN | apply below_drew1 | refine below_set ?_ GE151.out) | exact HB.out))) | (with_reducible refine Kd.C_alloc ?_ _) | (with_reducible refine Kd.C_drewN ?_ _) | (with_reducible refine Kd.C_drew ?_))); (case side2 => exact HC1.out); rintro e w' ⟨rfl, ⟨nd, rfl⟩⟩; (try first | exact ⟨rfl, _, World.drewN_drewN _ _ _⟩ | exact ⟨rfl, _, Eq.trans (World.drewN_drewN _ _ _) (congrArg (World.drewN _) (Nat.add_assoc _ _ _))⟩); have p160 : 0 ≤ (x9_1 : Int) := od_; have q160 : x9_1 < (t153.length : Int) := od_; obtain ⟨ad160, e160, hx160_0⟩ := Kd.at_int (Kd.R_reads' HO_8.out).2.2 x9_1 p160 q160; cases e160; replace p160 := eq_true p160; replace q160 := eq_true q160) | (go_at_call 57; (with_reducible refine (spec_l4Bit.calls (rd t153 x9_1) x10_2 true _ A21.out).mono ?_); rintro e w' ⟨rfl, ⟨nd, rfl⟩⟩; (try first | exact ⟨rfl, _, World.drewN_drewN _ _ _⟩ | exact ⟨rfl, _, Eq.trans (World.drewN_drewN _ _ _) (congrArg (World.drewN _) (Nat.add_assoc _ _ _))⟩))))
                go_roundg k2
                case measure => have := HK1.out; have := HK2.out; omega
                case rel => exact ⟨(wrap64 (x10_2 + 1)), (by first | rfl | (simp; done) | (simp [*]; done)), H', ⟨by have := HK1.out; have := HK2.out; omega⟩, ⟨rz_ HO_8.out⟩, ⟨bz_ BK151.out⟩, ⟨by repeat (first | (with_reducible first | exact HB.out | apply below_alloc | apply pw_below_drewN | apply below_drew1 | refine below_set ?_ GE151.out) | exact HB.out)⟩⟩
              ·rw [if_neg c23] at H
               have c23b0 : decide (0 ≤ t159) = false := decide_eq_false c23
               clear c23
               have H' := Aside0.mk H
               clear H
               have hcz27_0 : wr.cell? ⟨gb151, 0, none⟩ = some (.slice A0_0 l0_0.length c0_0) := (blk_cell BK151.out 0).trans rfl
               have hcz27_1 : wr.cell? ⟨gb151, 1, none⟩ = some (.slice A0_1 l0_1.length c0_1) := (blk_cell BK151.out 1).trans rfl
               have hfz27_0 := blk_frozen BK151.out 0
               have hfz27_1 := blk_frozen BK151.out 1
               have p156 : 0 ≤ (x9_1 : Int) := od_
               have q156 : x9_1 < (l0_0.length : Int) := od_
               obtain ⟨ad156, e156, hx156_0, hx156_1⟩ := at_T77 HR0_0.out x9_1 p156 q156
               cases e156
               replace hx156_0 := lc_ HB.out hx156_0
               replace hx156_1 := lc_ HB.out hx156_1
               replace p156 := eq_true p156
               replace q156 := eq_true q156
               go_wp2_with (first | (go_at_call 52; (with_reducible refine (spec_l7Phase.calls k2 _ _ l1 ((rd_T77 l0_0 x9_1).f0) t157 _ ?side1 ?side2 A16.out).mono ?_); (case side1 => exact cz_ (Kd.C_below HR1.out HB.out)); (case side2 => exact HC1.out); rintro e w' ⟨rfl, ⟨nd, rfl⟩⟩; (try first | exact ⟨rfl, _, World.drewN_drewN _ _ _⟩ | exact ⟨rfl, _, Eq.trans (World.drewN_drewN _ _ _) (congrArg (World.drewN _) (Nat.add_assoc _ _ _))⟩); have p158 : 0 ≤ (x10_2 : Int) := od_; have q158 : x10_2 < (l0_0.length : Int) := od_; obtain ⟨ad158, e158, hx158_0, hx158_1⟩ := at_T77 HR0_0.out x10_2 p158 q158; obtain rfl : ad156 = ad158 := (by injection e158); replace hx158_0 := lc_ HB.out hx158_0; replace hx158_1 := lc_ HB.out hx158_1; replace p158 := eq_true p158; replace q158 := eq_true q158) | (go_at_call 52; (with_reducible refine (spec_l7Phase.calls k2 _ _ l1 ((rd_T77 l0_0 x10_2).f0) t159 _ ?side1 ?side2 A19.out).mono ?_); (case side1 => repeat (first | exact (Kd.C_below HR1.out (by repeat (first | (with_reducible first | exact HB.out | apply below_alloc | apply pw_below_drewN | apply below_drew1 | refine below_set ?_ GE151.out) | exact HB.out))) | (with_reducible refine Kd.C_alloc ?_ _) | (with_reducible refine Kd.C_drewN ?_ _) | (with_reducible refine Kd.C_drew ?_))); (case side2 => exact HC1.out); rintro e w' ⟨rfl, ⟨nd, rfl⟩⟩; (try first | exact ⟨rfl, _, World.drewN_drewN _ _ _⟩ | exact ⟨rfl, _, Eq.trans (World.drewN_drewN _ _ _) (congrArg (World.drewN _) (Nat.add_assoc _ _ _))⟩); have p160 : 0 ≤ (x9_1 : Int) := od_; have q160 : x9_1 < (t153.length : Int) := od_; obtain ⟨ad160, e160, hx160_0⟩ := Kd.at_int (Kd.R_reads' HO_8.out).2.2 x9_1 p160 q160; cases e160; replace p160 := eq_true p160; replace q160 := eq_true q160) | (go_at_call 57; (with_reducible refine (spec_l4Bit.calls (rd t153 x9_1) x10_2 true _ A21.out).mono ?_); rintro e w' ⟨rfl, ⟨nd, rfl⟩⟩; (try first | exact ⟨rfl, _, World.drewN_drewN _ _ _⟩ | exact ⟨rfl, _, Eq.trans (World.drewN_drewN _ _ _) (congrArg (World.drewN _) (Nat.add_assoc _ _ _))⟩)))
               repeat (go_quiet (first | (go_at_call 52; (with_reducible refine (spec_l7Phase.calls k2 _ _ l1 ((rd_T77 l0_0 x9_1).f0) t157 _ ?side1 ?side2 A16.out).mono ?_); (case side1 => exact cz_ (Kd.C_below HR1.out HB.out)); (case side2 => exact HC1.out); rintro e w' ⟨rfl, ⟨nd, rfl⟩⟩; (try first | exact ⟨rfl, _, World.drewN_drewN _ _ _⟩ | exact ⟨rfl, _, Eq.trans (World.drewN_drewN _ _ _) (congrArg (World.drewN _) (Nat.add_assoc _ _ _))⟩); have p158 : 0 ≤ (x10_2 : Int) := od_; have q158 : x10_2 < (l0_0.length : Int) := od_; obtain ⟨ad158, e158, hx158_0, hx158_1⟩ := at_T77 HR0_0.out x10_2 p158 q158; obtain rfl : ad156 = ad158 := (by injection e158); replace hx158_0 := lc_ HB.out hx158_0; replace hx158_1 := lc_ HB.out hx158_1; replace p158 := eq_true p158; replace q158 := eq_true q158) | (go_at_call 52; (with_reducible refine (spec_l7Phase.calls k2 _ _ l1 ((rd_T77 l0_0 x10_2).f0) t159 _ ?side1 ?side2 A19.out).mono ?_); (case side1 => repeat (first | exact (Kd.C_below HR1.out (by repeat (first | (with_reducible first | exact HB.out | apply below_alloc | apply pw_below_drewN | apply below_drew1 | refine below_set ?_ GE151.out) | exact HB.out))) | (with_reducible refine Kd.C_alloc ?_ _) | (with_reducible refine Kd.C_drewN ?_ _) | (with_reducible refine Kd.C_drew ?_))); (case side2 => exact HC1.out); rintro e w' ⟨rfl, ⟨nd, rfl⟩⟩; (try first | exact ⟨rfl, _, World.drewN_drewN _ _ _⟩ | exact ⟨rfl, _, Eq.trans (World.drewN_drewN _ _ _) (congrArg (World.drewN _) (Nat.add_assoc _ _ _))⟩); have p160 : 0 ≤ (x9_1 : Int) := od_; have q160 : x9_1 < (t153.length : Int) := od_; obtain ⟨ad160, e160, hx160_0⟩ := Kd.at_int (Kd.R_reads' HO_8.out).2.2 x9_1 p160 q160; cases e160; replace p160 := eq_true p160; replace q160 := eq_true q160) | (go_at_call 57; (with_reducible refine (spec_l4Bit.calls (rd t153 x9_1) x10_2 true _ A21.out).mono ?_); rintro e w' ⟨rfl, ⟨nd, rfl⟩⟩; (try first | exact ⟨rfl, _, World.drewN_drewN _ _ _⟩ | exact ⟨rfl, _, Eq.trans (World.drewN_drewN _ _ _) (congrArg (World.drewN _) (Nat.add_assoc _ _ _))⟩))); try go_wp2_with (first | (go_at_call 52; (with_reducible refine (spec_l7Phase.calls k2 _ _ l1 ((rd_T77 l0_0 x9_1).f0) t157 _ ?side1 ?side2 A16.out).mono ?_); (case side1 => exact cz_ (Kd.C_below HR1.out HB.out)); (case side2 => exact HC1.out); rintro e w' ⟨rfl, ⟨nd, rfl⟩⟩; (try first | exact ⟨rfl, _, World.drewN_drewN _ _ _⟩ | exact ⟨rfl, _, Eq.trans (World.drewN_drewN _ _ _) (congrArg (World.drewN _) (Nat.add_assoc _ _ _))⟩); have p158 : 0 ≤ (x10_2 : Int) := od_; have q158 : x10_2 < (l0_0.length : Int) := od_; obtain ⟨ad158, e158, hx158_0, hx158_1⟩ := at_T77 HR0_0.out x10_2 p158 q158; obtain rfl : ad156 = ad158 := (by injection e158); replace hx158_0 := lc_ HB.out hx158_0; replace hx158_1 := lc_ HB.out hx158_1; replace p158 := eq_true p158; replace q158 := eq_true q158) | (go_at_call 52; (with_reducible refine (spec_l7Phase.calls k2 _ _ l1 ((rd_T77 l0_0 x10_2).f0) t159 _ ?side1 ?side2 A19.out).mono ?_); (case side1 => repeat (first | exact (Kd.C_below HR1.out (by repeat (first | (with_reducible first | exact HB.out | apply below_alloc | apply pw_below_drewN | apply below_drew1 | refine below_set ?_ GE151.out) | exact HB.out))) | (with_reducible refine Kd.C_alloc ?_ _) | (with_reducible refine Kd.C_drewN ?_ _) | (with_reducible refine Kd.C_drew ?_))); (case side2 => exact HC1.out); rintro e w' ⟨rfl, ⟨nd, rfl⟩⟩; (try first | exact ⟨rfl, _, World.drewN_drewN _ _ _⟩ | exact ⟨rfl, _, Eq.trans (World.drewN_drewN _ _ _) (congrArg (World.drewN _) (Nat.add_assoc _ _ _))⟩); have p160 : 0 ≤ (x9_1 : Int) := od_; have q160 : x9_1 < (t153.length : Int) := od_; obtain ⟨ad160, e160, hx160_0⟩ := Kd.at_int (Kd.R_reads' HO_8.out).2.2 x9_1 p160 q160; cases e160; replace p160 := eq_true p160; replace q160 := eq_true q160) | (go_at_call 57; (with_reducible refine (spec_l4Bit.calls (rd t153 x9_1) x10_2 true _ A21.out).mono ?_); rintro e w' ⟨rfl, ⟨nd, rfl⟩⟩; (try first | exact ⟨rfl, _, World.drewN_drewN _ _ _⟩ | exact ⟨rfl, _, Eq.trans (World.drewN_drewN _ _ _) (congrArg (World.drewN _) (Nat.add_assoc _ _ _))⟩))))
               go_roundg k2
               case measure => have := HK1.out; have := HK2.out; omega
               case rel => exact ⟨(wrap64 (x10_2 + 1)), (by first | rfl | (simp; done) | (simp [*]; done)), H', ⟨by have := HK1.out; have := HK2.out; omega⟩, ⟨rz_ HO_8.out⟩, ⟨bz_ BK151.out⟩, ⟨by repeat (first | (with_reducible first | exact HB.out | apply below_alloc | apply pw_below_drewN | apply below_drew1 | refine below_set ?_ GE151.out) | exact HB.out)⟩⟩
             ·replace c22 := Bool.eq_false_iff.mpr c22
              subst c22
              have H1 : (spec_FirstUnsound.l1 k2 l1 t153 x9_1 (wrap64 (x10_2 + 1)) l0_0 l0_1) = some (r1, r2, r3, r4) := by rw [if_neg (show ¬ (false = true) by decide)] at H; exact H
              clear H
              have H := H1
              clear H1
              have H' := Aside0.mk H
              clear H
              have hcz28_0 : wr.cell? ⟨gb151, 0, none⟩ = some (.slice A0_0 l0_0.length c0_0) := (blk_cell BK151.out 0).trans rfl
              have hcz28_1 : wr.cell? ⟨gb151, 1, none⟩ = some (.slice A0_1 l0_1.length c0_1) := (blk_cell BK151.out 1).trans rfl
              have hfz28_0 := blk_frozen BK151.out 0
              have hfz28_1 := blk_frozen BK151.out 1
              have p156 : 0 ≤ (x9_1 : Int) := od_
              have q156 : x9_1 < (l0_0.length : Int) := od_
              obtain ⟨ad156, e156, hx156_0, hx156_1⟩ := at_T77 HR0_0.out x9_1 p156 q156
              cases e156
              replace hx156_0 := lc_ HB.out hx156_0
              replace hx156_1 := lc_ HB.out hx156_1
              replace p156 := eq_true p156
              replace q156 := eq_true q156
              go_wp2_with (first | (go_at_call 52; (with_reducible refine (spec_l7Phase.calls k2 _ _ l1 ((rd_T77 l0_0 x9_1).f0) t157 _ ?side1 ?side2 A16.out).mono ?_); (case side1 => exact cz_ (Kd.C_below HR1.out HB.out)); (case side2 => exact HC1.out); rintro e w' ⟨rfl, ⟨nd, rfl⟩⟩; (try first | exact ⟨rfl, _, World.drewN_drewN _ _ _⟩ | exact ⟨rfl, _, Eq.trans (World.drewN_drewN _ _ _) (congrArg (World.drewN _) (Nat.add_assoc _ _ _))⟩); have p158 : 0 ≤ (x10_2 : Int) := od_; have q158 : x10_2 < (l0_0.length : Int) := od_; obtain ⟨ad158, e158, hx158_0, hx158_1⟩ := at_T77 HR0_0.out x10_2 p158 q158; obtain rfl : ad156 = ad158 := (by injection e158); replace hx158_0 := lc_ HB.out hx158_0; replace hx158_1 := lc_ HB.out hx158_1; replace p158 := eq_true p158; replace q158 := eq_true q158) | (go_at_call 52; (with_reducible refine (spec_l7Phase.calls k2 _ _ l1 ((rd_T77 l0_0 x10_2).f0) t159 _ ?side1 ?side2 A19.out).mono ?_); (case side1 => repeat (first | exact (Kd.C_below HR1.out (by repeat (first | (with_reducible first | exact HB.out | apply below_alloc | apply pw_below_drewN | apply below_drew1 | refine below_set ?_ GE151.out) | exact HB.out))) | (with_reducible refine Kd.C_alloc ?_ _) | (with_reducible refine Kd.C_drewN ?_ _) | (with_reducible refine Kd.C_drew ?_))); (case side2 => exact HC1.out); rintro e w' ⟨rfl, ⟨nd, rfl⟩⟩; (try first | exact ⟨rfl, _, World.drewN_drewN _ _ _⟩ | exact ⟨rfl, _, Eq.trans (World.drewN_drewN _ _ _) (congrArg (World.drewN _) (Nat.add_assoc _ _ _))⟩); have p160 : 0 ≤ (x9_1 : Int) := od_; have q160 : x9_1 < (t153.length : Int) := od_; obtain ⟨ad160, e160, hx160_0⟩ := Kd.at_int (Kd.R_reads' HO_8.out).2.2 x9_1 p160 q160; cases e160; replace p160 := eq_true p160; replace q160 := eq_true q160) | (go_at_call 57; (with_reducible refine (spec_l4Bit.calls (rd t153 x9_1) x10_2 false _ A21.out).mono ?_); rintro e w' ⟨rfl, ⟨nd, rfl⟩⟩; (try first | exact ⟨rfl, _, World.drewN_drewN _ _ _⟩ | exact ⟨rfl, _, Eq.trans (World.drewN_drewN _ _ _) (congrArg (World.drewN _) (Nat.add_assoc _ _ _))⟩)))
              repeat (go_quiet (first | (go_at_call 52; (with_reducible refine (spec_l7Phase.calls k2 _ _ l1 ((rd_T77 l0_0 x9_1).f0) t157 _ ?side1 ?side2 A16.out).mono ?_); (case side1 => exact cz_ (Kd.C_below HR1.out HB.out)); (case side2 => exact HC1.out); rintro e w' ⟨rfl, ⟨nd, rfl⟩⟩; (try first | exact ⟨rfl, _, World.drewN_drewN _ _ _⟩ | exact ⟨rfl, _, Eq.trans (World.drewN_drewN _ _ _) (congrArg (World.drewN _) (Nat.add_assoc _ _ _))⟩); have p158 : 0 ≤ (x10_2 : Int) := od_; have q158 : x10_2 < (l0_0.length : Int) := od_; obtain ⟨ad158, e158, hx158_0, hx158_1⟩ := at_T77 HR0_0.out x10_2 p158 q158; obtain rfl : ad156 = ad158 := (by injection e158); replace hx158_0 := lc_ HB.out hx158_0; replace hx158_1 := lc_ HB.out hx158_1; replace p158 := eq_true p158; replace q158 := eq_true q158) | (go_at_call 52; (with_reducible refine (spec_l7Phase.calls k2 _ _ l1 ((rd_T77 l0_0 x10_2).f0) t159 _ ?side1 ?side2 A19.out).mono ?_); (case side1 => repeat (first | exact (Kd.C_below HR1.out (by repeat (first | (with_reducible first | exact HB.out | apply below_alloc | apply pw_below_drewN | apply below_drew1 | refine below_set ?_ GE151.out) | exact HB.out))) | (with_reducible refine Kd.C_alloc ?_ _) | (with_reducible refine Kd.C_drewN ?_ _) | (with_reducible refine Kd.C_drew ?_))); (case side2 => exact HC1.out); rintro e w' ⟨rfl, ⟨nd, rfl⟩⟩; (try first | exact ⟨rfl, _, World.drewN_drewN _ _ _⟩ | exact ⟨rfl, _, Eq.trans (World.drewN_drewN _ _ _) (congrArg (World.drewN _) (Nat.add_assoc _ _ _))⟩); have p160 : 0 ≤ (x9_1 : Int) := od_; have q160 : x9_1 < (t153.length : Int) := od_; obtain ⟨ad160, e160, hx160_0⟩ := Kd.at_int (Kd.R_reads' HO_8.out).2.2 x9_1 p160 q160; cases e160; replace p160 := eq_true p160; replace q160 := eq_true q160) | (go_at_call 57; (with_reducible refine (spec_l4Bit.calls (rd t153 x9_1) x10_2 false _ A21.out).mono ?_); rintro e w' ⟨rfl, ⟨nd, rfl⟩⟩; (try first | exact ⟨rfl, _, World.drewN_drewN _ _ _⟩ | exact ⟨rfl, _, Eq.trans (World.drewN_drewN _ _ _) (congrArg (World.drewN _) (Nat.add_assoc _ _ _))⟩))); try go_wp2_with (first | (go_at_call 52; (with_reducible refine (spec_l7Phase.calls k2 _ _ l1 ((rd_T77 l0_0 x9_1).f0) t157 _ ?side1 ?side2 A16.out).mono ?_); (case side1 => exact cz_ (Kd.C_below HR1.out HB.out)); (case side2 => exact HC1.out); rintro e w' ⟨rfl, ⟨nd, rfl⟩⟩; (try first | exact ⟨rfl, _, World.drewN_drewN _ _ _⟩ | exact ⟨rfl, _, Eq.trans (World.drewN_drewN _ _ _) (congrArg (World.drewN _) (Nat.add_assoc _ _ _))⟩); have p158 : 0 ≤ (x10_2 : Int) := od_; have q158 : x10_2 < (l0_0.length : Int) := od_; obtain ⟨ad158, e158, hx158_0, hx158_1⟩ := at_T77 HR0_0.out x10_2 p158 q158; obtain rfl : ad156 = ad158 := (by injection e158); replace hx158_0 := lc_ HB.out hx158_0; replace hx158_1 := lc_ HB.out hx158_1; replace p158 := eq_true p158; replace q158 := eq_true q158) | (go_at_call 52; (with_reducible refine (spec_l7Phase.calls k2 _ _ l1 ((rd_T77 l0_0 x10_2).f0) t159 _ ?side1 ?side2 A19.out).mono ?_); (case side1 => repeat (first | exact (Kd.C_below HR1.out (by repeat (first | (with_reducible first | exact HB.out | apply below_alloc | apply pw_below_drewN | apply below_drew1 | refine below_set ?_ GE151.out) | exact HB.out))) | (with_reducible refine Kd.C_alloc ?_ _) | (with_reducible refine Kd.C_drewN ?_ _) | (with_reducible refine Kd.C_drew ?_))); (case side2 => exact HC1.out); rintro e w' ⟨rfl, ⟨nd, rfl⟩⟩; (try first | exact ⟨rfl, _, World.drewN_drewN _ _ _⟩ | exact ⟨rfl, _, Eq.trans (World.drewN_drewN _ _ _) (congrArg (World.drewN _) (Nat.add_assoc _ _ _))⟩); have p160 : 0 ≤ (x9_1 : Int) := od_; have q160 : x9_1 < (t153.length : Int) := od_; obtain ⟨ad160, e160, hx160_0⟩ := Kd.at_int (Kd.R_reads' HO_8.out).2.2 x9_1 p160 q160; cases e160; replace p160 := eq_true p160; replace q160 := eq_true q160) | (go_at_call 57; (with_reducible refine (spec_l4Bit.calls (rd t153 x9_1) x10_2 false _ A21.out).mono ?_); rintro e w' ⟨rfl, ⟨nd, rfl⟩⟩; (try first | exact ⟨rfl, _, World.drewN_drewN _ _ _⟩ | exact ⟨rfl, _, Eq.trans (World.drewN_drewN _ _ _) (congrArg (World.drewN _) (Nat.add_assoc _ _ _))⟩))))
              go_roundg k2
              case measure => have := HK1.out; have := HK2.out; omega
              case rel => exact ⟨(wrap64 (x10_2 + 1)), (by first | rfl | (simp; done) | (simp [*]; done)), H', ⟨by have := HK1.out; have := HK2.out; omega⟩, ⟨rz_ HO_8.out⟩, ⟨bz_ BK151.out⟩, ⟨by repeat (first | (with_reducible first | exact HB.out | apply below_alloc | apply pw_below_drewN | apply below_drew1 | refine below_set ?_ GE151.out) | exact HB.out)⟩⟩
            ·rw [if_neg c20] at H
             exact absurd H (by simp)
           ·rw [if_neg c18] at H
            exact absurd H (by simp)
          ·rw [if_neg c17] at H
           exact absurd H (by simp)
         ·rw [if_neg c15] at H
          exact absurd H (by simp)
        ·rw [if_neg c14] at H
         exact absurd H (by simp)
       ·rw [if_neg c13] at H
        have c13b0 : decide (x10_2 < (t153.length : Int)) = false := decide_eq_false c13
        clear c13
        have H' := Aside0.mk H
        clear H
        go_wp2
        repeat (go_quiet (fail); try go_wp2)
        go_roundg k2
        case measure => have := HK1.out; have := HK2.out; omega
        case rel => exact ⟨(wrap64 (x9_1 + 1)), (by first | rfl | (simp; done) | (simp [*]; done)), H', ⟨by have := HK1.out; have := HK2.out; omega⟩, ⟨rz_ HO_8.out⟩, ⟨bz_ BK151.out⟩, ⟨by repeat (first | (with_reducible first | exact HB.out | apply below_alloc | apply pw_below_drewN | apply below_drew1 | refine below_set ?_ GE151.out) | exact HB.out)⟩⟩
    ·rw [if_neg c11] at H
     have c11b0 : decide (x9_1 < (t153.length : Int)) = false := decide_eq_false c11
     clear c11
     simp only [Option.some.injEq, Prod.mk.injEq] at H
     obtain ⟨rfl, rfl, rfl, rfl⟩ := H
     obtain ⟨Ao29, co29, eo29⟩ := Kd.R_slice HO_8.out
     subst eo29
     go_wp2
     repeat (go_quiet (fail); try go_wp2)
     refine bodyPost_ret (results_list (rs := [.tmp 4, .tmp 5, .tmp 6, .tmp 7]) rfl (by simp) (.tmp (.tmp (.tmp (.tmp .nil))))) rfl ?_
     exact ⟨by first | rfl | (simp [errW_none, errW_some] <;> rfl) | (simp [*, errW_none, errW_some] <;> rfl), by repeat (first | (with_reducible first | exact HB.out | apply below_alloc | apply pw_below_drewN | apply below_drew1 | refine below_set ?_ GE151.out) | exact HB.out)⟩
 ·replace c4 := Bool.eq_false_iff.mpr c4
  subst c4
  have H1 : (some (0, 0, false, false)) = some (r1, r2, r3, r4) := by rw [if_neg (show ¬ (false = true) by decide)] at H; exact H
  clear H
  have H := H1
  clear H1
  simp only [Option.some.injEq, Prod.mk.injEq] at H
  obtain ⟨rfl, rfl, rfl, rfl⟩ := H
  go_enter Try.func23, Try.ntmps23
  go_wp2_with (first | ((with_reducible refine gate_dst (N := 2) rfl ?_); refine box_event ?hg (N := 2) ?hd (cs := #[.slice A0_0 l0_0.length c0_0, .slice A0_1 l0_1.length c0_1]) (t := 33) ?hr ?_; (case hd => rfl); (case hg => rfl); (case hr => first | (go_simp; done) | (go_simp; rfl)); intro gb151 hg w30 hbox hb; have n0_ := Aside0.mk (below_step (wz_ HB.out) hb); have n1_ := Aside0.mk (hbox); have n2_ := Aside0.mk ((by rw [hg]; exact (below_size (wz_ HB.out)) : w.heap.size ≤ gb151)); have n3_ := Aside0.mk ((by rw [hg]; exact (below_size (wz_ HB.out)) : w.heap.size ≤ gb151)); clear HB; have HB := n0_; have BK151 := n1_; have GW151 := n2_; have GE151 := n3_; clear n0_ n1_ n2_ n3_; clear hb hbox hg; have hcz31_0 : w30.cell? ⟨gb151, 0, none⟩ = some (.slice A0_0 l0_0.length c0_0) := (blk_cell BK151.out 0).trans rfl; have hcz31_1 : w30.cell? ⟨gb151, 1, none⟩ = some (.slice A0_1 l0_1.length c0_1) := (blk_cell BK151.out 1).trans rfl; have hfz31_0 := blk_frozen BK151.out 0; have hfz31_1 := blk_frozen BK151.out 1) | (go_at_call 43; (with_reducible refine (spec_l7Good.calls k _ _ l0_0 _ _ l0_1 _ _ l1 false _ ?side1 ?side2 ?side3 ?side4 ?side5 ?side6 A3.out).mono ?_); (case side1 => exact cz_ (Kd.C_below HR0_0.out HB.out)); (case side2 => exact HC0_0.out); (case side3 => exact cz_ (Kd.C_below HR0_1.out HB.out)); (case side4 => exact HC0_1.out); (case side5 => exact cz_ (Kd.C_below HR1.out HB.out)); (case side6 => exact HC1.out); rintro e w32 ⟨rfl, hb⟩; have n0_ := Aside0.mk (blk_below (bz_ BK151.out) hb); have n1_ := Aside0.mk (below_step (by repeat (first | (with_reducible first | exact HB.out | apply below_alloc | apply pw_below_drewN | apply below_drew1 | refine below_set ?_ GE151.out) | exact HB.out)) hb); clear BK151; clear HB; have BK151 := n0_; have HB := n1_; clear n0_ n1_; (try clear hb); (try clear hb2); (try clear hk); (try clear hi)))
  repeat (go_quiet (first | ((with_reducible refine gate_dst (N := 2) rfl ?_); refine box_event ?hg (N := 2) ?hd (cs := #[.slice A0_0 l0_0.length c0_0, .slice A0_1 l0_1.length c0_1]) (t := 33) ?hr ?_; (case hd => rfl); (case hg => rfl); (case hr => first | (go_simp; done) | (go_simp; rfl)); intro gb151 hg w30 hbox hb; have n0_ := Aside0.mk (below_step (wz_ HB.out) hb); have n1_ := Aside0.mk (hbox); have n2_ := Aside0.mk ((by rw [hg]; exact (below_size (wz_ HB.out)) : w.heap.size ≤ gb151)); have n3_ := Aside0.mk ((by rw [hg]; exact (below_size (wz_ HB.out)) : w.heap.size ≤ gb151)); clear HB; have HB := n0_; have BK151 := n1_; have GW151 := n2_; have GE151 := n3_; clear n0_ n1_ n2_ n3_; clear hb hbox hg; have hcz31_0 : w30.cell? ⟨gb151, 0, none⟩ = some (.slice A0_0 l0_0.length c0_0) := (blk_cell BK151.out 0).trans rfl; have hcz31_1 : w30.cell? ⟨gb151, 1, none⟩ = some (.slice A0_1 l0_1.length c0_1) := (blk_cell BK151.out 1).trans rfl; have hfz31_0 := blk_frozen BK151.out 0; have hfz31_1 := blk_frozen BK151.out 1) | (go_at_call 43; (with_reducible refine (spec_l7Good.calls k _ _ l0_0 _ _ l0_1 _ _ l1 false _ ?side1 ?side2 ?side3 ?side4 ?side5 ?side6 A3.out).mono ?_); (case side1 => exact cz_ (Kd.C_below HR0_0.out HB.out)); (case side2 => exact HC0_0.out); (case side3 => exact cz_ (Kd.C_below HR0_1.out HB.out)); (case side4 => exact HC0_1.out); (case side5 => exact cz_ (Kd.C_below HR1.out HB.out)); (case side6 => exact HC1.out); rintro e w32 ⟨rfl, hb⟩; have n0_ := Aside0.mk (blk_below (bz_ BK151.out) hb); have n1_ := Aside0.mk (below_step (by repeat (first | (with_reducible first | exact HB.out | apply below_alloc | apply pw_below_drewN | apply below_drew1 | refine below_set ?_ GE151.out) | exact HB.out)) hb); clear BK151; clear HB; have BK151 := n0_; have HB := n1_; clear n0_ n1_; (try clear hb); (try clear hb2); (try clear hk); (try clear hi))); try go_wp2_with (first | ((with_reducible refine gate_dst (N := 2) rfl ?_); refine box_event ?hg (N := 2) ?hd (cs := #[.slice A0_0 l0_0.length c0_0, .slice A0_1 l0_1.length c0_1]) (t := 33) ?hr ?_; (case hd => rfl); (case hg => rfl); (case hr => first | (go_simp; done) | (go_simp; rfl)); intro gb151 hg w30 hbox hb; have n0_ := Aside0.mk (below_step (wz_ HB.out) hb); have n1_ := Aside0.mk (hbox); have n2_ := Aside0.mk ((by rw [hg]; exact (below_size (wz_ HB.out)) : w.heap.size ≤ gb151)); have n3_ := Aside0.mk ((by rw [hg]; exact (below_size (wz_ HB.out)) : w.heap.size ≤ gb151)); clear HB; have HB := n0_; have BK151 := n1_; have GW151 := n2_; have GE151 := n3_; clear n0_ n1_ n2_ n3_; clear hb hbox hg; have hcz31_0 : w30.cell? ⟨gb151, 0, none⟩ = some (.slice A0_0 l0_0.length c0_0) := (blk_cell BK151.out 0).trans rfl; have hcz31_1 : w30.cell? ⟨gb151, 1, none⟩ = some (.slice A0_1 l0_1.length c0_1) := (blk_cell BK151.out 1).trans rfl; have hfz31_0 := blk_frozen BK151.out 0; have hfz31_1 := blk_frozen BK151.out 1) | (go_at_call 43; (with_reducible refine (spec_l7Good.calls k _ _ l0_0 _ _ l0_1 _ _ l1 false _ ?side1 ?side2 ?side3 ?side4 ?side5 ?side6 A3.out).mono ?_); (case side1 => exact cz_ (Kd.C_below HR0_0.out HB.out)); (case side2 => exact HC0_0.out); (case side3 => exact cz_ (Kd.C_below HR0_1.out HB.out)); (case side4 => exact HC0_1.out); (case side5 => exact cz_ (Kd.C_below HR1.out HB.out)); (case side6 => exact HC1.out); rintro e w32 ⟨rfl, hb⟩; have n0_ := Aside0.mk (blk_below (bz_ BK151.out) hb); have n1_ := Aside0.mk (below_step (by repeat (first | (with_reducible first | exact HB.out | apply below_alloc | apply pw_below_drewN | apply below_drew1 | refine below_set ?_ GE151.out) | exact HB.out)) hb); clear BK151; clear HB; have BK151 := n0_; have HB := n1_; clear n0_ n1_; (try clear hb); (try clear hb2); (try clear hk); (try clear hi))))
  refine bodyPost_ret (results_list (rs := [.tmp 4, .tmp 5, .tmp 6, .tmp 7]) rfl (by simp) (.tmp (.tmp (.tmp (.tmp .nil))))) rfl ?_
  exact ⟨by first | rfl | (simp [errW_none, errW_some] <;> rfl) | (simp [*, errW_none, errW_some] <;> rfl), by repeat (first | (with_reducible first | exact HB.out | apply below_alloc | apply pw_below_drewN | apply below_drew1 | refine below_set ?_ GE151.out) | exact HB.out)⟩

end Go.Proofs.Ytenphfagdpkjaaa.Q

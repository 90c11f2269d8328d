-- Written by a program of this session (wip/xprint.py over the kit's printer).
import Derived.Test.YtenphfagdpkjaaaQ0
import Derived.Test.YtenphfagdpkjaaaQF43
import Derived.Test.YtenphfagdpkjaaaQF56
import Derived.Test.YtenphfagdpkjaaaQF57
import Derived.Test.YtenphfagdpkjaaaQF58
import Derived.Test.YtenphfagdpkjaaaQV1
namespace Go.Proofs.Ytenphfagdpkjaaa.Q
open Go.RowKit Go.Proofs.YtenphfagdpkjaaaW.PrintWords Go.Proofs.YtenphfagdpkjaaaW.PrintLast
set_option linter.unusedVariables false
set_option linter.unusedSimpArgs false

/-! ### spec_SpreadOf: function 21 -/
mutual
def spec_SpreadOf.j0 : Nat → List (S64) → Int → Bool → List (S77) → List (S91) → Option (Int × Bool)
 | 0, _, _, _, _, _ => none
 | k + 1, x1, x2, x23, x152000, x152001 => if x23 = true then (some (0, false)) else ((spec_l4Later.f k x152000 x152001).bind fun t154 => (spec_SpreadOf.l0 k x1 x2 t154 0 0 x152000 x152001))
def spec_SpreadOf.l0 : Nat → List (S64) → Int → List Int → Int → Int → List (S77) → List (S91) → Option (Int × Bool)
 | 0, _, _, _, _, _, _, _ => none
 | k + 1, x1, x2, x8, x9, x10, x152000, x152001 => if x10 < (x8.length : Int) then (spec_SpreadOf.l1 k x1 x2 x8 x9 x10 0 x152000 x152001) else (some (x9, true))
def spec_SpreadOf.l1 : Nat → List (S64) → Int → List Int → Int → Int → Int → List (S77) → List (S91) → Option (Int × Bool)
 | 0, _, _, _, _, _, _, _, _ => none
 | k + 1, x1, x2, x8, x9, x10, x11, x152000, x152001 => if x11 < (x8.length : Int) then (if 0 ≤ x10 then (if x10 < (x8.length : Int) then ((spec_l4Bit.f (rd x8 x10) x11).bind fun t158 => (if t158 = true then (if 0 ≤ x2 then (if x2 < (x1.length : Int) then (if x10 < (x152000.length : Int) then ((spec_l1Has.f k ((rd_T64 x1 x2).f1) ((rd_T77 x152000 x10).f0)).bind fun t161 => (if t161 = true then (if 0 ≤ x11 then (if x11 < (x152000.length : Int) then ((spec_l1Has.f k ((rd_T64 x1 x2).f1) ((rd_T77 x152000 x11).f0)).bind fun t164 => (if t164 = true then (spec_SpreadOf.l1 k x1 x2 x8 (wrap64 (x9 + 1)) x10 (wrap64 (x11 + 1)) x152000 x152001) else (spec_SpreadOf.l1 k x1 x2 x8 x9 x10 (wrap64 (x11 + 1)) x152000 x152001))) else (none)) else (none)) else (spec_SpreadOf.l1 k x1 x2 x8 x9 x10 (wrap64 (x11 + 1)) x152000 x152001))) else (none)) else (none)) else (none)) else (spec_SpreadOf.l1 k x1 x2 x8 x9 x10 (wrap64 (x11 + 1)) x152000 x152001))) else (none)) else (none)) else (spec_SpreadOf.l0 k x1 x2 x8 x9 (wrap64 (x10 + 1)) x152000 x152001)
end
def spec_SpreadOf.f (k : Nat) (l0_0 : List (S77)) (l0_1 : List (S91)) (l1 : List (S64)) (a2 : Int) : Option (Int × Bool) := (spec_l7Good.f k l0_0 l0_1 l1).bind fun t152 => (if t152 = true then ((spec_l1In.f a2 0 (wrap64 ((l1.length : Int) - 1))).bind fun t153 => (spec_SpreadOf.j0 k l1 a2 (!t153) l0_0 l0_1)) else (spec_SpreadOf.j0 k l1 a2 true l0_0 l0_1))
theorem spec_SpreadOf.mono_l : ∀ k, (∀ y0 y1 y2 y3 y4, LeO (spec_SpreadOf.j0 k y0 y1 y2 y3 y4) (spec_SpreadOf.j0 (k + 1) y0 y1 y2 y3 y4)) ∧ (∀ y0 y1 y2 y3 y4 y5 y6, LeO (spec_SpreadOf.l0 k y0 y1 y2 y3 y4 y5 y6) (spec_SpreadOf.l0 (k + 1) y0 y1 y2 y3 y4 y5 y6)) ∧ (∀ y0 y1 y2 y3 y4 y5 y6 y7, LeO (spec_SpreadOf.l1 k y0 y1 y2 y3 y4 y5 y6 y7) (spec_SpreadOf.l1 (k + 1) y0 y1 y2 y3 y4 y5 y6 y7))
 | 0 => ⟨fun _ _ _ _ _ r h => by simp [spec_SpreadOf.j0] at h, fun _ _ _ _ _ _ _ r h => by simp [spec_SpreadOf.l0] at h, fun _ _ _ _ _ _ _ _ r h => by simp [spec_SpreadOf.l1] at h⟩
 | k + 1 => by
  obtain ⟨ih0, ih1, ih2⟩ := spec_SpreadOf.mono_l k
  refine ⟨?_, ?_, ?_⟩
  ·intro y0 y1 y2 y3 y4
   unfold spec_SpreadOf.j0
   repeat' first
   | (with_reducible exact ih0 _ _ _ _ _)
   | (with_reducible exact ih1 _ _ _ _ _ _ _)
   | (with_reducible exact ih2 _ _ _ _ _ _ _ _)
   | (with_reducible exact spec_l1Has.mono _ _ _)
   | (with_reducible exact spec_l4Later.mono _ _ _)
   | (with_reducible exact spec_l7Good.mono _ _ _ _)
   | (with_reducible exact LeO.refl _)
   | (with_reducible exact LeO.none _)
   | (with_reducible refine LeO.ite ?_ ?_)
   | (with_reducible refine LeO.bind ?_ (fun _ => ?_))
   | exact ih0 _ _ _ _ _
   | exact ih1 _ _ _ _ _ _ _
   | exact ih2 _ _ _ _ _ _ _ _
   | exact spec_l1Has.mono _ _ _
   | exact spec_l4Later.mono _ _ _
   | exact spec_l7Good.mono _ _ _ _
   | exact LeO.none _
   | refine LeO.ite ?_ ?_
   | refine LeO.bind ?_ (fun _ => ?_)
  ·intro y0 y1 y2 y3 y4 y5 y6
   unfold spec_SpreadOf.l0
   repeat' first
   | (with_reducible exact ih0 _ _ _ _ _)
   | (with_reducible exact ih1 _ _ _ _ _ _ _)
   | (with_reducible exact ih2 _ _ _ _ _ _ _ _)
   | (with_reducible exact spec_l1Has.mono _ _ _)
   | (with_reducible exact spec_l4Later.mono _ _ _)
   | (with_reducible exact spec_l7Good.mono _ _ _ _)
   | (with_reducible exact LeO.refl _)
   | (with_reducible exact LeO.none _)
   | (with_reducible refine LeO.ite ?_ ?_)
   | (with_reducible refine LeO.bind ?_ (fun _ => ?_))
   | exact ih0 _ _ _ _ _
   | exact ih1 _ _ _ _ _ _ _
   | exact ih2 _ _ _ _ _ _ _ _
   | exact spec_l1Has.mono _ _ _
   | exact spec_l4Later.mono _ _ _
   | exact spec_l7Good.mono _ _ _ _
   | exact LeO.none _
   | refine LeO.ite ?_ ?_
   | refine LeO.bind ?_ (fun _ => ?_)
  ·intro y0 y1 y2 y3 y4 y5 y6 y7
   unfold spec_SpreadOf.l1
   repeat' first
   | (with_reducible exact ih0 _ _ _ _ _)
   | (with_reducible exact ih1 _ _ _ _ _ _ _)
   | (with_reducible exact ih2 _ _ _ _ _ _ _ _)
   | (with_reducible exact spec_l1Has.mono _ _ _)
   | (with_reducible exact spec_l4Later.mono _ _ _)
   | (with_reducible exact spec_l7Good.mono _ _ _ _)
   | (with_reducible exact LeO.refl _)
   | (with_reducible exact LeO.none _)
   | (with_reducible refine LeO.ite ?_ ?_)
   | (with_reducible refine LeO.bind ?_ (fun _ => ?_))
   | exact ih0 _ _ _ _ _
   | exact ih1 _ _ _ _ _ _ _
   | exact ih2 _ _ _ _ _ _ _ _
   | exact spec_l1Has.mono _ _ _
   | exact spec_l4Later.mono _ _ _
   | exact spec_l7Good.mono _ _ _ _
   | exact LeO.none _
   | refine LeO.ite ?_ ?_
   | refine LeO.bind ?_ (fun _ => ?_)
theorem spec_SpreadOf.mono : ∀ a0 a1 a2 a3 k, LeO (spec_SpreadOf.f k a0 a1 a2 a3) (spec_SpreadOf.f (k + 1) a0 a1 a2 a3) := by
 intro a0 a1 a2 a3 k
 obtain ⟨ih0, ih1, ih2⟩ := spec_SpreadOf.mono_l k
 unfold spec_SpreadOf.f
 repeat' first
   | (with_reducible exact ih0 _ _ _ _ _)
   | (with_reducible exact ih1 _ _ _ _ _ _ _)
   | (with_reducible exact ih2 _ _ _ _ _ _ _ _)
   | (with_reducible exact spec_l1Has.mono _ _ _)
   | (with_reducible exact spec_l4Later.mono _ _ _)
   | (with_reducible exact spec_l7Good.mono _ _ _ _)
   | (with_reducible exact LeO.refl _)
   | (with_reducible exact LeO.none _)
   | (with_reducible refine LeO.ite ?_ ?_)
   | (with_reducible refine LeO.bind ?_ (fun _ => ?_))
   | exact ih0 _ _ _ _ _
   | exact ih1 _ _ _ _ _ _ _
   | exact ih2 _ _ _ _ _ _ _ _
   | exact spec_l1Has.mono _ _ _
   | exact spec_l4Later.mono _ _ _
   | exact spec_l7Good.mono _ _ _ _
   | exact LeO.none _
   | refine LeO.ite ?_ ?_
   | refine LeO.bind ?_ (fun _ => ?_)
def spec_SpreadOf.T11 : Bool × List (List Nat × List Nat) := (true, [([], []), ([], []), ([0, 1], [0, 1]), ([2], [2]), ([], []), ([3, 4], [3, 4]), ([5, 5], [5]), ([6], [6]), ([6], [6]), ([7, 8, 6], [6, 7, 8]), ([9, 6], [6, 9]), ([10, 6], [6, 10]), ([6], [6]), ([12, 6], [6, 12]), ([6], [6]), ([13, 14, 6], [6, 13, 14]), ([15, 6], [6, 15]), ([16, 6], [6, 16]), ([11, 17, 6, 6], [6, 11, 17]), ([6, 18], [6, 18]), ([19, 18], [19]), ([20], [20]), ([20], [20]), ([21, 22, 20], [20, 21, 22]), ([23, 20], [20, 23]), ([24, 20], [20, 24]), ([20], [20]), ([26, 20], [20, 26]), ([20], [20]), ([27, 28, 20], [20, 27, 28]), ([29, 20], [20, 29]), ([30, 20], [20, 30]), ([25, 31, 20, 20], [20, 25, 31]), ([20, 32], [20, 32])])
def spec_SpreadOf.B11 : List Nat := [0, 0, 3, 7, 0, 31, 63, 127, 127, 511, 1023, 2047, 127, 4223, 127, 28799, 61567, 127103, 262143, 524287, 1048575, 2097151, 2097151, 8388607, 16777215, 33554431, 2097151, 69206015, 2097151, 471859199, 1008730111, 2082471935, 4294967295, 8589934591]
theorem spec_SpreadOf.tab11 : rtab .any (opsOf Try.f21 11) = spec_SpreadOf.T11 := by kernel_rfl
theorem spec_SpreadOf.bits11 : waitsOk spec_SpreadOf.T11.2 spec_SpreadOf.B11 = true := by kernel_rfl
set_option maxHeartbeats 8000000 in
set_option maxRecDepth 100000 in
theorem spec_SpreadOf.calls (k : Nat) (A0_0 : Option Addr) (c0_0 : Nat) (l0_0 : List (S77)) (A0_1 : Option Addr) (c0_1 : Nat) (l0_1 : List (S91)) (A1 : Option Addr) (c1 : Nat) (l1 : List (S64)) (a2 : Int) (r1 : Int) (r2 : Bool) (w : World) (hr0_0 : Kd.C k77 w A0_0 l0_0.length l0_0) (hc0_0 : l0_0.length ≤ c0_0) (hr0_1 : Kd.C k91 w A0_1 l0_1.length l0_1) (hc0_1 : l0_1.length ≤ c0_1) (hr1 : Kd.C k64 w A1 l1.length l1) (hc1 : l1.length ≤ c1) (h : spec_SpreadOf.f k l0_0 l0_1 l1 a2 = some (r1, r2)) :
  Calls Try.prog 21 #[.agg #[.slice A0_0 l0_0.length c0_0, .slice A0_1 l0_1.length c0_1], .slice A1 l1.length c1, .int .i64 a2] w fun e w' => e = .returned (.tuple #[.int .i64 r1, .bool r2]) ∧ Below w.heap.size w w' := by
 have hu33 := Try.underlying33
 have HR0_0 := Aside0.mk hr0_0
 have HC0_0 := Aside0.mk hc0_0
 clear hr0_0 hc0_0
 have HR0_1 := Aside0.mk hr0_1
 have HC0_1 := Aside0.mk hc0_1
 clear hr0_1 hc0_1
 have HR1 := Aside0.mk hr1
 have HC1 := Aside0.mk hc1
 clear hr1 hc1
 have HB := Aside0.mk (Below.refl w.heap.size w)
 have H : ((spec_l7Good.f k l0_0 l0_1 l1).bind fun t152 => (if t152 = true then ((spec_l1In.f a2 0 (wrap64 ((l1.length : Int) - 1))).bind fun t153 => (spec_SpreadOf.j0 k l1 a2 (!t153) l0_0 l0_1)) else (spec_SpreadOf.j0 k l1 a2 true l0_0 l0_1))) = some (r1, r2) := h
 clear h
 have HC4 := Aside0.mk H
 clear H
 go_enter Try.func21, Try.ntmps21
 go_upto_region 1 with (first | ((with_reducible refine gate_dst (N := 3) rfl ?_); refine box_event ?hg (N := 3) ?hd (cs := #[.slice A0_0 l0_0.length c0_0, .slice A0_1 l0_1.length c0_1]) (t := 33) ?hr ?_; (case hd => rfl); (case hg => rfl); (case hr => first | (go_simp; done) | (go_simp; rfl)); intro gb151 hg w5 hbox hb; have n0_ := Aside0.mk (below_step (wz_ HB.out) hb); have n1_ := Aside0.mk (hbox); have n2_ := Aside0.mk ((by rw [hg]; exact (below_size (wz_ HB.out)) : w.heap.size ≤ gb151)); have n3_ := Aside0.mk ((by rw [hg]; exact (below_size (wz_ HB.out)) : w.heap.size ≤ gb151)); clear HB; have HB := n0_; have BK151 := n1_; have GW151 := n2_; have GE151 := n3_; clear n0_ n1_ n2_ n3_; clear hb hbox hg))
 (try simp only [Act.put, List.setIfInBounds_toArray, List.set_cons_zero, List.set_cons_succ])
 go_cut [23] (fun v23 wc => ∃ (kq : Nat) (x23_3 : Bool), v23 = .bool x23_3 ∧ Aside0 (spec_SpreadOf.j0 kq l1 a2 x23_3 l0_0 l0_1 = some (r1, r2)) ∧ Aside0 (kq ≤ k) ∧ Aside0 (wc.heap[gb151]? = some (.cells #[(.slice A0_0 l0_0.length c0_0), (.slice A0_1 l0_1.length c0_1)] 33 (0, 0))) ∧ Aside0 (Below w.heap.size w wc))
 case first =>
  have H := HC4.out
  clear HC4
  replace H := Option.bind_eq_some_iff.mp H
  obtain ⟨t152, A60, H⟩ := H
  replace H : (if t152 = true then ((spec_l1In.f a2 0 (wrap64 ((l1.length : Int) - 1))).bind fun t153 => (spec_SpreadOf.j0 k l1 a2 (!t153) l0_0 l0_1)) else (spec_SpreadOf.j0 k l1 a2 true l0_0 l0_1)) = some (r1, r2) := H
  have A6 := Aside0.mk A60
  clear A60
  by_cases c7 : t152 = true
  ·subst c7
   have H1 : ((spec_l1In.f a2 0 (wrap64 ((l1.length : Int) - 1))).bind fun t153 => (spec_SpreadOf.j0 k l1 a2 (!t153) l0_0 l0_1)) = some (r1, r2) := by rw [if_pos rfl] at H; exact H
   clear H
   have H := H1
   clear H1
   replace H := Option.bind_eq_some_iff.mp H
   obtain ⟨t153, A80, H⟩ := H
   replace H : (spec_SpreadOf.j0 k l1 a2 (!t153) l0_0 l0_1) = some (r1, r2) := H
   have A8 := Aside0.mk A80
   clear A80
   have H' := Aside0.mk H
   clear H
   have hcz9_0 : w5.cell? ⟨gb151, 0, none⟩ = some (.slice A0_0 l0_0.length c0_0) := (blk_cell BK151.out 0).trans rfl
   have hcz9_1 : w5.cell? ⟨gb151, 1, none⟩ = some (.slice A0_1 l0_1.length c0_1) := (blk_cell BK151.out 1).trans rfl
   have hfz9_0 := blk_frozen BK151.out 0
   have hfz9_1 := blk_frozen BK151.out 1
   go_wp2_with (first | ((with_reducible refine gate_callee (f := 43) rfl ?_); refine goesL_ (some 14) rfl rfl Try.func43 (by kernel_rfl) rfl #[.agg #[.slice A0_0 l0_0.length c0_0, .slice A0_1 l0_1.length c0_1], .slice A1 l1.length c1] rfl (by (try simp only [List.map_toArray, List.map_cons, List.map_nil]); first | done | rfl | (simp only [List.length_drop, List.length_take]; rfl)) ?_; (with_reducible refine (spec_l7Good.calls k _ _ l0_0 _ _ l0_1 _ _ l1 true _ ?side1 ?side2 ?side3 ?side4 ?side5 ?side6 A6.out).mono ?_); (case side1 => exact cz_ (Kd.C_below HR0_0.out HB.out)); (case side2 => exact HC0_0.out); (case side3 => exact cz_ (Kd.C_below HR0_1.out HB.out)); (case side4 => exact HC0_1.out); (case side5 => exact cz_ (Kd.C_below HR1.out HB.out)); (case side6 => exact HC1.out); rintro e w10 ⟨rfl, hb⟩; refine ⟨_, rfl, ?_⟩; have n0_ := Aside0.mk (blk_below (bz_ BK151.out) hb); have n1_ := Aside0.mk (below_step (by repeat (first | (with_reducible first | exact HB.out | apply below_alloc | apply pw_below_drewN | apply below_drew1 | refine below_set ?_ GE151.out) | exact HB.out)) hb); clear BK151; clear HB; have BK151 := n0_; have HB := n1_; clear n0_ n1_; (try clear hb); (try clear hb2); (try clear hk); (try clear hi)) | (go_at_call 55; (with_reducible refine (spec_l1In.calls a2 0 (wrap64 ((l1.length : Int) - 1)) t153 _ A8.out).mono ?_); rintro e w' ⟨rfl, ⟨nd, rfl⟩⟩))
   go_meet
   case rel => exact ⟨_, (!t153), (by first | rfl | (simp; done) | (simp [*]; done)), H', ⟨by first | omega | exact Nat.le_refl _⟩, ⟨bz_ BK151.out⟩, ⟨by repeat (first | (with_reducible first | exact HB.out | apply below_alloc | apply pw_below_drewN | apply below_drew1 | refine below_set ?_ GE151.out) | exact HB.out)⟩⟩
  ·replace c7 := Bool.eq_false_iff.mpr c7
   subst c7
   have H1 : (spec_SpreadOf.j0 k l1 a2 true l0_0 l0_1) = some (r1, r2) := by rw [if_neg (show ¬ (false = true) by decide)] at H; exact H
   clear H
   have H := H1
   clear H1
   have H' := Aside0.mk H
   clear H
   have hcz11_0 : w5.cell? ⟨gb151, 0, none⟩ = some (.slice A0_0 l0_0.length c0_0) := (blk_cell BK151.out 0).trans rfl
   have hcz11_1 : w5.cell? ⟨gb151, 1, none⟩ = some (.slice A0_1 l0_1.length c0_1) := (blk_cell BK151.out 1).trans rfl
   have hfz11_0 := blk_frozen BK151.out 0
   have hfz11_1 := blk_frozen BK151.out 1
   go_wp2_with (first | ((with_reducible refine gate_callee (f := 43) rfl ?_); refine goesL_ (some 14) rfl rfl Try.func43 (by kernel_rfl) rfl #[.agg #[.slice A0_0 l0_0.length c0_0, .slice A0_1 l0_1.length c0_1], .slice A1 l1.length c1] rfl (by (try simp only [List.map_toArray, List.map_cons, List.map_nil]); first | done | rfl | (simp only [List.length_drop, List.length_take]; rfl)) ?_; (with_reducible refine (spec_l7Good.calls k _ _ l0_0 _ _ l0_1 _ _ l1 false _ ?side1 ?side2 ?side3 ?side4 ?side5 ?side6 A6.out).mono ?_); (case side1 => exact cz_ (Kd.C_below HR0_0.out HB.out)); (case side2 => exact HC0_0.out); (case side3 => exact cz_ (Kd.C_below HR0_1.out HB.out)); (case side4 => exact HC0_1.out); (case side5 => exact cz_ (Kd.C_below HR1.out HB.out)); (case side6 => exact HC1.out); rintro e w12 ⟨rfl, hb⟩; refine ⟨_, rfl, ?_⟩; have n0_ := Aside0.mk (blk_below (bz_ BK151.out) hb); have n1_ := Aside0.mk (below_step (by repeat (first | (with_reducible first | exact HB.out | apply below_alloc | apply pw_below_drewN | apply below_drew1 | refine below_set ?_ GE151.out) | exact HB.out)) hb); clear BK151; clear HB; have BK151 := n0_; have HB := n1_; clear n0_ n1_; (try clear hb); (try clear hb2); (try clear hk); (try clear hi)))
   go_meet
   case rel => exact ⟨_, (true), (by first | rfl | (simp; done) | (simp [*]; done)), H', ⟨by first | omega | exact Nat.le_refl _⟩, ⟨bz_ BK151.out⟩, ⟨by repeat (first | (with_reducible first | exact HB.out | apply below_alloc | apply pw_below_drewN | apply below_drew1 | refine below_set ?_ GE151.out) | exact HB.out)⟩⟩
 case rest =>
  clear HC4
  try clear c1
  try clear c2
  try clear p2
  try clear c4
  try clear p6
  try clear c7
  try clear hcz11_0
  try clear hcz11_1
  try clear hcz9_0
  try clear hcz9_1
  try clear hfz11_0
  try clear hfz11_1
  try clear hfz9_0
  try clear hfz9_1
  obtain ⟨kq, x23_3, rfl, HA, HJ3, BK151, HB⟩ := hcut
  cases kq with
  | zero => exact absurd HA.out (by simp [spec_SpreadOf.j0])
  | succ kj3 =>
   have H := HA.out
   clear HA
   simp only [spec_SpreadOf.j0] at H
   by_cases c13 : x23_3 = true
   ·subst c13
    have H1 : (some (0, false)) = some (r1, r2) := by rw [if_pos rfl] at H; exact H
    clear H
    have H := H1
    clear H1
    simp only [Option.some.injEq, Prod.mk.injEq] at H
    obtain ⟨rfl, rfl⟩ := H
    go_wp2
    go_ret2
    exact ⟨by first | rfl | (simp [errW_none, errW_some] <;> rfl) | (simp [*, errW_none, errW_some] <;> rfl), by repeat (first | (with_reducible first | exact HB.out | apply below_alloc | apply pw_below_drewN | apply below_drew1 | refine below_set ?_ GE151.out) | exact HB.out)⟩
   ·replace c13 := Bool.eq_false_iff.mpr c13
    subst c13
    have H1 : ((spec_l4Later.f kj3 l0_0 l0_1).bind fun t154 => (spec_SpreadOf.l0 kj3 l1 a2 t154 0 0 l0_0 l0_1)) = some (r1, r2) := by rw [if_neg (show ¬ (false = true) by decide)] at H; exact H
    clear H
    have H := H1
    clear H1
    replace H := Option.bind_eq_some_iff.mp H
    obtain ⟨t154, A140, H⟩ := H
    replace H : (spec_SpreadOf.l0 kj3 l1 a2 t154 0 0 l0_0 l0_1) = some (r1, r2) := H
    have A14 := Aside0.mk A140
    clear A140
    have H' := Aside0.mk H
    clear H
    have hcz15_0 : wc.cell? ⟨gb151, 0, none⟩ = some (.slice A0_0 l0_0.length c0_0) := (blk_cell BK151.out 0).trans rfl
    have hcz15_1 : wc.cell? ⟨gb151, 1, none⟩ = some (.slice A0_1 l0_1.length c0_1) := (blk_cell BK151.out 1).trans rfl
    have hfz15_0 := blk_frozen BK151.out 0
    have hfz15_1 := blk_frozen BK151.out 1
    go_wp2_with (first | ((with_reducible refine gate_callee (f := 56) rfl ?_); refine goesL_ (some 25) rfl rfl Try.func56 (by kernel_rfl) rfl #[.agg #[.slice A0_0 l0_0.length c0_0, .slice A0_1 l0_1.length c0_1]] rfl (by (try simp only [List.map_toArray, List.map_cons, List.map_nil]); first | done | rfl | (simp only [List.length_drop, List.length_take]; rfl)) ?_; (with_reducible refine (spec_l4Later.calls kj3 _ _ l0_0 _ _ l0_1 t154 _ ?side1 ?side2 ?side3 ?side4 A14.out).mono ?_); (case side1 => exact cz_ (Kd.C_below HR0_0.out HB.out)); (case side2 => exact HC0_0.out); (case side3 => exact cz_ (Kd.C_below HR0_1.out HB.out)); (case side4 => exact HC0_1.out); rintro e w16 ⟨v155, rfl, ho0, hb⟩; refine ⟨_, rfl, ?_⟩; have n0_ := Aside0.mk (Kd.R_lower ho0 (below_size (by repeat (first | (with_reducible first | exact HB.out | apply below_alloc | apply pw_below_drewN | apply below_drew1 | refine below_set ?_ GE151.out) | exact HB.out)))); have n1_ := Aside0.mk (blk_below (bz_ BK151.out) hb); have n2_ := Aside0.mk (below_step (by repeat (first | (with_reducible first | exact HB.out | apply below_alloc | apply pw_below_drewN | apply below_drew1 | refine below_set ?_ GE151.out) | exact HB.out)) hb); clear BK151; clear HB; have HO156 := n0_; have BK151 := n1_; have HB := n2_; clear n0_ n1_ n2_; (try clear hb); (try clear hb2); (try clear hk); (try clear hi); (try clear ho0)))
    go_loopg [9, 10] kj3 (fun kq v9 v10 w' => ∃ (x9_2 : Int) (x10_2 : Int), v9 = .int .i64 x9_2 ∧ v10 = .int .i64 x10_2 ∧ Aside0 (spec_SpreadOf.l0 kq l1 a2 t154 x9_2 x10_2 l0_0 l0_1 = some (r1, r2)) ∧ Aside0 (kq ≤ kj3) ∧ Aside0 (Kd.R (Kd.int .i64) 3 w' w.heap.size (fun _ => True) v155 t154) ∧ Aside0 (w'.heap[gb151]? = some (.cells #[(.slice A0_0 l0_0.length c0_0), (.slice A0_1 l0_1.length c0_1)] 33 (0, 0))) ∧ Aside0 (Below w.heap.size w w'))
    case atStart => exact ⟨(0), (0), (by first | rfl | (simp; done) | (simp [*]; done)), (by first | rfl | (simp; done) | (simp [*]; done)), H', ⟨Nat.le_refl _⟩, ⟨rz_ HO156.out⟩, ⟨bz_ BK151.out⟩, ⟨by repeat (first | (with_reducible first | exact HB.out | apply below_alloc | apply pw_below_drewN | apply below_drew1 | refine below_set ?_ GE151.out) | exact HB.out)⟩⟩
    case round =>
     clear H'
     try clear c1
     try clear c2
     try clear p2
     try clear c4
     try clear c5
     try clear p6
     try clear c7
     try clear c13
     try clear hcz11_0
     try clear hcz11_1
     try clear hcz15_0
     try clear hcz15_1
     try clear hcz9_0
     try clear hcz9_1
     try clear hfz11_0
     try clear hfz11_1
     try clear hfz15_0
     try clear hfz15_1
     try clear hfz9_0
     try clear hfz9_1
     try clear p2
     try clear p6
     obtain ⟨x9_2, x10_2, rfl, rfl, HA, HK2, HO_8, BK151, HB⟩ := hrel
     cases gk with
     | zero => exact absurd HA.out (by simp [spec_SpreadOf.l0])
     | succ k2 =>
      have H := HA.out
      clear HA
      simp only [spec_SpreadOf.l0] at H
      by_cases c17 : x10_2 < (t154.length : Int)
      ·rw [if_pos c17] at H
       have c17b0 : decide (x10_2 < (t154.length : Int)) = true := decide_eq_true c17
       clear c17
       have H' := Aside0.mk H
       clear H
       obtain ⟨Ao18, co18, eo18⟩ := Kd.R_slice HO_8.out
       subst eo18
       go_wp2
       go_loopg [9, 11] k2 (fun kq v9 v11 w' => ∃ (x9_3 : Int) (x11_3 : Int), v9 = .int .i64 x9_3 ∧ v11 = .int .i64 x11_3 ∧ Aside0 (spec_SpreadOf.l1 kq l1 a2 t154 x9_3 x10_2 x11_3 l0_0 l0_1 = some (r1, r2)) ∧ Aside0 (kq ≤ k2) ∧ Aside0 (Kd.R (Kd.int .i64) 3 w' w.heap.size (fun _ => True) (.slice Ao18 t154.length co18) t154) ∧ Aside0 (w'.heap[gb151]? = some (.cells #[(.slice A0_0 l0_0.length c0_0), (.slice A0_1 l0_1.length c0_1)] 33 (0, 0))) ∧ Aside0 (Below w.heap.size w w'))
       case atStart => exact ⟨(x9_2), (0), (by first | rfl | (simp; done) | (simp [*]; done)), (by first | rfl | (simp; done) | (simp [*]; done)), H', ⟨Nat.le_refl _⟩, ⟨rz_ HO_8.out⟩, ⟨bz_ BK151.out⟩, ⟨by repeat (first | (with_reducible first | exact HB.out | apply below_alloc | apply pw_below_drewN | apply below_drew1 | refine below_set ?_ GE151.out) | exact HB.out)⟩⟩
       case round =>
        clear H'
        try clear c1
        try clear c2
        try clear p2
        try clear c4
        try clear c5
        try clear p6
        try clear c7
        try clear c13
        try clear c17
        try clear c17b0
        try clear hcz11_0
        try clear hcz11_1
        try clear hcz15_0
        try clear hcz15_1
        try clear hcz9_0
        try clear hcz9_1
        try clear hfz11_0
        try clear hfz11_1
        try clear hfz15_0
        try clear hfz15_1
        try clear hfz9_0
        try clear hfz9_1
        try clear p2
        try clear p6
        obtain ⟨x9_3, x11_3, rfl, rfl, HA, HK3, HO_8, BK151, HB⟩ := hrel
        cases gk with
        | zero => exact absurd HA.out (by simp [spec_SpreadOf.l1])
        | succ k3 =>
         have H := HA.out
         clear HA
         simp only [spec_SpreadOf.l1] at H
         by_cases c19 : x11_3 < (t154.length : Int)
         ·rw [if_pos c19] at H
          have c19b0 : decide (x11_3 < (t154.length : Int)) = true := decide_eq_true c19
          clear c19
          by_cases c20 : 0 ≤ x10_2
          ·rw [if_pos c20] at H
           have c20b0 : decide (0 ≤ x10_2) = true := decide_eq_true c20
           clear c20
           by_cases c21 : x10_2 < (t154.length : Int)
           ·rw [if_pos c21] at H
            have c21b0 : decide (x10_2 < (t154.length : Int)) = true := decide_eq_true c21
            clear c21
            replace H := Option.bind_eq_some_iff.mp H
            obtain ⟨t158, A220, H⟩ := H
            replace H : (if t158 = true then (if 0 ≤ a2 then (if a2 < (l1.length : Int) then (if x10_2 < (l0_0.length : Int) then ((spec_l1Has.f k3 ((rd_T64 l1 a2).f1) ((rd_T77 l0_0 x10_2).f0)).bind fun t161 => (if t161 = true then (if 0 ≤ x11_3 then (if x11_3 < (l0_0.length : Int) then ((spec_l1Has.f k3 ((rd_T64 l1 a2).f1) ((rd_T77 l0_0 x11_3).f0)).bind fun t164 => (if t164 = true then (spec_SpreadOf.l1 k3 l1 a2 t154 (wrap64 (x9_3 + 1)) x10_2 (wrap64 (x11_3 + 1)) l0_0 l0_1) else (spec_SpreadOf.l1 k3 l1 a2 t154 x9_3 x10_2 (wrap64 (x11_3 + 1)) l0_0 l0_1))) else (none)) else (none)) else (spec_SpreadOf.l1 k3 l1 a2 t154 x9_3 x10_2 (wrap64 (x11_3 + 1)) l0_0 l0_1))) else (none)) else (none)) else (none)) else (spec_SpreadOf.l1 k3 l1 a2 t154 x9_3 x10_2 (wrap64 (x11_3 + 1)) l0_0 l0_1)) = some (r1, r2) := H
            have A22 := Aside0.mk A220
            clear A220
            by_cases c23 : t158 = true
            ·subst c23
             have H1 : (if 0 ≤ a2 then (if a2 < (l1.length : Int) then (if x10_2 < (l0_0.length : Int) then ((spec_l1Has.f k3 ((rd_T64 l1 a2).f1) ((rd_T77 l0_0 x10_2).f0)).bind fun t161 => (if t161 = true then (if 0 ≤ x11_3 then (if x11_3 < (l0_0.length : Int) then ((spec_l1Has.f k3 ((rd_T64 l1 a2).f1) ((rd_T77 l0_0 x11_3).f0)).bind fun t164 => (if t164 = true then (spec_SpreadOf.l1 k3 l1 a2 t154 (wrap64 (x9_3 + 1)) x10_2 (wrap64 (x11_3 + 1)) l0_0 l0_1) else (spec_SpreadOf.l1 k3 l1 a2 t154 x9_3 x10_2 (wrap64 (x11_3 + 1)) l0_0 l0_1))) else (none)) else (none)) else (spec_SpreadOf.l1 k3 l1 a2 t154 x9_3 x10_2 (wrap64 (x11_3 + 1)) l0_0 l0_1))) else (none)) else (none)) else (none)) = some (r1, r2) := by rw [if_pos rfl] at H; exact H
             clear H
             have H := H1
             clear H1
             by_cases c24 : 0 ≤ a2
             ·rw [if_pos c24] at H
              have c24b0 : decide (0 ≤ a2) = true := decide_eq_true c24
              clear c24
              by_cases c25 : a2 < (l1.length : Int)
              ·rw [if_pos c25] at H
               have c25b0 : decide (a2 < (l1.length : Int)) = true := decide_eq_true c25
               clear c25
               by_cases c26 : x10_2 < (l0_0.length : Int)
               ·rw [if_pos c26] at H
                have c26b0 : decide (x10_2 < (l0_0.length : Int)) = true := decide_eq_true c26
                clear c26
                replace H := Option.bind_eq_some_iff.mp H
                obtain ⟨t161, A270, H⟩ := H
                replace H : (if t161 = true then (if 0 ≤ x11_3 then (if x11_3 < (l0_0.length : Int) then ((spec_l1Has.f k3 ((rd_T64 l1 a2).f1) ((rd_T77 l0_0 x11_3).f0)).bind fun t164 => (if t164 = true then (spec_SpreadOf.l1 k3 l1 a2 t154 (wrap64 (x9_3 + 1)) x10_2 (wrap64 (x11_3 + 1)) l0_0 l0_1) else (spec_SpreadOf.l1 k3 l1 a2 t154 x9_3 x10_2 (wrap64 (x11_3 + 1)) l0_0 l0_1))) else (none)) else (none)) else (spec_SpreadOf.l1 k3 l1 a2 t154 x9_3 x10_2 (wrap64 (x11_3 + 1)) l0_0 l0_1)) = some (r1, r2) := H
                have A27 := Aside0.mk A270
                clear A270
                by_cases c28 : t161 = true
                ·subst c28
                 have H1 : (if 0 ≤ x11_3 then (if x11_3 < (l0_0.length : Int) then ((spec_l1Has.f k3 ((rd_T64 l1 a2).f1) ((rd_T77 l0_0 x11_3).f0)).bind fun t164 => (if t164 = true then (spec_SpreadOf.l1 k3 l1 a2 t154 (wrap64 (x9_3 + 1)) x10_2 (wrap64 (x11_3 + 1)) l0_0 l0_1) else (spec_SpreadOf.l1 k3 l1 a2 t154 x9_3 x10_2 (wrap64 (x11_3 + 1)) l0_0 l0_1))) else (none)) else (none)) = some (r1, r2) := by rw [if_pos rfl] at H; exact H
                 clear H
                 have H := H1
                 clear H1
                 by_cases c29 : 0 ≤ x11_3
                 ·rw [if_pos c29] at H
                  have c29b0 : decide (0 ≤ x11_3) = true := decide_eq_true c29
                  clear c29
                  by_cases c30 : x11_3 < (l0_0.length : Int)
                  ·rw [if_pos c30] at H
                   have c30b0 : decide (x11_3 < (l0_0.length : Int)) = true := decide_eq_true c30
                   clear c30
                   replace H := Option.bind_eq_some_iff.mp H
                   obtain ⟨t164, A310, H⟩ := H
                   replace H : (if t164 = true then (spec_SpreadOf.l1 k3 l1 a2 t154 (wrap64 (x9_3 + 1)) x10_2 (wrap64 (x11_3 + 1)) l0_0 l0_1) else (spec_SpreadOf.l1 k3 l1 a2 t154 x9_3 x10_2 (wrap64 (x11_3 + 1)) l0_0 l0_1)) = some (r1, r2) := H
                   have A31 := Aside0.mk A310
                   clear A310
                   by_cases c32 : t164 = true
                   ·subst c32
                    have H1 : (spec_SpreadOf.l1 k3 l1 a2 t154 (wrap64 (x9_3 + 1)) x10_2 (wrap64 (x11_3 + 1)) l0_0 l0_1) = some (r1, r2) := by rw [if_pos rfl] at H; exact H
                    clear H
                    have H := H1
                    clear H1
                    have H' := Aside0.mk H
                    clear H
                    try go_wp2
                    have n0_ := Aside0.mk (Kd.R_drew HO_8.out)
                    have n1_ := Aside0.mk (blk_drew BK151.out)
                    have n2_ := Aside0.mk (below_drew1 HB.out)
                    clear HO_8
                    clear BK151
                    clear HB
                    have HO_8 := n0_
                    have BK151 := n1_
                    have HB := n2_
                    clear n0_ n1_ n2_
                    have p157 : 0 ≤ (x10_2 : Int) := of_decide_eq_true (by first | (with_reducible assumption) | assumption)
                    have q157 : x10_2 < (t154.length : Int) := of_decide_eq_true (by first | (with_reducible assumption) | assumption)
                    obtain ⟨ad157, e157, hx157_0⟩ := Kd.at_int (Kd.R_reads' HO_8.out).2.2 x10_2 p157 q157
                    cases e157
                    replace p157 := eq_true p157
                    replace q157 := eq_true q157
                    have p159 : 0 ≤ (a2 : Int) := of_decide_eq_true (by first | (with_reducible assumption) | assumption)
                    have q159 : a2 < (l1.length : Int) := of_decide_eq_true (by first | (with_reducible assumption) | assumption)
                    obtain ⟨ad159, A159_1, c159_1, e159, hx159_0, hx159_1, hl159_1, hi159_1⟩ := at_T64 HR1.out a2 p159 q159
                    have hw159_1 := hx159_1
                    have hw159_0 := hx159_0
                    cases e159
                    replace hx159_0 := (HB.out.cell (World.block_lt_of_cell? w _ hx159_0)).trans hx159_0
                    replace hx159_1 := (HB.out.cell (World.block_lt_of_cell? w _ hx159_1)).trans hx159_1
                    have HR159_1 := Aside0.mk hi159_1
                    have HC159_1 := Aside0.mk hl159_1
                    clear hi159_1 hl159_1
                    replace p159 := eq_true p159
                    replace q159 := eq_true q159
                    have p160 : 0 ≤ (x10_2 : Int) := of_decide_eq_true (by first | (with_reducible assumption) | assumption)
                    have q160 : x10_2 < (l0_0.length : Int) := of_decide_eq_true (by first | (with_reducible assumption) | assumption)
                    obtain ⟨ad160, e160, hx160_0, hx160_1⟩ := at_T77 HR0_0.out x10_2 p160 q160
                    have hw160_1 := hx160_1
                    have hw160_0 := hx160_0
                    cases e160
                    replace hx160_0 := (HB.out.cell (World.block_lt_of_cell? w _ hx160_0)).trans hx160_0
                    replace hx160_1 := (HB.out.cell (World.block_lt_of_cell? w _ hx160_1)).trans hx160_1
                    replace p160 := eq_true p160
                    replace q160 := eq_true q160
                    have p162 : 0 ≤ (a2 : Int) := of_decide_eq_true (by first | (with_reducible assumption) | assumption)
                    have q162 : a2 < (l1.length : Int) := of_decide_eq_true (by first | (with_reducible assumption) | assumption)
                    obtain ⟨ad162, A162_1, c162_1, e162, hx162_0, hx162_1, hl162_1, hi162_1⟩ := at_T64 HR1.out a2 p162 q162
                    have hw162_1 := hx162_1
                    have hw162_0 := hx162_0
                    obtain rfl : ad159 = ad162 := (by injection e162)
                    replace hx162_0 := (HB.out.cell (World.block_lt_of_cell? w _ hx162_0)).trans hx162_0
                    replace hx162_1 := (HB.out.cell (World.block_lt_of_cell? w _ hx162_1)).trans hx162_1
                    have HR162_1 := Aside0.mk hi162_1
                    have HC162_1 := Aside0.mk hl162_1
                    clear hi162_1 hl162_1
                    replace p162 := eq_true p162
                    replace q162 := eq_true q162
                    have ea_ := Option.some.inj (hx159_1.symm.trans hx162_1)
                    injection ea_ with ea_ en_ ec_
                    subst ea_
                    subst ec_
                    clear en_
                    have p163 : 0 ≤ (x11_3 : Int) := of_decide_eq_true (by first | (with_reducible assumption) | assumption)
                    have q163 : x11_3 < (l0_0.length : Int) := of_decide_eq_true (by first | (with_reducible assumption) | assumption)
                    obtain ⟨ad163, e163, hx163_0, hx163_1⟩ := at_T77 HR0_0.out x11_3 p163 q163
                    have hw163_1 := hx163_1
                    have hw163_0 := hx163_0
                    obtain rfl : ad160 = ad163 := (by injection e163)
                    replace hx163_0 := (HB.out.cell (World.block_lt_of_cell? w _ hx163_0)).trans hx163_0
                    replace hx163_1 := (HB.out.cell (World.block_lt_of_cell? w _ hx163_1)).trans hx163_1
                    replace p163 := eq_true p163
                    replace q163 := eq_true q163
                    refine start_ (n := 34) (S := fun w' => w'.cell? ⟨gb151, 0, none⟩ = some (.slice (some ad160) l0_0.length c0_0) ∧ w'.cell? ⟨gb151, 1, none⟩ = some (.slice A0_1 l0_1.length c0_1) ∧ w'.cell? (ad157.add (x10_2).toNat) = some (.int .i64 (rd t154 x10_2)) ∧ w'.cell? (ad159.add ((a2).toNat * 2)) = some (.string ((rd_T64 l1 a2).f0)) ∧ w'.cell? ⟨(ad159.add ((a2).toNat * 2)).block, (ad159.add ((a2).toNat * 2)).off + 1, none⟩ = some (.slice A159_1 ((rd_T64 l1 a2).f1).length c159_1) ∧ w'.cell? (ad160.add ((x10_2).toNat * 2)) = some (.int .i64 ((rd_T77 l0_0 x10_2).f0)) ∧ w'.cell? ⟨(ad160.add ((x10_2).toNat * 2)).block, (ad160.add ((x10_2).toNat * 2)).off + 1, none⟩ = some (.int .i64 ((rd_T77 l0_0 x10_2).f1)) ∧ w'.cell? (ad159.add ((a2).toNat * 2)) = some (.string ((rd_T64 l1 a2).f0)) ∧ w'.cell? ⟨(ad159.add ((a2).toNat * 2)).block, (ad159.add ((a2).toNat * 2)).off + 1, none⟩ = some (.slice A159_1 ((rd_T64 l1 a2).f1).length c159_1) ∧ w'.cell? (ad160.add ((x11_3).toNat * 2)) = some (.int .i64 ((rd_T77 l0_0 x11_3).f0)) ∧ w'.cell? ⟨(ad160.add ((x11_3).toNat * 2)).block, (ad160.add ((x11_3).toNat * 2)).off + 1, none⟩ = some (.int .i64 ((rd_T77 l0_0 x11_3).f1))) (ds := []) #[false, false, false, false, false, false, false, false, false, false, false, false, false, false, false, false, false, false, false, false, false, false, false, false, false, false, false, false, false, false, false, false, false, false] (by kernel_rfl) rfl rfl ⟨(blk_cell BK151.out 0).trans rfl, (blk_cell BK151.out 1).trans rfl, hx157_0, ((HB.out.cell (World.block_lt_of_cell? w _ hw159_0)).trans hw159_0), ((HB.out.cell (World.block_lt_of_cell? w _ hw159_1)).trans hw159_1), ((HB.out.cell (World.block_lt_of_cell? w _ hw160_0)).trans hw160_0), ((HB.out.cell (World.block_lt_of_cell? w _ hw160_1)).trans hw160_1), ((HB.out.cell (World.block_lt_of_cell? w _ hw162_0)).trans hw162_0), ((HB.out.cell (World.block_lt_of_cell? w _ hw162_1)).trans hw162_1), ((HB.out.cell (World.block_lt_of_cell? w _ hw163_0)).trans hw163_0), ((HB.out.cell (World.block_lt_of_cell? w _ hw163_1)).trans hw163_1)⟩ (fun hHeld => ?_); refine with_tabW spec_SpreadOf.tab11 spec_SpreadOf.bits11 (fun HT_ HW_ => ?_)
                    generalize wr.drew = w33 at HO_8 BK151 HB HR159_1 HR162_1 hx157_0 hx159_0 hx159_1 hx160_0 hx160_1 hx162_0 hx162_1 hx163_0 hx163_1 hHeld ⊢
                    refine pA_ 0 (some 38) (bl 1 34) HT_.out (h := ?_)
                    refine pA_ 1 (some 39) (bl 2 34) HT_.out (h := ?_)
                    refine pA_ 2 (some 40) (bl 3 34) HT_.out (h := ?_)
                    refine pA_ 4 (some 42) #[true, true, true, false, true, false, false, false, false, false, false, false, false, false, false, false, false, false, false, false, false, false, false, false, false, false, false, false, false, false, false, false, false, false] HT_.out (h := ?_)
                    refine tA_ 3 (some 41) (bl 5 34) HT_.out HW_.out hHeld (h := ?_)
                    refine one_ (i := 5) (N := some 43) (bl 6 34) rfl rfl (one_of HT_.out (by kernel_rfl)) (by decide) (fun K hK => ?_)
                    refine goes_ Try.func57 (by kernel_rfl) rfl #[.int .i64 (rd t154 x10_2), .int .i64 x11_3] (by rfl) rfl rfl (by (try simp only [List.map_toArray, List.map_cons, List.map_nil]); first | done | rfl | (simp only [List.length_drop, List.length_take]; rfl)) ?_
                    with_reducible refine (spec_l4Bit.calls (rd t154 x10_2) x11_3 true _ A22.out).mono ?_
                    rintro e w' ⟨rfl, ⟨nd, rfl⟩⟩
                    refine ⟨_, rfl, ?_⟩
                    refine hK.out _ _ ⟨(blk_cell BK151.out 0).trans rfl, (blk_cell BK151.out 1).trans rfl, hHeld.2.2.1, ((HB.out.cell (World.block_lt_of_cell? w _ hw159_0)).trans hw159_0), ((HB.out.cell (World.block_lt_of_cell? w _ hw159_1)).trans hw159_1), ((HB.out.cell (World.block_lt_of_cell? w _ hw160_0)).trans hw160_0), ((HB.out.cell (World.block_lt_of_cell? w _ hw160_1)).trans hw160_1), ((HB.out.cell (World.block_lt_of_cell? w _ hw162_0)).trans hw162_0), ((HB.out.cell (World.block_lt_of_cell? w _ hw162_1)).trans hw162_1), ((HB.out.cell (World.block_lt_of_cell? w _ hw163_0)).trans hw163_0), ((HB.out.cell (World.block_lt_of_cell? w _ hw163_1)).trans hw163_1)⟩ (fun hHeld => ?_)
                    clear hK K
                    refine norm_ (a' := ?_) ?_ ?_
                    rotate_left
                    ·show Act.put _ (some 43) _ = _
                     simp only [Act.put, List.setIfInBounds_toArray, List.set_cons_zero, List.set_cons_succ, i64_w, i32_w]
                     rfl
                    refine pA_ 6 (some 44) (bl 7 34) HT_.out (h := ?_)
                    refine pA_ 7 (some 45) (bl 8 34) HT_.out (h := ?_)
                    refine pA_ 8 (some 46) (bl 9 34) HT_.out (h := ?_)
                    refine pA_ 9 (some 47) (bl 10 34) HT_.out (h := ?_)
                    refine pA_ 10 (some 48) (bl 11 34) HT_.out (h := ?_)
                    refine pA_ 12 (some 50) #[true, true, true, true, true, true, true, true, true, true, true, false, true, false, false, false, false, false, false, false, false, false, false, false, false, false, false, false, false, false, false, false, false, false] HT_.out (h := ?_)
                    refine pA_ 14 (some 52) #[true, true, true, true, true, true, true, true, true, true, true, false, true, false, true, false, false, false, false, false, false, false, false, false, false, false, false, false, false, false, false, false, false, false] HT_.out (h := ?_)
                    refine tA_ 11 (some 49) #[true, true, true, true, true, true, true, true, true, true, true, true, true, false, true, false, false, false, false, false, false, false, false, false, false, false, false, false, false, false, false, false, false, false] HT_.out HW_.out hHeld (h := ?_)
                    refine tA_ 13 (some 51) (bl 15 34) HT_.out HW_.out hHeld (h := ?_)
                    refine pA_ 15 (some 53) (bl 16 34) HT_.out (h := ?_)
                    refine pA_ 16 (some 54) (bl 17 34) HT_.out (h := ?_)
                    refine tA_ 17 (some 55) (bl 18 34) HT_.out HW_.out hHeld (h := ?_)
                    refine one_ (i := 18) (N := some 56) (bl 19 34) rfl rfl (one_of HT_.out (by kernel_rfl)) (by decide) (fun K hK => ?_)
                    refine goes_ Try.func58 (by kernel_rfl) rfl #[.slice A159_1 ((rd_T64 l1 a2).f1).length c159_1, .int .i64 ((rd_T77 l0_0 x10_2).f0)] (by rfl) rfl rfl (by (try simp only [List.map_toArray, List.map_cons, List.map_nil]); first | done | rfl | (simp only [List.length_drop, List.length_take]; rfl)) ?_
                    with_reducible refine (spec_l1Has.calls k3 _ _ ((rd_T64 l1 a2).f1) ((rd_T77 l0_0 x10_2).f0) true _ ?side1 ?side2 A27.out).mono ?_
                    (case side1 => repeat (first | exact (Kd.C_below HR159_1.out (by repeat (first | (with_reducible first | exact HB.out | apply below_alloc | apply pw_below_drewN | apply below_drew1 | refine below_set ?_ GE151.out) | exact HB.out))) | (with_reducible refine Kd.C_alloc ?_ _) | (with_reducible refine Kd.C_drewN ?_ _) | (with_reducible refine Kd.C_drew ?_)))
                    (case side2 => exact HC159_1.out)
                    rintro e w' ⟨rfl, ⟨nd, rfl⟩⟩
                    refine ⟨_, rfl, ?_⟩
                    refine hK.out _ _ ⟨(blk_cell BK151.out 0).trans rfl, (blk_cell BK151.out 1).trans rfl, hHeld.2.2.1, ((HB.out.cell (World.block_lt_of_cell? w _ hw159_0)).trans hw159_0), ((HB.out.cell (World.block_lt_of_cell? w _ hw159_1)).trans hw159_1), ((HB.out.cell (World.block_lt_of_cell? w _ hw160_0)).trans hw160_0), ((HB.out.cell (World.block_lt_of_cell? w _ hw160_1)).trans hw160_1), ((HB.out.cell (World.block_lt_of_cell? w _ hw162_0)).trans hw162_0), ((HB.out.cell (World.block_lt_of_cell? w _ hw162_1)).trans hw162_1), ((HB.out.cell (World.block_lt_of_cell? w _ hw163_0)).trans hw163_0), ((HB.out.cell (World.block_lt_of_cell? w _ hw163_1)).trans hw163_1)⟩ (fun hHeld => ?_)
                    clear hK K
                    refine norm_ (a' := ?_) ?_ ?_
                    rotate_left
                    ·show Act.put _ (some 56) _ = _
                     simp only [Act.put, List.setIfInBounds_toArray, List.set_cons_zero, List.set_cons_succ, i64_w, i32_w]
                     rfl
                    refine pA_ 19 (some 57) (bl 20 34) HT_.out (h := ?_)
                    refine pA_ 20 (some 58) (bl 21 34) HT_.out (h := ?_)
                    refine pA_ 21 (some 59) (bl 22 34) HT_.out (h := ?_)
                    refine pA_ 22 (some 60) (bl 23 34) HT_.out (h := ?_)
                    refine pA_ 23 (some 61) (bl 24 34) HT_.out (h := ?_)
                    refine pA_ 24 (some 62) (bl 25 34) HT_.out (h := ?_)
                    refine pA_ 26 (some 64) #[true, true, true, true, true, true, true, true, true, true, true, true, true, true, true, true, true, true, true, true, true, true, true, true, true, false, true, false, false, false, false, false, false, false] HT_.out (h := ?_)
                    refine pA_ 28 (some 66) #[true, true, true, true, true, true, true, true, true, true, true, true, true, true, true, true, true, true, true, true, true, true, true, true, true, false, true, false, true, false, false, false, false, false] HT_.out (h := ?_)
                    refine tA_ 25 (some 63) #[true, true, true, true, true, true, true, true, true, true, true, true, true, true, true, true, true, true, true, true, true, true, true, true, true, true, true, false, true, false, false, false, false, false] HT_.out HW_.out hHeld (h := ?_)
                    refine tA_ 27 (some 65) (bl 29 34) HT_.out HW_.out hHeld (h := ?_)
                    refine pA_ 29 (some 67) (bl 30 34) HT_.out (h := ?_)
                    refine pA_ 30 (some 68) (bl 31 34) HT_.out (h := ?_)
                    refine tA_ 31 (some 69) (bl 32 34) HT_.out HW_.out hHeld (h := ?_)
                    refine one_ (i := 32) (N := some 70) (bl 33 34) rfl rfl (one_of HT_.out (by kernel_rfl)) (by decide) (fun K hK => ?_)
                    refine goes_ Try.func58 (by kernel_rfl) rfl #[.slice A159_1 ((rd_T64 l1 a2).f1).length c159_1, .int .i64 ((rd_T77 l0_0 x11_3).f0)] (by rfl) rfl rfl (by (try simp only [List.map_toArray, List.map_cons, List.map_nil]); first | done | rfl | (simp only [List.length_drop, List.length_take]; rfl)) ?_
                    with_reducible refine (spec_l1Has.calls k3 _ _ ((rd_T64 l1 a2).f1) ((rd_T77 l0_0 x11_3).f0) true _ ?side1 ?side2 A31.out).mono ?_
                    (case side1 => repeat (first | exact (Kd.C_below HR162_1.out (by repeat (first | (with_reducible first | exact HB.out | apply below_alloc | apply pw_below_drewN | apply below_drew1 | refine below_set ?_ GE151.out) | exact HB.out))) | (with_reducible refine Kd.C_alloc ?_ _) | (with_reducible refine Kd.C_drewN ?_ _) | (with_reducible refine Kd.C_drew ?_)))
                    (case side2 => exact HC162_1.out)
                    rintro e w' ⟨rfl, ⟨nd, rfl⟩⟩
                    refine ⟨_, rfl, ?_⟩
                    refine hK.out _ _ ⟨(blk_cell BK151.out 0).trans rfl, (blk_cell BK151.out 1).trans rfl, hHeld.2.2.1, ((HB.out.cell (World.block_lt_of_cell? w _ hw159_0)).trans hw159_0), ((HB.out.cell (World.block_lt_of_cell? w _ hw159_1)).trans hw159_1), ((HB.out.cell (World.block_lt_of_cell? w _ hw160_0)).trans hw160_0), ((HB.out.cell (World.block_lt_of_cell? w _ hw160_1)).trans hw160_1), ((HB.out.cell (World.block_lt_of_cell? w _ hw162_0)).trans hw162_0), ((HB.out.cell (World.block_lt_of_cell? w _ hw162_1)).trans hw162_1), ((HB.out.cell (World.block_lt_of_cell? w _ hw163_0)).trans hw163_0), ((HB.out.cell (World.block_lt_of_cell? w _ hw163_1)).trans hw163_1)⟩ (fun hHeld => ?_)
                    clear hK K
                    refine norm_ (a' := ?_) ?_ ?_
                    rotate_left
                    ·show Act.put _ (some 70) _ = _
                     simp only [Act.put, List.setIfInBounds_toArray, List.set_cons_zero, List.set_cons_succ, i64_w, i32_w]
                     rfl
                    refine pA_ 33 (some 71) (bl 34 34) HT_.out (h := ?_)
                    refine done_ (done_of HT_.out (by kernel_rfl)) ?_
                    try go_wp2
                    go_roundg k3
                    case measure => have := HJ3.out; have := HK2.out; have := HK3.out; omega
                    case rel => exact ⟨(wrap64 (x9_3 + 1)), (wrap64 (x11_3 + 1)), (by first | rfl | (simp; done) | (simp [*]; done)), (by first | rfl | (simp; done) | (simp [*]; done)), H', ⟨by have := HJ3.out; have := HK2.out; have := HK3.out; omega⟩, ⟨rz_ HO_8.out⟩, ⟨bz_ BK151.out⟩, ⟨by repeat (first | (with_reducible first | exact HB.out | apply below_alloc | apply pw_below_drewN | apply below_drew1 | refine below_set ?_ GE151.out) | exact HB.out)⟩⟩
                   ·replace c32 := Bool.eq_false_iff.mpr c32
                    subst c32
                    have H1 : (spec_SpreadOf.l1 k3 l1 a2 t154 x9_3 x10_2 (wrap64 (x11_3 + 1)) l0_0 l0_1) = some (r1, r2) := by rw [if_neg (show ¬ (false = true) by decide)] at H; exact H
                    clear H
                    have H := H1
                    clear H1
                    have H' := Aside0.mk H
                    clear H
                    try go_wp2
                    have n0_ := Aside0.mk (Kd.R_drew HO_8.out)
                    have n1_ := Aside0.mk (blk_drew BK151.out)
                    have n2_ := Aside0.mk (below_drew1 HB.out)
                    clear HO_8
                    clear BK151
                    clear HB
                    have HO_8 := n0_
                    have BK151 := n1_
                    have HB := n2_
                    clear n0_ n1_ n2_
                    have p157 : 0 ≤ (x10_2 : Int) := of_decide_eq_true (by first | (with_reducible assumption) | assumption)
                    have q157 : x10_2 < (t154.length : Int) := of_decide_eq_true (by first | (with_reducible assumption) | assumption)
                    obtain ⟨ad157, e157, hx157_0⟩ := Kd.at_int (Kd.R_reads' HO_8.out).2.2 x10_2 p157 q157
                    cases e157
                    replace p157 := eq_true p157
                    replace q157 := eq_true q157
                    have p159 : 0 ≤ (a2 : Int) := of_decide_eq_true (by first | (with_reducible assumption) | assumption)
                    have q159 : a2 < (l1.length : Int) := of_decide_eq_true (by first | (with_reducible assumption) | assumption)
                    obtain ⟨ad159, A159_1, c159_1, e159, hx159_0, hx159_1, hl159_1, hi159_1⟩ := at_T64 HR1.out a2 p159 q159
                    have hw159_1 := hx159_1
                    have hw159_0 := hx159_0
                    cases e159
                    replace hx159_0 := (HB.out.cell (World.block_lt_of_cell? w _ hx159_0)).trans hx159_0
                    replace hx159_1 := (HB.out.cell (World.block_lt_of_cell? w _ hx159_1)).trans hx159_1
                    have HR159_1 := Aside0.mk hi159_1
                    have HC159_1 := Aside0.mk hl159_1
                    clear hi159_1 hl159_1
                    replace p159 := eq_true p159
                    replace q159 := eq_true q159
                    have p160 : 0 ≤ (x10_2 : Int) := of_decide_eq_true (by first | (with_reducible assumption) | assumption)
                    have q160 : x10_2 < (l0_0.length : Int) := of_decide_eq_true (by first | (with_reducible assumption) | assumption)
                    obtain ⟨ad160, e160, hx160_0, hx160_1⟩ := at_T77 HR0_0.out x10_2 p160 q160
                    have hw160_1 := hx160_1
                    have hw160_0 := hx160_0
                    cases e160
                    replace hx160_0 := (HB.out.cell (World.block_lt_of_cell? w _ hx160_0)).trans hx160_0
                    replace hx160_1 := (HB.out.cell (World.block_lt_of_cell? w _ hx160_1)).trans hx160_1
                    replace p160 := eq_true p160
                    replace q160 := eq_true q160
                    have p162 : 0 ≤ (a2 : Int) := of_decide_eq_true (by first | (with_reducible assumption) | assumption)
                    have q162 : a2 < (l1.length : Int) := of_decide_eq_true (by first | (with_reducible assumption) | assumption)
                    obtain ⟨ad162, A162_1, c162_1, e162, hx162_0, hx162_1, hl162_1, hi162_1⟩ := at_T64 HR1.out a2 p162 q162
                    have hw162_1 := hx162_1
                    have hw162_0 := hx162_0
                    obtain rfl : ad159 = ad162 := (by injection e162)
                    replace hx162_0 := (HB.out.cell (World.block_lt_of_cell? w _ hx162_0)).trans hx162_0
                    replace hx162_1 := (HB.out.cell (World.block_lt_of_cell? w _ hx162_1)).trans hx162_1
                    have HR162_1 := Aside0.mk hi162_1
                    have HC162_1 := Aside0.mk hl162_1
                    clear hi162_1 hl162_1
                    replace p162 := eq_true p162
                    replace q162 := eq_true q162
                    have ea_ := Option.some.inj (hx159_1.symm.trans hx162_1)
                    injection ea_ with ea_ en_ ec_
                    subst ea_
                    subst ec_
                    clear en_
                    have p163 : 0 ≤ (x11_3 : Int) := of_decide_eq_true (by first | (with_reducible assumption) | assumption)
                    have q163 : x11_3 < (l0_0.length : Int) := of_decide_eq_true (by first | (with_reducible assumption) | assumption)
                    obtain ⟨ad163, e163, hx163_0, hx163_1⟩ := at_T77 HR0_0.out x11_3 p163 q163
                    have hw163_1 := hx163_1
                    have hw163_0 := hx163_0
                    obtain rfl : ad160 = ad163 := (by injection e163)
                    replace hx163_0 := (HB.out.cell (World.block_lt_of_cell? w _ hx163_0)).trans hx163_0
                    replace hx163_1 := (HB.out.cell (World.block_lt_of_cell? w _ hx163_1)).trans hx163_1
                    replace p163 := eq_true p163
                    replace q163 := eq_true q163
                    refine start_ (n := 34) (S := fun w' => w'.cell? ⟨gb151, 0, none⟩ = some (.slice (some ad160) l0_0.length c0_0) ∧ w'.cell? ⟨gb151, 1, none⟩ = some (.slice A0_1 l0_1.length c0_1) ∧ w'.cell? (ad157.add (x10_2).toNat) = some (.int .i64 (rd t154 x10_2)) ∧ w'.cell? (ad159.add ((a2).toNat * 2)) = some (.string ((rd_T64 l1 a2).f0)) ∧ w'.cell? ⟨(ad159.add ((a2).toNat * 2)).block, (ad159.add ((a2).toNat * 2)).off + 1, none⟩ = some (.slice A159_1 ((rd_T64 l1 a2).f1).length c159_1) ∧ w'.cell? (ad160.add ((x10_2).toNat * 2)) = some (.int .i64 ((rd_T77 l0_0 x10_2).f0)) ∧ w'.cell? ⟨(ad160.add ((x10_2).toNat * 2)).block, (ad160.add ((x10_2).toNat * 2)).off + 1, none⟩ = some (.int .i64 ((rd_T77 l0_0 x10_2).f1)) ∧ w'.cell? (ad159.add ((a2).toNat * 2)) = some (.string ((rd_T64 l1 a2).f0)) ∧ w'.cell? ⟨(ad159.add ((a2).toNat * 2)).block, (ad159.add ((a2).toNat * 2)).off + 1, none⟩ = some (.slice A159_1 ((rd_T64 l1 a2).f1).length c159_1) ∧ w'.cell? (ad160.add ((x11_3).toNat * 2)) = some (.int .i64 ((rd_T77 l0_0 x11_3).f0)) ∧ w'.cell? ⟨(ad160.add ((x11_3).toNat * 2)).block, (ad160.add ((x11_3).toNat * 2)).off + 1, none⟩ = some (.int .i64 ((rd_T77 l0_0 x11_3).f1))) (ds := []) #[false, false, false, false, false, false, false, false, false, false, false, false, false, false, false, false, false, false, false, false, false, false, false, false, false, false, false, false, false, false, false, false, false, false] (by kernel_rfl) rfl rfl ⟨(blk_cell BK151.out 0).trans rfl, (blk_cell BK151.out 1).trans rfl, hx157_0, ((HB.out.cell (World.block_lt_of_cell? w _ hw159_0)).trans hw159_0), ((HB.out.cell (World.block_lt_of_cell? w _ hw159_1)).trans hw159_1), ((HB.out.cell (World.block_lt_of_cell? w _ hw160_0)).trans hw160_0), ((HB.out.cell (World.block_lt_of_cell? w _ hw160_1)).trans hw160_1), ((HB.out.cell (World.block_lt_of_cell? w _ hw162_0)).trans hw162_0), ((HB.out.cell (World.block_lt_of_cell? w _ hw162_1)).trans hw162_1), ((HB.out.cell (World.block_lt_of_cell? w _ hw163_0)).trans hw163_0), ((HB.out.cell (World.block_lt_of_cell? w _ hw163_1)).trans hw163_1)⟩ (fun hHeld => ?_); refine with_tabW spec_SpreadOf.tab11 spec_SpreadOf.bits11 (fun HT_ HW_ => ?_)
                    generalize wr.drew = w34 at HO_8 BK151 HB HR159_1 HR162_1 hx157_0 hx159_0 hx159_1 hx160_0 hx160_1 hx162_0 hx162_1 hx163_0 hx163_1 hHeld ⊢
                    refine pA_ 0 (some 38) (bl 1 34) HT_.out (h := ?_)
                    refine pA_ 1 (some 39) (bl 2 34) HT_.out (h := ?_)
                    refine pA_ 2 (some 40) (bl 3 34) HT_.out (h := ?_)
                    refine pA_ 4 (some 42) #[true, true, true, false, true, false, false, false, false, false, false, false, false, false, false, false, false, false, false, false, false, false, false, false, false, false, false, false, false, false, false, false, false, false] HT_.out (h := ?_)
                    refine tA_ 3 (some 41) (bl 5 34) HT_.out HW_.out hHeld (h := ?_)
                    refine one_ (i := 5) (N := some 43) (bl 6 34) rfl rfl (one_of HT_.out (by kernel_rfl)) (by decide) (fun K hK => ?_)
                    refine goes_ Try.func57 (by kernel_rfl) rfl #[.int .i64 (rd t154 x10_2), .int .i64 x11_3] (by rfl) rfl rfl (by (try simp only [List.map_toArray, List.map_cons, List.map_nil]); first | done | rfl | (simp only [List.length_drop, List.length_take]; rfl)) ?_
                    with_reducible refine (spec_l4Bit.calls (rd t154 x10_2) x11_3 true _ A22.out).mono ?_
                    rintro e w' ⟨rfl, ⟨nd, rfl⟩⟩
                    refine ⟨_, rfl, ?_⟩
                    refine hK.out _ _ ⟨(blk_cell BK151.out 0).trans rfl, (blk_cell BK151.out 1).trans rfl, hHeld.2.2.1, ((HB.out.cell (World.block_lt_of_cell? w _ hw159_0)).trans hw159_0), ((HB.out.cell (World.block_lt_of_cell? w _ hw159_1)).trans hw159_1), ((HB.out.cell (World.block_lt_of_cell? w _ hw160_0)).trans hw160_0), ((HB.out.cell (World.block_lt_of_cell? w _ hw160_1)).trans hw160_1), ((HB.out.cell (World.block_lt_of_cell? w _ hw162_0)).trans hw162_0), ((HB.out.cell (World.block_lt_of_cell? w _ hw162_1)).trans hw162_1), ((HB.out.cell (World.block_lt_of_cell? w _ hw163_0)).trans hw163_0), ((HB.out.cell (World.block_lt_of_cell? w _ hw163_1)).trans hw163_1)⟩ (fun hHeld => ?_)
                    clear hK K
                    refine norm_ (a' := ?_) ?_ ?_
                    rotate_left
                    ·show Act.put _ (some 43) _ = _
                     simp only [Act.put, List.setIfInBounds_toArray, List.set_cons_zero, List.set_cons_succ, i64_w, i32_w]
                     rfl
                    refine pA_ 6 (some 44) (bl 7 34) HT_.out (h := ?_)
                    refine pA_ 7 (some 45) (bl 8 34) HT_.out (h := ?_)
                    refine pA_ 8 (some 46) (bl 9 34) HT_.out (h := ?_)
                    refine pA_ 9 (some 47) (bl 10 34) HT_.out (h := ?_)
                    refine pA_ 10 (some 48) (bl 11 34) HT_.out (h := ?_)
                    refine pA_ 12 (some 50) #[true, true, true, true, true, true, true, true, true, true, true, false, true, false, false, false, false, false, false, false, false, false, false, false, false, false, false, false, false, false, false, false, false, false] HT_.out (h := ?_)
                    refine pA_ 14 (some 52) #[true, true, true, true, true, true, true, true, true, true, true, false, true, false, true, false, false, false, false, false, false, false, false, false, false, false, false, false, false, false, false, false, false, false] HT_.out (h := ?_)
                    refine tA_ 11 (some 49) #[true, true, true, true, true, true, true, true, true, true, true, true, true, false, true, false, false, false, false, false, false, false, false, false, false, false, false, false, false, false, false, false, false, false] HT_.out HW_.out hHeld (h := ?_)
                    refine tA_ 13 (some 51) (bl 15 34) HT_.out HW_.out hHeld (h := ?_)
                    refine pA_ 15 (some 53) (bl 16 34) HT_.out (h := ?_)
                    refine pA_ 16 (some 54) (bl 17 34) HT_.out (h := ?_)
                    refine tA_ 17 (some 55) (bl 18 34) HT_.out HW_.out hHeld (h := ?_)
                    refine one_ (i := 18) (N := some 56) (bl 19 34) rfl rfl (one_of HT_.out (by kernel_rfl)) (by decide) (fun K hK => ?_)
                    refine goes_ Try.func58 (by kernel_rfl) rfl #[.slice A159_1 ((rd_T64 l1 a2).f1).length c159_1, .int .i64 ((rd_T77 l0_0 x10_2).f0)] (by rfl) rfl rfl (by (try simp only [List.map_toArray, List.map_cons, List.map_nil]); first | done | rfl | (simp only [List.length_drop, List.length_take]; rfl)) ?_
                    with_reducible refine (spec_l1Has.calls k3 _ _ ((rd_T64 l1 a2).f1) ((rd_T77 l0_0 x10_2).f0) true _ ?side1 ?side2 A27.out).mono ?_
                    (case side1 => repeat (first | exact (Kd.C_below HR159_1.out (by repeat (first | (with_reducible first | exact HB.out | apply below_alloc | apply pw_below_drewN | apply below_drew1 | refine below_set ?_ GE151.out) | exact HB.out))) | (with_reducible refine Kd.C_alloc ?_ _) | (with_reducible refine Kd.C_drewN ?_ _) | (with_reducible refine Kd.C_drew ?_)))
                    (case side2 => exact HC159_1.out)
                    rintro e w' ⟨rfl, ⟨nd, rfl⟩⟩
                    refine ⟨_, rfl, ?_⟩
                    refine hK.out _ _ ⟨(blk_cell BK151.out 0).trans rfl, (blk_cell BK151.out 1).trans rfl, hHeld.2.2.1, ((HB.out.cell (World.block_lt_of_cell? w _ hw159_0)).trans hw159_0), ((HB.out.cell (World.block_lt_of_cell? w _ hw159_1)).trans hw159_1), ((HB.out.cell (World.block_lt_of_cell? w _ hw160_0)).trans hw160_0), ((HB.out.cell (World.block_lt_of_cell? w _ hw160_1)).trans hw160_1), ((HB.out.cell (World.block_lt_of_cell? w _ hw162_0)).trans hw162_0), ((HB.out.cell (World.block_lt_of_cell? w _ hw162_1)).trans hw162_1), ((HB.out.cell (World.block_lt_of_cell? w _ hw163_0)).trans hw163_0), ((HB.out.cell (World.block_lt_of_cell? w _ hw163_1)).trans hw163_1)⟩ (fun hHeld => ?_)
                    clear hK K
                    refine norm_ (a' := ?_) ?_ ?_
                    rotate_left
                    ·show Act.put _ (some 56) _ = _
                     simp only [Act.put, List.setIfInBounds_toArray, List.set_cons_zero, List.set_cons_succ, i64_w, i32_w]
                     rfl
                    refine pA_ 19 (some 57) (bl 20 34) HT_.out (h := ?_)
                    refine pA_ 20 (some 58) (bl 21 34) HT_.out (h := ?_)
                    refine pA_ 21 (some 59) (bl 22 34) HT_.out (h := ?_)
                    refine pA_ 22 (some 60) (bl 23 34) HT_.out (h := ?_)
                    refine pA_ 23 (some 61) (bl 24 34) HT_.out (h := ?_)
                    refine pA_ 24 (some 62) (bl 25 34) HT_.out (h := ?_)
                    refine pA_ 26 (some 64) #[true, true, true, true, true, true, true, true, true, true, true, true, true, true, true, true, true, true, true, true, true, true, true, true, true, false, true, false, false, false, false, false, false, false] HT_.out (h := ?_)
                    refine pA_ 28 (some 66) #[true, true, true, true, true, true, true, true, true, true, true, true, true, true, true, true, true, true, true, true, true, true, true, true, true, false, true, false, true, false, false, false, false, false] HT_.out (h := ?_)
                    refine tA_ 25 (some 63) #[true, true, true, true, true, true, true, true, true, true, true, true, true, true, true, true, true, true, true, true, true, true, true, true, true, true, true, false, true, false, false, false, false, false] HT_.out HW_.out hHeld (h := ?_)
                    refine tA_ 27 (some 65) (bl 29 34) HT_.out HW_.out hHeld (h := ?_)
                    refine pA_ 29 (some 67) (bl 30 34) HT_.out (h := ?_)
                    refine pA_ 30 (some 68) (bl 31 34) HT_.out (h := ?_)
                    refine tA_ 31 (some 69) (bl 32 34) HT_.out HW_.out hHeld (h := ?_)
                    refine one_ (i := 32) (N := some 70) (bl 33 34) rfl rfl (one_of HT_.out (by kernel_rfl)) (by decide) (fun K hK => ?_)
                    refine goes_ Try.func58 (by kernel_rfl) rfl #[.slice A159_1 ((rd_T64 l1 a2).f1).length c159_1, .int .i64 ((rd_T77 l0_0 x11_3).f0)] (by rfl) rfl rfl (by (try simp only [List.map_toArray, List.map_cons, List.map_nil]); first | done | rfl | (simp only [List.length_drop, List.length_take]; rfl)) ?_
                    with_reducible refine (spec_l1Has.calls k3 _ _ ((rd_T64 l1 a2).f1) ((rd_T77 l0_0 x11_3).f0) false _ ?side1 ?side2 A31.out).mono ?_
                    (case side1 => repeat (first | exact (Kd.C_below HR162_1.out (by repeat (first | (with_reducible first | exact HB.out | apply below_alloc | apply pw_below_drewN | apply below_drew1 | refine below_set ?_ GE151.out) | exact HB.out))) | (with_reducible refine Kd.C_alloc ?_ _) | (with_reducible refine Kd.C_drewN ?_ _) | (with_reducible refine Kd.C_drew ?_)))
                    (case side2 => exact HC162_1.out)
                    rintro e w' ⟨rfl, ⟨nd, rfl⟩⟩
                    refine ⟨_, rfl, ?_⟩
                    refine hK.out _ _ ⟨(blk_cell BK151.out 0).trans rfl, (blk_cell BK151.out 1).trans rfl, hHeld.2.2.1, ((HB.out.cell (World.block_lt_of_cell? w _ hw159_0)).trans hw159_0), ((HB.out.cell (World.block_lt_of_cell? w _ hw159_1)).trans hw159_1), ((HB.out.cell (World.block_lt_of_cell? w _ hw160_0)).trans hw160_0), ((HB.out.cell (World.block_lt_of_cell? w _ hw160_1)).trans hw160_1), ((HB.out.cell (World.block_lt_of_cell? w _ hw162_0)).trans hw162_0), ((HB.out.cell (World.block_lt_of_cell? w _ hw162_1)).trans hw162_1), ((HB.out.cell (World.block_lt_of_cell? w _ hw163_0)).trans hw163_0), ((HB.out.cell (World.block_lt_of_cell? w _ hw163_1)).trans hw163_1)⟩ (fun hHeld => ?_)
                    clear hK K
                    refine norm_ (a' := ?_) ?_ ?_
                    rotate_left
                    ·show Act.put _ (some 70) _ = _
                     simp only [Act.put, List.setIfInBounds_toArray, List.set_cons_zero, List.set_cons_succ, i64_w, i32_w]
                     rfl
                    refine pA_ 33 (some 71) (bl 34 34) HT_.out (h := ?_)
                    refine done_ (done_of HT_.out (by kernel_rfl)) ?_
                    try go_wp2
                    go_roundg k3
                    case measure => have := HJ3.out; have := HK2.out; have := HK3.out; omega
                    case rel => exact ⟨(x9_3), (wrap64 (x11_3 + 1)), (by first | rfl | (simp; done) | (simp [*]; done)), (by first | rfl | (simp; done) | (simp [*]; done)), H', ⟨by have := HJ3.out; have := HK2.out; have := HK3.out; omega⟩, ⟨rz_ HO_8.out⟩, ⟨bz_ BK151.out⟩, ⟨by repeat (first | (with_reducible first | exact HB.out | apply below_alloc | apply pw_below_drewN | apply below_drew1 | refine below_set ?_ GE151.out) | exact HB.out)⟩⟩
                  ·rw [if_neg c30] at H
                   exact absurd H (by simp)
                 ·rw [if_neg c29] at H
                  exact absurd H (by simp)
                ·replace c28 := Bool.eq_false_iff.mpr c28
                 subst c28
                 have H1 : (spec_SpreadOf.l1 k3 l1 a2 t154 x9_3 x10_2 (wrap64 (x11_3 + 1)) l0_0 l0_1) = some (r1, r2) := by rw [if_neg (show ¬ (false = true) by decide)] at H; exact H
                 clear H
                 have H := H1
                 clear H1
                 have H' := Aside0.mk H
                 clear H
                 try go_wp2
                 have n0_ := Aside0.mk (Kd.R_drew HO_8.out)
                 have n1_ := Aside0.mk (blk_drew BK151.out)
                 have n2_ := Aside0.mk (below_drew1 HB.out)
                 clear HO_8
                 clear BK151
                 clear HB
                 have HO_8 := n0_
                 have BK151 := n1_
                 have HB := n2_
                 clear n0_ n1_ n2_
                 have p157 : 0 ≤ (x10_2 : Int) := of_decide_eq_true (by first | (with_reducible assumption) | assumption)
                 have q157 : x10_2 < (t154.length : Int) := of_decide_eq_true (by first | (with_reducible assumption) | assumption)
                 obtain ⟨ad157, e157, hx157_0⟩ := Kd.at_int (Kd.R_reads' HO_8.out).2.2 x10_2 p157 q157
                 cases e157
                 replace p157 := eq_true p157
                 replace q157 := eq_true q157
                 have p159 : 0 ≤ (a2 : Int) := of_decide_eq_true (by first | (with_reducible assumption) | assumption)
                 have q159 : a2 < (l1.length : Int) := of_decide_eq_true (by first | (with_reducible assumption) | assumption)
                 obtain ⟨ad159, A159_1, c159_1, e159, hx159_0, hx159_1, hl159_1, hi159_1⟩ := at_T64 HR1.out a2 p159 q159
                 have hw159_1 := hx159_1
                 have hw159_0 := hx159_0
                 cases e159
                 replace hx159_0 := (HB.out.cell (World.block_lt_of_cell? w _ hx159_0)).trans hx159_0
                 replace hx159_1 := (HB.out.cell (World.block_lt_of_cell? w _ hx159_1)).trans hx159_1
                 have HR159_1 := Aside0.mk hi159_1
                 have HC159_1 := Aside0.mk hl159_1
                 clear hi159_1 hl159_1
                 replace p159 := eq_true p159
                 replace q159 := eq_true q159
                 have p160 : 0 ≤ (x10_2 : Int) := of_decide_eq_true (by first | (with_reducible assumption) | assumption)
                 have q160 : x10_2 < (l0_0.length : Int) := of_decide_eq_true (by first | (with_reducible assumption) | assumption)
                 obtain ⟨ad160, e160, hx160_0, hx160_1⟩ := at_T77 HR0_0.out x10_2 p160 q160
                 have hw160_1 := hx160_1
                 have hw160_0 := hx160_0
                 cases e160
                 replace hx160_0 := (HB.out.cell (World.block_lt_of_cell? w _ hx160_0)).trans hx160_0
                 replace hx160_1 := (HB.out.cell (World.block_lt_of_cell? w _ hx160_1)).trans hx160_1
                 replace p160 := eq_true p160
                 replace q160 := eq_true q160
                 refine start_ (n := 34) (S := fun w' => w'.cell? ⟨gb151, 0, none⟩ = some (.slice (some ad160) l0_0.length c0_0) ∧ w'.cell? ⟨gb151, 1, none⟩ = some (.slice A0_1 l0_1.length c0_1) ∧ w'.cell? (ad157.add (x10_2).toNat) = some (.int .i64 (rd t154 x10_2)) ∧ w'.cell? (ad159.add ((a2).toNat * 2)) = some (.string ((rd_T64 l1 a2).f0)) ∧ w'.cell? ⟨(ad159.add ((a2).toNat * 2)).block, (ad159.add ((a2).toNat * 2)).off + 1, none⟩ = some (.slice A159_1 ((rd_T64 l1 a2).f1).length c159_1) ∧ w'.cell? (ad160.add ((x10_2).toNat * 2)) = some (.int .i64 ((rd_T77 l0_0 x10_2).f0)) ∧ w'.cell? ⟨(ad160.add ((x10_2).toNat * 2)).block, (ad160.add ((x10_2).toNat * 2)).off + 1, none⟩ = some (.int .i64 ((rd_T77 l0_0 x10_2).f1))) (ds := []) #[false, false, false, false, false, false, false, false, false, false, false, false, false, false, false, false, false, false, false, false, false, false, false, false, false, false, false, false, false, false, false, false, false, false] (by kernel_rfl) rfl rfl ⟨(blk_cell BK151.out 0).trans rfl, (blk_cell BK151.out 1).trans rfl, hx157_0, ((HB.out.cell (World.block_lt_of_cell? w _ hw159_0)).trans hw159_0), ((HB.out.cell (World.block_lt_of_cell? w _ hw159_1)).trans hw159_1), ((HB.out.cell (World.block_lt_of_cell? w _ hw160_0)).trans hw160_0), ((HB.out.cell (World.block_lt_of_cell? w _ hw160_1)).trans hw160_1)⟩ (fun hHeld => ?_); refine with_tabW spec_SpreadOf.tab11 spec_SpreadOf.bits11 (fun HT_ HW_ => ?_)
                 generalize wr.drew = w35 at HO_8 BK151 HB HR159_1 hx157_0 hx159_0 hx159_1 hx160_0 hx160_1 hHeld ⊢
                 refine pA_ 0 (some 38) (bl 1 34) HT_.out (h := ?_)
                 refine pA_ 1 (some 39) (bl 2 34) HT_.out (h := ?_)
                 refine pA_ 2 (some 40) (bl 3 34) HT_.out (h := ?_)
                 refine pA_ 4 (some 42) #[true, true, true, false, true, false, false, false, false, false, false, false, false, false, false, false, false, false, false, false, false, false, false, false, false, false, false, false, false, false, false, false, false, false] HT_.out (h := ?_)
                 refine tA_ 3 (some 41) (bl 5 34) HT_.out HW_.out hHeld (h := ?_)
                 refine one_ (i := 5) (N := some 43) (bl 6 34) rfl rfl (one_of HT_.out (by kernel_rfl)) (by decide) (fun K hK => ?_)
                 refine goes_ Try.func57 (by kernel_rfl) rfl #[.int .i64 (rd t154 x10_2), .int .i64 x11_3] (by rfl) rfl rfl (by (try simp only [List.map_toArray, List.map_cons, List.map_nil]); first | done | rfl | (simp only [List.length_drop, List.length_take]; rfl)) ?_
                 with_reducible refine (spec_l4Bit.calls (rd t154 x10_2) x11_3 true _ A22.out).mono ?_
                 rintro e w' ⟨rfl, ⟨nd, rfl⟩⟩
                 refine ⟨_, rfl, ?_⟩
                 refine hK.out _ _ ⟨(blk_cell BK151.out 0).trans rfl, (blk_cell BK151.out 1).trans rfl, hHeld.2.2.1, ((HB.out.cell (World.block_lt_of_cell? w _ hw159_0)).trans hw159_0), ((HB.out.cell (World.block_lt_of_cell? w _ hw159_1)).trans hw159_1), ((HB.out.cell (World.block_lt_of_cell? w _ hw160_0)).trans hw160_0), ((HB.out.cell (World.block_lt_of_cell? w _ hw160_1)).trans hw160_1)⟩ (fun hHeld => ?_)
                 clear hK K
                 refine norm_ (a' := ?_) ?_ ?_
                 rotate_left
                 ·show Act.put _ (some 43) _ = _
                  simp only [Act.put, List.setIfInBounds_toArray, List.set_cons_zero, List.set_cons_succ, i64_w, i32_w]
                  rfl
                 refine pA_ 6 (some 44) (bl 7 34) HT_.out (h := ?_)
                 refine pA_ 7 (some 45) (bl 8 34) HT_.out (h := ?_)
                 refine pA_ 8 (some 46) (bl 9 34) HT_.out (h := ?_)
                 refine pA_ 9 (some 47) (bl 10 34) HT_.out (h := ?_)
                 refine pA_ 10 (some 48) (bl 11 34) HT_.out (h := ?_)
                 refine pA_ 12 (some 50) #[true, true, true, true, true, true, true, true, true, true, true, false, true, false, false, false, false, false, false, false, false, false, false, false, false, false, false, false, false, false, false, false, false, false] HT_.out (h := ?_)
                 refine pA_ 14 (some 52) #[true, true, true, true, true, true, true, true, true, true, true, false, true, false, true, false, false, false, false, false, false, false, false, false, false, false, false, false, false, false, false, false, false, false] HT_.out (h := ?_)
                 refine tA_ 11 (some 49) #[true, true, true, true, true, true, true, true, true, true, true, true, true, false, true, false, false, false, false, false, false, false, false, false, false, false, false, false, false, false, false, false, false, false] HT_.out HW_.out hHeld (h := ?_)
                 refine tA_ 13 (some 51) (bl 15 34) HT_.out HW_.out hHeld (h := ?_)
                 refine pA_ 15 (some 53) (bl 16 34) HT_.out (h := ?_)
                 refine pA_ 16 (some 54) (bl 17 34) HT_.out (h := ?_)
                 refine tA_ 17 (some 55) (bl 18 34) HT_.out HW_.out hHeld (h := ?_)
                 refine one_ (i := 18) (N := some 56) (bl 19 34) rfl rfl (one_of HT_.out (by kernel_rfl)) (by decide) (fun K hK => ?_)
                 refine goes_ Try.func58 (by kernel_rfl) rfl #[.slice A159_1 ((rd_T64 l1 a2).f1).length c159_1, .int .i64 ((rd_T77 l0_0 x10_2).f0)] (by rfl) rfl rfl (by (try simp only [List.map_toArray, List.map_cons, List.map_nil]); first | done | rfl | (simp only [List.length_drop, List.length_take]; rfl)) ?_
                 with_reducible refine (spec_l1Has.calls k3 _ _ ((rd_T64 l1 a2).f1) ((rd_T77 l0_0 x10_2).f0) false _ ?side1 ?side2 A27.out).mono ?_
                 (case side1 => repeat (first | exact (Kd.C_below HR159_1.out (by repeat (first | (with_reducible first | exact HB.out | apply below_alloc | apply pw_below_drewN | apply below_drew1 | refine below_set ?_ GE151.out) | exact HB.out))) | (with_reducible refine Kd.C_alloc ?_ _) | (with_reducible refine Kd.C_drewN ?_ _) | (with_reducible refine Kd.C_drew ?_)))
                 (case side2 => exact HC159_1.out)
                 rintro e w' ⟨rfl, ⟨nd, rfl⟩⟩
                 refine ⟨_, rfl, ?_⟩
                 refine hK.out _ _ ⟨(blk_cell BK151.out 0).trans rfl, (blk_cell BK151.out 1).trans rfl, hHeld.2.2.1, ((HB.out.cell (World.block_lt_of_cell? w _ hw159_0)).trans hw159_0), ((HB.out.cell (World.block_lt_of_cell? w _ hw159_1)).trans hw159_1), ((HB.out.cell (World.block_lt_of_cell? w _ hw160_0)).trans hw160_0), ((HB.out.cell (World.block_lt_of_cell? w _ hw160_1)).trans hw160_1)⟩ (fun hHeld => ?_)
                 clear hK K
                 refine norm_ (a' := ?_) ?_ ?_
                 rotate_left
                 ·show Act.put _ (some 56) _ = _
                  simp only [Act.put, List.setIfInBounds_toArray, List.set_cons_zero, List.set_cons_succ, i64_w, i32_w]
                  rfl
                 refine pA_ 19 (some 57) (bl 20 34) HT_.out (h := ?_)
                 refine pA_ 20 (some 58) (bl 21 34) HT_.out (h := ?_)
                 refine pO_ 21 (some 59) (bl 22 34) HT_.out (h := ?_)
                 refine pO_ 22 (some 60) (bl 23 34) HT_.out (h := ?_)
                 refine pO_ 23 (some 61) (bl 24 34) HT_.out (h := ?_)
                 refine pO_ 24 (some 62) (bl 25 34) HT_.out (h := ?_)
                 refine pO_ 25 (some 63) (bl 26 34) HT_.out (h := ?_)
                 refine pO_ 26 (some 64) (bl 27 34) HT_.out (h := ?_)
                 refine pO_ 27 (some 65) (bl 28 34) HT_.out (h := ?_)
                 refine pO_ 28 (some 66) (bl 29 34) HT_.out (h := ?_)
                 refine pO_ 29 (some 67) (bl 30 34) HT_.out (h := ?_)
                 refine pO_ 30 (some 68) (bl 31 34) HT_.out (h := ?_)
                 refine pO_ 31 (some 69) (bl 32 34) HT_.out (h := ?_)
                 refine pO_ 32 (some 70) (bl 33 34) HT_.out (h := ?_)
                 refine pA_ 33 (some 71) (bl 34 34) HT_.out (h := ?_)
                 refine done_ (done_of HT_.out (by kernel_rfl)) ?_
                 try go_wp2
                 go_roundg k3
                 case measure => have := HJ3.out; have := HK2.out; have := HK3.out; omega
                 case rel => exact ⟨(x9_3), (wrap64 (x11_3 + 1)), (by first | rfl | (simp; done) | (simp [*]; done)), (by first | rfl | (simp; done) | (simp [*]; done)), H', ⟨by have := HJ3.out; have := HK2.out; have := HK3.out; omega⟩, ⟨rz_ HO_8.out⟩, ⟨bz_ BK151.out⟩, ⟨by repeat (first | (with_reducible first | exact HB.out | apply below_alloc | apply pw_below_drewN | apply below_drew1 | refine below_set ?_ GE151.out) | exact HB.out)⟩⟩
               ·rw [if_neg c26] at H
                exact absurd H (by simp)
              ·rw [if_neg c25] at H
               exact absurd H (by simp)
             ·rw [if_neg c24] at H
              exact absurd H (by simp)
            ·replace c23 := Bool.eq_false_iff.mpr c23
             subst c23
             have H1 : (spec_SpreadOf.l1 k3 l1 a2 t154 x9_3 x10_2 (wrap64 (x11_3 + 1)) l0_0 l0_1) = some (r1, r2) := by rw [if_neg (show ¬ (false = true) by decide)] at H; exact H
             clear H
             have H := H1
             clear H1
             have H' := Aside0.mk H
             clear H
             try go_wp2
             have n0_ := Aside0.mk (Kd.R_drew HO_8.out)
             have n1_ := Aside0.mk (blk_drew BK151.out)
             have n2_ := Aside0.mk (below_drew1 HB.out)
             clear HO_8
             clear BK151
             clear HB
             have HO_8 := n0_
             have BK151 := n1_
             have HB := n2_
             clear n0_ n1_ n2_
             have p157 : 0 ≤ (x10_2 : Int) := of_decide_eq_true (by first | (with_reducible assumption) | assumption)
             have q157 : x10_2 < (t154.length : Int) := of_decide_eq_true (by first | (with_reducible assumption) | assumption)
             obtain ⟨ad157, e157, hx157_0⟩ := Kd.at_int (Kd.R_reads' HO_8.out).2.2 x10_2 p157 q157
             cases e157
             replace p157 := eq_true p157
             replace q157 := eq_true q157
             refine start_ (n := 34) (S := fun w' => w'.cell? (ad157.add (x10_2).toNat) = some (.int .i64 (rd t154 x10_2))) (ds := []) #[false, false, false, false, false, false, false, false, false, false, false, false, false, false, false, false, false, false, false, false, false, false, false, false, false, false, false, false, false, false, false, false, false, false] (by kernel_rfl) rfl rfl (hx157_0) (fun hHeld => ?_); refine with_tabW spec_SpreadOf.tab11 spec_SpreadOf.bits11 (fun HT_ HW_ => ?_)
             generalize wr.drew = w36 at HO_8 BK151 HB hx157_0 hHeld ⊢
             refine pA_ 0 (some 38) (bl 1 34) HT_.out (h := ?_)
             refine pA_ 1 (some 39) (bl 2 34) HT_.out (h := ?_)
             refine pA_ 2 (some 40) (bl 3 34) HT_.out (h := ?_)
             refine pA_ 4 (some 42) #[true, true, true, false, true, false, false, false, false, false, false, false, false, false, false, false, false, false, false, false, false, false, false, false, false, false, false, false, false, false, false, false, false, false] HT_.out (h := ?_)
             refine tA_ 3 (some 41) (bl 5 34) HT_.out HW_.out hHeld (h := ?_)
             refine one_ (i := 5) (N := some 43) (bl 6 34) rfl rfl (one_of HT_.out (by kernel_rfl)) (by decide) (fun K hK => ?_)
             refine goes_ Try.func57 (by kernel_rfl) rfl #[.int .i64 (rd t154 x10_2), .int .i64 x11_3] (by rfl) rfl rfl (by (try simp only [List.map_toArray, List.map_cons, List.map_nil]); first | done | rfl | (simp only [List.length_drop, List.length_take]; rfl)) ?_
             with_reducible refine (spec_l4Bit.calls (rd t154 x10_2) x11_3 false _ A22.out).mono ?_
             rintro e w' ⟨rfl, ⟨nd, rfl⟩⟩
             refine ⟨_, rfl, ?_⟩
             refine hK.out _ _ (hHeld) (fun hHeld => ?_)
             clear hK K
             refine norm_ (a' := ?_) ?_ ?_
             rotate_left
             ·show Act.put _ (some 43) _ = _
              simp only [Act.put, List.setIfInBounds_toArray, List.set_cons_zero, List.set_cons_succ, i64_w, i32_w]
              rfl
             refine pA_ 6 (some 44) (bl 7 34) HT_.out (h := ?_)
             refine pO_ 7 (some 45) (bl 8 34) HT_.out (h := ?_)
             refine pO_ 8 (some 46) (bl 9 34) HT_.out (h := ?_)
             refine pO_ 9 (some 47) (bl 10 34) HT_.out (h := ?_)
             refine pO_ 10 (some 48) (bl 11 34) HT_.out (h := ?_)
             refine pO_ 11 (some 49) (bl 12 34) HT_.out (h := ?_)
             refine pO_ 12 (some 50) (bl 13 34) HT_.out (h := ?_)
             refine pO_ 13 (some 51) (bl 14 34) HT_.out (h := ?_)
             refine pO_ 14 (some 52) (bl 15 34) HT_.out (h := ?_)
             refine pO_ 15 (some 53) (bl 16 34) HT_.out (h := ?_)
             refine pO_ 16 (some 54) (bl 17 34) HT_.out (h := ?_)
             refine pO_ 17 (some 55) (bl 18 34) HT_.out (h := ?_)
             refine pO_ 18 (some 56) (bl 19 34) HT_.out (h := ?_)
             refine pA_ 19 (some 57) (bl 20 34) HT_.out (h := ?_)
             refine pA_ 20 (some 58) (bl 21 34) HT_.out (h := ?_)
             refine pO_ 21 (some 59) (bl 22 34) HT_.out (h := ?_)
             refine pO_ 22 (some 60) (bl 23 34) HT_.out (h := ?_)
             refine pO_ 23 (some 61) (bl 24 34) HT_.out (h := ?_)
             refine pO_ 24 (some 62) (bl 25 34) HT_.out (h := ?_)
             refine pO_ 25 (some 63) (bl 26 34) HT_.out (h := ?_)
             refine pO_ 26 (some 64) (bl 27 34) HT_.out (h := ?_)
             refine pO_ 27 (some 65) (bl 28 34) HT_.out (h := ?_)
             refine pO_ 28 (some 66) (bl 29 34) HT_.out (h := ?_)
             refine pO_ 29 (some 67) (bl 30 34) HT_.out (h := ?_)
             refine pO_ 30 (some 68) (bl 31 34) HT_.out (h := ?_)
             refine pO_ 31 (some 69) (bl 32 34) HT_.out (h := ?_)
             refine pO_ 32 (some 70) (bl 33 34) HT_.out (h := ?_)
             refine pA_ 33 (some 71) (bl 34 34) HT_.out (h := ?_)
             refine done_ (done_of HT_.out (by kernel_rfl)) ?_
             try go_wp2
             go_roundg k3
             case measure => have := HJ3.out; have := HK2.out; have := HK3.out; omega
             case rel => exact ⟨(x9_3), (wrap64 (x11_3 + 1)), (by first | rfl | (simp; done) | (simp [*]; done)), (by first | rfl | (simp; done) | (simp [*]; done)), H', ⟨by have := HJ3.out; have := HK2.out; have := HK3.out; omega⟩, ⟨rz_ HO_8.out⟩, ⟨bz_ BK151.out⟩, ⟨by repeat (first | (with_reducible first | exact HB.out | apply below_alloc | apply pw_below_drewN | apply below_drew1 | refine below_set ?_ GE151.out) | exact HB.out)⟩⟩
           ·rw [if_neg c21] at H
            exact absurd H (by simp)
          ·rw [if_neg c20] at H
           exact absurd H (by simp)
         ·rw [if_neg c19] at H
          have c19b0 : decide (x11_3 < (t154.length : Int)) = false := decide_eq_false c19
          clear c19
          have H' := Aside0.mk H
          clear H
          go_wp2
          go_roundg k3
          case measure => have := HJ3.out; have := HK2.out; have := HK3.out; omega
          case rel => exact ⟨(x9_3), (wrap64 (x10_2 + 1)), (by first | rfl | (simp; done) | (simp [*]; done)), (by first | rfl | (simp; done) | (simp [*]; done)), H', ⟨by have := HJ3.out; have := HK2.out; have := HK3.out; omega⟩, ⟨rz_ HO_8.out⟩, ⟨bz_ BK151.out⟩, ⟨by repeat (first | (with_reducible first | exact HB.out | apply below_alloc | apply pw_below_drewN | apply below_drew1 | refine below_set ?_ GE151.out) | exact HB.out)⟩⟩
      ·rw [if_neg c17] at H
       have c17b0 : decide (x10_2 < (t154.length : Int)) = false := decide_eq_false c17
       clear c17
       simp only [Option.some.injEq, Prod.mk.injEq] at H
       obtain ⟨rfl, rfl⟩ := H
       obtain ⟨Ao37, co37, eo37⟩ := Kd.R_slice HO_8.out
       subst eo37
       go_wp2
       go_ret2
       exact ⟨by first | rfl | (simp [errW_none, errW_some] <;> rfl) | (simp [*, errW_none, errW_some] <;> rfl), by repeat (first | (with_reducible first | exact HB.out | apply below_alloc | apply pw_below_drewN | apply below_drew1 | refine below_set ?_ GE151.out) | exact HB.out)⟩

end Go.Proofs.Ytenphfagdpkjaaa.Q

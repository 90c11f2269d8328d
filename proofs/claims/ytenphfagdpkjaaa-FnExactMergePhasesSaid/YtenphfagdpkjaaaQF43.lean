-- Written by a program of this session (wip/xprint.py over the kit's printer).
import Derived.Test.YtenphfagdpkjaaaQ0
import Derived.Test.YtenphfagdpkjaaaQF51
import Derived.Test.YtenphfagdpkjaaaQF76
import Derived.Test.YtenphfagdpkjaaaQV2
namespace Go.Proofs.Ytenphfagdpkjaaa.Q
open Go.RowKit Go.Proofs.YtenphfagdpkjaaaW.PrintWords Go.Proofs.YtenphfagdpkjaaaW.PrintLast
set_option linter.unusedVariables false
set_option linter.unusedSimpArgs false

/-! ### spec_l7Good: function 43 -/
mutual
def spec_l7Good.j0 : Nat → List (S64) → Bool → List (S77) → List (S91) → Option (Bool)
 | 0, _, _, _, _ => none
 | k + 1, x1, x16, x152000, x152001 => if x16 = true then (some false) else (spec_l7Good.l0 k x1 0 x152000 x152001)
def spec_l7Good.l0 : Nat → List (S64) → Int → List (S77) → List (S91) → Option (Bool)
 | 0, _, _, _, _ => none
 | k + 1, x1, x5, x152000, x152001 => if x5 < (x1.length : Int) then (if 0 ≤ x5 then ((spec_l7Name.f k ((rd_T64 x1 x5).f0)).bind fun t155 => (if t155 = true then (if (((rd_T64 x1 x5).f1).length : Int) = 0 then (spec_l7Good.j2 k x1 x5 true x152000 x152001 ((rd_T64 x1 x5).f0) ((rd_T64 x1 x5).f1)) else ((spec_l1Rising.f k ((rd_T64 x1 x5).f1) 1 999).bind fun t156 => (spec_l7Good.j2 k x1 x5 (!t156) x152000 x152001 ((rd_T64 x1 x5).f0) ((rd_T64 x1 x5).f1)))) else (spec_l7Good.j2 k x1 x5 true x152000 x152001 ((rd_T64 x1 x5).f0) ((rd_T64 x1 x5).f1)))) else (none)) else (some true)
def spec_l7Good.j2 : Nat → List (S64) → Int → Bool → List (S77) → List (S91) → ByteArray → List Int → Option (Bool)
 | 0, _, _, _, _, _, _, _ => none
 | k + 1, x1, x5, x42, x152000, x152001, x155000, x155001 => if x42 = true then (some false) else (spec_l7Good.l1 k x1 x5 0 x152000 x152001 x155000 x155001)
def spec_l7Good.l1 : Nat → List (S64) → Int → Int → List (S77) → List (S91) → ByteArray → List Int → Option (Bool)
 | 0, _, _, _, _, _, _, _ => none
 | k + 1, x1, x5, x7, x152000, x152001, x155000, x155001 => if x7 < x5 then (if 0 ≤ x7 then (if x7 < (x1.length : Int) then (if ((rd_T64 x1 x7).f0).toList = x155000.toList then (some false) else (spec_l7Good.l1 k x1 x5 (wrap64 (x7 + 1)) x152000 x152001 x155000 x155001)) else (none)) else (none)) else (spec_l7Good.l2 k x1 x5 0 x152000 x152001 x155000 x155001)
def spec_l7Good.l2 : Nat → List (S64) → Int → Int → List (S77) → List (S91) → ByteArray → List Int → Option (Bool)
 | 0, _, _, _, _, _, _, _ => none
 | k + 1, x1, x5, x8, x152000, x152001, x155000, x155001 => if x8 < (x155001.length : Int) then (if 0 ≤ x8 then ((spec_l2Find.f x152000 x152001 (rd x155001 x8)).bind fun t159 => (if t159 < 0 then (some false) else ((spec_l7Phase.f k x1 (rd x155001 x8)).bind fun t161 => (if t161 = x5 then (spec_l7Good.l2 k x1 x5 (wrap64 (x8 + 1)) x152000 x152001 x155000 x155001) else (some false))))) else (none)) else (spec_l7Good.l0 k x1 (wrap64 (x5 + 1)) x152000 x152001)
end
def spec_l7Good.f (k : Nat) (l0_0 : List (S77)) (l0_1 : List (S91)) (l1 : List (S64)) : Option (Bool) := (spec_l5Good.f k l0_0 l0_1).bind fun t152 => (if t152 = true then (spec_l7Good.j0 k l1 (decide ((l1.length : Int) > 6)) l0_0 l0_1) else (spec_l7Good.j0 k l1 true l0_0 l0_1))
theorem spec_l7Good.mono_l : ∀ k, (∀ y0 y1 y2 y3, LeO (spec_l7Good.j0 k y0 y1 y2 y3) (spec_l7Good.j0 (k + 1) y0 y1 y2 y3)) ∧ (∀ y0 y1 y2 y3, LeO (spec_l7Good.l0 k y0 y1 y2 y3) (spec_l7Good.l0 (k + 1) y0 y1 y2 y3)) ∧ (∀ y0 y1 y2 y3 y4 y5 y6, LeO (spec_l7Good.j2 k y0 y1 y2 y3 y4 y5 y6) (spec_l7Good.j2 (k + 1) y0 y1 y2 y3 y4 y5 y6)) ∧ (∀ y0 y1 y2 y3 y4 y5 y6, LeO (spec_l7Good.l1 k y0 y1 y2 y3 y4 y5 y6) (spec_l7Good.l1 (k + 1) y0 y1 y2 y3 y4 y5 y6)) ∧ (∀ y0 y1 y2 y3 y4 y5 y6, LeO (spec_l7Good.l2 k y0 y1 y2 y3 y4 y5 y6) (spec_l7Good.l2 (k + 1) y0 y1 y2 y3 y4 y5 y6))
 | 0 => ⟨fun _ _ _ _ r h => by simp [spec_l7Good.j0] at h, fun _ _ _ _ r h => by simp [spec_l7Good.l0] at h, fun _ _ _ _ _ _ _ r h => by simp [spec_l7Good.j2] at h, fun _ _ _ _ _ _ _ r h => by simp [spec_l7Good.l1] at h, fun _ _ _ _ _ _ _ r h => by simp [spec_l7Good.l2] at h⟩
 | k + 1 => by
  obtain ⟨ih0, ih1, ih2, ih3, ih4⟩ := spec_l7Good.mono_l k
  refine ⟨?_, ?_, ?_, ?_, ?_⟩
  ·intro y0 y1 y2 y3
   unfold spec_l7Good.j0
   repeat' first
   | (with_reducible exact ih0 _ _ _ _)
   | (with_reducible exact ih1 _ _ _ _)
   | (with_reducible exact ih2 _ _ _ _ _ _ _)
   | (with_reducible exact ih3 _ _ _ _ _ _ _)
   | (with_reducible exact ih4 _ _ _ _ _ _ _)
   | (with_reducible exact spec_l1Rising.mono _ _ _ _)
   | (with_reducible exact spec_l5Good.mono _ _ _)
   | (with_reducible exact spec_l7Name.mono _ _)
   | (with_reducible exact spec_l7Phase.mono _ _ _)
   | (with_reducible exact LeO.refl _)
   | (with_reducible exact LeO.none _)
   | (with_reducible refine LeO.ite ?_ ?_)
   | (with_reducible refine LeO.bind ?_ (fun _ => ?_))
   | exact ih0 _ _ _ _
   | exact ih1 _ _ _ _
   | exact ih2 _ _ _ _ _ _ _
   | exact ih3 _ _ _ _ _ _ _
   | exact ih4 _ _ _ _ _ _ _
   | exact spec_l1Rising.mono _ _ _ _
   | exact spec_l5Good.mono _ _ _
   | exact spec_l7Name.mono _ _
   | exact spec_l7Phase.mono _ _ _
   | exact LeO.none _
   | refine LeO.ite ?_ ?_
   | refine LeO.bind ?_ (fun _ => ?_)
  ·intro y0 y1 y2 y3
   unfold spec_l7Good.l0
   repeat' first
   | (with_reducible exact ih0 _ _ _ _)
   | (with_reducible exact ih1 _ _ _ _)
   | (with_reducible exact ih2 _ _ _ _ _ _ _)
   | (with_reducible exact ih3 _ _ _ _ _ _ _)
   | (with_reducible exact ih4 _ _ _ _ _ _ _)
   | (with_reducible exact spec_l1Rising.mono _ _ _ _)
   | (with_reducible exact spec_l5Good.mono _ _ _)
   | (with_reducible exact spec_l7Name.mono _ _)
   | (with_reducible exact spec_l7Phase.mono _ _ _)
   | (with_reducible exact LeO.refl _)
   | (with_reducible exact LeO.none _)
   | (with_reducible refine LeO.ite ?_ ?_)
   | (with_reducible refine LeO.bind ?_ (fun _ => ?_))
   | exact ih0 _ _ _ _
   | exact ih1 _ _ _ _
   | exact ih2 _ _ _ _ _ _ _
   | exact ih3 _ _ _ _ _ _ _
   | exact ih4 _ _ _ _ _ _ _
   | exact spec_l1Rising.mono _ _ _ _
   | exact spec_l5Good.mono _ _ _
   | exact spec_l7Name.mono _ _
   | exact spec_l7Phase.mono _ _ _
   | exact LeO.none _
   | refine LeO.ite ?_ ?_
   | refine LeO.bind ?_ (fun _ => ?_)
  ·intro y0 y1 y2 y3 y4 y5 y6
   unfold spec_l7Good.j2
   repeat' first
   | (with_reducible exact ih0 _ _ _ _)
   | (with_reducible exact ih1 _ _ _ _)
   | (with_reducible exact ih2 _ _ _ _ _ _ _)
   | (with_reducible exact ih3 _ _ _ _ _ _ _)
   | (with_reducible exact ih4 _ _ _ _ _ _ _)
   | (with_reducible exact spec_l1Rising.mono _ _ _ _)
   | (with_reducible exact spec_l5Good.mono _ _ _)
   | (with_reducible exact spec_l7Name.mono _ _)
   | (with_reducible exact spec_l7Phase.mono _ _ _)
   | (with_reducible exact LeO.refl _)
   | (with_reducible exact LeO.none _)
   | (with_reducible refine LeO.ite ?_ ?_)
   | (with_reducible refine LeO.bind ?_ (fun _ => ?_))
   | exact ih0 _ _ _ _
   | exact ih1 _ _ _ _
   | exact ih2 _ _ _ _ _ _ _
   | exact ih3 _ _ _ _ _ _ _
   | exact ih4 _ _ _ _ _ _ _
   | exact spec_l1Rising.mono _ _ _ _
   | exact spec_l5Good.mono _ _ _
   | exact spec_l7Name.mono _ _
   | exact spec_l7Phase.mono _ _ _
   | exact LeO.none _
   | refine LeO.ite ?_ ?_
   | refine LeO.bind ?_ (fun _ => ?_)
  ·intro y0 y1 y2 y3 y4 y5 y6
   unfold spec_l7Good.l1
   repeat' first
   | (with_reducible exact ih0 _ _ _ _)
   | (with_reducible exact ih1 _ _ _ _)
   | (with_reducible exact ih2 _ _ _ _ _ _ _)
   | (with_reducible exact ih3 _ _ _ _ _ _ _)
   | (with_reducible exact ih4 _ _ _ _ _ _ _)
   | (with_reducible exact spec_l1Rising.mono _ _ _ _)
   | (with_reducible exact spec_l5Good.mono _ _ _)
   | (with_reducible exact spec_l7Name.mono _ _)
   | (with_reducible exact spec_l7Phase.mono _ _ _)
   | (with_reducible exact LeO.refl _)
   | (with_reducible exact LeO.none _)
   | (with_reducible refine LeO.ite ?_ ?_)
   | (with_reducible refine LeO.bind ?_ (fun _ => ?_))
   | exact ih0 _ _ _ _
   | exact ih1 _ _ _ _
   | exact ih2 _ _ _ _ _ _ _
   | exact ih3 _ _ _ _ _ _ _
   | exact ih4 _ _ _ _ _ _ _
   | exact spec_l1Rising.mono _ _ _ _
   | exact spec_l5Good.mono _ _ _
   | exact spec_l7Name.mono _ _
   | exact spec_l7Phase.mono _ _ _
   | exact LeO.none _
   | refine LeO.ite ?_ ?_
   | refine LeO.bind ?_ (fun _ => ?_)
  ·intro y0 y1 y2 y3 y4 y5 y6
   unfold spec_l7Good.l2
   repeat' first
   | (with_reducible exact ih0 _ _ _ _)
   | (with_reducible exact ih1 _ _ _ _)
   | (with_reducible exact ih2 _ _ _ _ _ _ _)
   | (with_reducible exact ih3 _ _ _ _ _ _ _)
   | (with_reducible exact ih4 _ _ _ _ _ _ _)
   | (with_reducible exact spec_l1Rising.mono _ _ _ _)
   | (with_reducible exact spec_l5Good.mono _ _ _)
   | (with_reducible exact spec_l7Name.mono _ _)
   | (with_reducible exact spec_l7Phase.mono _ _ _)
   | (with_reducible exact LeO.refl _)
   | (with_reducible exact LeO.none _)
   | (with_reducible refine LeO.ite ?_ ?_)
   | (with_reducible refine LeO.bind ?_ (fun _ => ?_))
   | exact ih0 _ _ _ _
   | exact ih1 _ _ _ _
   | exact ih2 _ _ _ _ _ _ _
   | exact ih3 _ _ _ _ _ _ _
   | exact ih4 _ _ _ _ _ _ _
   | exact spec_l1Rising.mono _ _ _ _
   | exact spec_l5Good.mono _ _ _
   | exact spec_l7Name.mono _ _
   | exact spec_l7Phase.mono _ _ _
   | exact LeO.none _
   | refine LeO.ite ?_ ?_
   | refine LeO.bind ?_ (fun _ => ?_)
theorem spec_l7Good.mono : ∀ a0 a1 a2 k, LeO (spec_l7Good.f k a0 a1 a2) (spec_l7Good.f (k + 1) a0 a1 a2) := by
 intro a0 a1 a2 k
 obtain ⟨ih0, ih1, ih2, ih3, ih4⟩ := spec_l7Good.mono_l k
 unfold spec_l7Good.f
 repeat' first
   | (with_reducible exact ih0 _ _ _ _)
   | (with_reducible exact ih1 _ _ _ _)
   | (with_reducible exact ih2 _ _ _ _ _ _ _)
   | (with_reducible exact ih3 _ _ _ _ _ _ _)
   | (with_reducible exact ih4 _ _ _ _ _ _ _)
   | (with_reducible exact spec_l1Rising.mono _ _ _ _)
   | (with_reducible exact spec_l5Good.mono _ _ _)
   | (with_reducible exact spec_l7Name.mono _ _)
   | (with_reducible exact spec_l7Phase.mono _ _ _)
   | (with_reducible exact LeO.refl _)
   | (with_reducible exact LeO.none _)
   | (with_reducible refine LeO.ite ?_ ?_)
   | (with_reducible refine LeO.bind ?_ (fun _ => ?_))
   | exact ih0 _ _ _ _
   | exact ih1 _ _ _ _
   | exact ih2 _ _ _ _ _ _ _
   | exact ih3 _ _ _ _ _ _ _
   | exact ih4 _ _ _ _ _ _ _
   | exact spec_l1Rising.mono _ _ _ _
   | exact spec_l5Good.mono _ _ _
   | exact spec_l7Name.mono _ _
   | exact spec_l7Phase.mono _ _ _
   | exact LeO.none _
   | refine LeO.ite ?_ ?_
   | refine LeO.bind ?_ (fun _ => ?_)
def spec_l7Good.T12 : Bool × List (List Nat × List Nat) := (true, [([], []), ([], []), ([0, 1], [0, 1]), ([2], [2]), ([3], [3]), ([], []), ([5], [5]), ([4, 6], [4, 6])])
def spec_l7Good.B12 : List Nat := [0, 0, 3, 7, 15, 0, 32, 127]
theorem spec_l7Good.tab12 : rtab .any (opsOf Try.f43 12) = spec_l7Good.T12 := by kernel_rfl
theorem spec_l7Good.bits12 : waitsOk spec_l7Good.T12.2 spec_l7Good.B12 = true := by kernel_rfl
def spec_l7Good.T17 : Bool × List (List Nat × List Nat) := (true, [([], []), ([], []), ([1], [1]), ([], []), ([2, 3], [2, 3]), ([4], [4]), ([0, 5], [0, 5]), ([6], [6]), ([7, 6], [7]), ([8], [8]), ([8], [8]), ([10, 8], [8, 10]), ([8], [8]), ([11, 12, 8], [8, 11, 12]), ([13, 8], [8, 13]), ([9, 14, 8, 8], [8, 9, 14]), ([8], [8]), ([15, 16, 8], [8, 15, 16]), ([8, 17], [8, 17])])
def spec_l7Good.B17 : List Nat := [0, 0, 2, 0, 14, 30, 63, 127, 255, 511, 511, 1535, 511, 7679, 15871, 32767, 511, 131071, 262143]
theorem spec_l7Good.tab17 : rtab .any (opsOf Try.f43 17) = spec_l7Good.T17 := by kernel_rfl
theorem spec_l7Good.bits17 : waitsOk spec_l7Good.T17.2 spec_l7Good.B17 = true := by kernel_rfl
set_option maxHeartbeats 8000000 in
set_option maxRecDepth 100000 in
theorem spec_l7Good.calls (k : Nat) (A0_0 : Option Addr) (c0_0 : Nat) (l0_0 : List (S77)) (A0_1 : Option Addr) (c0_1 : Nat) (l0_1 : List (S91)) (A1 : Option Addr) (c1 : Nat) (l1 : List (S64)) (r : Bool) (w : World) (hr0_0 : Kd.C k77 w A0_0 l0_0.length l0_0) (hc0_0 : l0_0.length ≤ c0_0) (hr0_1 : Kd.C k91 w A0_1 l0_1.length l0_1) (hc0_1 : l0_1.length ≤ c0_1) (hr1 : Kd.C k64 w A1 l1.length l1) (hc1 : l1.length ≤ c1) (h : spec_l7Good.f k l0_0 l0_1 l1 = some r) :
  Calls Try.prog 43 #[.agg #[.slice A0_0 l0_0.length c0_0, .slice A0_1 l0_1.length c0_1], .slice A1 l1.length c1] w fun e w' => e = .returned (.bool r) ∧ Below w.heap.size w w' := by
 have hu33 := Try.underlying33
 have hu64 := Try.underlying64
 have HR0_0 := Aside0.mk hr0_0
 have HC0_0 := Aside0.mk hc0_0
 clear hr0_0 hc0_0
 have HR0_1 := Aside0.mk hr0_1
 have HC0_1 := Aside0.mk hc0_1
 clear hr0_1 hc0_1
 have HR1 := Aside0.mk hr1
 have HC1 := Aside0.mk hc1
 clear hr1 hc1
 have HB := Aside0.mk (Below.refl w.heap.size w)
 have H : ((spec_l5Good.f k l0_0 l0_1).bind fun t152 => (if t152 = true then (spec_l7Good.j0 k l1 (decide ((l1.length : Int) > 6)) l0_0 l0_1) else (spec_l7Good.j0 k l1 true l0_0 l0_1))) = some r := h
 clear h
 have HC3 := Aside0.mk H
 clear H
 go_enter Try.func43, Try.ntmps43
 go_upto_region 1 with (first | ((with_reducible refine gate_dst (N := 2) rfl ?_); refine box_event ?hg (N := 2) ?hd (cs := #[.slice A0_0 l0_0.length c0_0, .slice A0_1 l0_1.length c0_1]) (t := 33) ?hr ?_; (case hd => rfl); (case hg => rfl); (case hr => first | (go_simp; done) | (go_simp; rfl)); intro gb151 hg w4 hbox hb; have n0_ := Aside0.mk (below_step (wz_ HB.out) hb); have n1_ := Aside0.mk (hbox); have n2_ := Aside0.mk ((by rw [hg]; exact (below_size (wz_ HB.out)) : w.heap.size ≤ gb151)); have n3_ := Aside0.mk ((by rw [hg]; exact (below_size (wz_ HB.out)) : w.heap.size ≤ gb151)); clear HB; have HB := n0_; have BK151 := n1_; have GW151 := n2_; have GE151 := n3_; clear n0_ n1_ n2_ n3_; clear hb hbox hg))
 (try simp only [Act.put, List.setIfInBounds_toArray, List.set_cons_zero, List.set_cons_succ])
 go_cut [16] (fun v16 wc => ∃ (kq : Nat) (x16_2 : Bool), v16 = .bool x16_2 ∧ Aside0 (spec_l7Good.j0 kq l1 x16_2 l0_0 l0_1 = some r) ∧ Aside0 (kq ≤ k) ∧ Aside0 (wc.heap[gb151]? = some (.cells #[(.slice A0_0 l0_0.length c0_0), (.slice A0_1 l0_1.length c0_1)] 33 (0, 0))) ∧ Aside0 (Below w.heap.size w wc))
 case first =>
  have H := HC3.out
  clear HC3
  replace H := Option.bind_eq_some_iff.mp H
  obtain ⟨t152, A50, H⟩ := H
  replace H : (if t152 = true then (spec_l7Good.j0 k l1 (decide ((l1.length : Int) > 6)) l0_0 l0_1) else (spec_l7Good.j0 k l1 true l0_0 l0_1)) = some r := H
  have A5 := Aside0.mk A50
  clear A50
  by_cases c6 : t152 = true
  ·subst c6
   have H1 : (spec_l7Good.j0 k l1 (decide ((l1.length : Int) > 6)) l0_0 l0_1) = some r := by rw [if_pos rfl] at H; exact H
   clear H
   have H := H1
   clear H1
   have H' := Aside0.mk H
   clear H
   have hcz7_0 : w4.cell? ⟨gb151, 0, none⟩ = some (.slice A0_0 l0_0.length c0_0) := (blk_cell BK151.out 0).trans rfl
   have hcz7_1 : w4.cell? ⟨gb151, 1, none⟩ = some (.slice A0_1 l0_1.length c0_1) := (blk_cell BK151.out 1).trans rfl
   have hfz7_0 := blk_frozen BK151.out 0
   have hfz7_1 := blk_frozen BK151.out 1
   go_wp2_with (first | ((with_reducible refine gate_callee (f := 76) rfl ?_); refine goesL_ (some 10) rfl rfl Try.func76 (by kernel_rfl) rfl #[.agg #[.slice A0_0 l0_0.length c0_0, .slice A0_1 l0_1.length c0_1]] rfl (by (try simp only [List.map_toArray, List.map_cons, List.map_nil]); first | done | rfl | (simp only [List.length_drop, List.length_take]; rfl)) ?_; (with_reducible refine (spec_l5Good.calls k _ _ l0_0 _ _ l0_1 true _ ?side1 ?side2 ?side3 ?side4 A5.out).mono ?_); (case side1 => exact cz_ (Kd.C_below HR0_0.out HB.out)); (case side2 => exact HC0_0.out); (case side3 => exact cz_ (Kd.C_below HR0_1.out HB.out)); (case side4 => exact HC0_1.out); rintro e w8 ⟨rfl, hb⟩; refine ⟨_, rfl, ?_⟩; have n0_ := Aside0.mk (blk_below (bz_ BK151.out) hb); have n1_ := Aside0.mk (below_step (by repeat (first | (with_reducible first | exact HB.out | apply below_alloc | apply pw_below_drewN | apply below_drew1 | refine below_set ?_ GE151.out) | exact HB.out)) hb); clear BK151; clear HB; have BK151 := n0_; have HB := n1_; clear n0_ n1_; (try clear hb); (try clear hb2); (try clear hk); (try clear hi)))
   go_meet
   case rel => exact ⟨_, (decide ((l1.length : Int) > 6)), (by first | rfl | (simp; done) | (simp [*]; done)), H', ⟨by first | omega | exact Nat.le_refl _⟩, ⟨bz_ BK151.out⟩, ⟨by repeat (first | (with_reducible first | exact HB.out | apply below_alloc | apply pw_below_drewN | apply below_drew1 | refine below_set ?_ GE151.out) | exact HB.out)⟩⟩
  ·replace c6 := Bool.eq_false_iff.mpr c6
   subst c6
   have H1 : (spec_l7Good.j0 k l1 true l0_0 l0_1) = some r := by rw [if_neg (show ¬ (false = true) by decide)] at H; exact H
   clear H
   have H := H1
   clear H1
   have H' := Aside0.mk H
   clear H
   have hcz9_0 : w4.cell? ⟨gb151, 0, none⟩ = some (.slice A0_0 l0_0.length c0_0) := (blk_cell BK151.out 0).trans rfl
   have hcz9_1 : w4.cell? ⟨gb151, 1, none⟩ = some (.slice A0_1 l0_1.length c0_1) := (blk_cell BK151.out 1).trans rfl
   have hfz9_0 := blk_frozen BK151.out 0
   have hfz9_1 := blk_frozen BK151.out 1
   go_wp2_with (first | ((with_reducible refine gate_callee (f := 76) rfl ?_); refine goesL_ (some 10) rfl rfl Try.func76 (by kernel_rfl) rfl #[.agg #[.slice A0_0 l0_0.length c0_0, .slice A0_1 l0_1.length c0_1]] rfl (by (try simp only [List.map_toArray, List.map_cons, List.map_nil]); first | done | rfl | (simp only [List.length_drop, List.length_take]; rfl)) ?_; (with_reducible refine (spec_l5Good.calls k _ _ l0_0 _ _ l0_1 false _ ?side1 ?side2 ?side3 ?side4 A5.out).mono ?_); (case side1 => exact cz_ (Kd.C_below HR0_0.out HB.out)); (case side2 => exact HC0_0.out); (case side3 => exact cz_ (Kd.C_below HR0_1.out HB.out)); (case side4 => exact HC0_1.out); rintro e w10 ⟨rfl, hb⟩; refine ⟨_, rfl, ?_⟩; have n0_ := Aside0.mk (blk_below (bz_ BK151.out) hb); have n1_ := Aside0.mk (below_step (by repeat (first | (with_reducible first | exact HB.out | apply below_alloc | apply pw_below_drewN | apply below_drew1 | refine below_set ?_ GE151.out) | exact HB.out)) hb); clear BK151; clear HB; have BK151 := n0_; have HB := n1_; clear n0_ n1_; (try clear hb); (try clear hb2); (try clear hk); (try clear hi)))
   go_meet
   case rel => exact ⟨_, (true), (by first | rfl | (simp; done) | (simp [*]; done)), H', ⟨by first | omega | exact Nat.le_refl _⟩, ⟨bz_ BK151.out⟩, ⟨by repeat (first | (with_reducible first | exact HB.out | apply below_alloc | apply pw_below_drewN | apply below_drew1 | refine below_set ?_ GE151.out) | exact HB.out)⟩⟩
 case rest =>
  clear HC3
  try clear c1
  try clear p2
  try clear c4
  try clear c6
  try clear c7
  try clear hcz7_0
  try clear hcz7_1
  try clear hcz9_0
  try clear hcz9_1
  try clear hfz7_0
  try clear hfz7_1
  try clear hfz9_0
  try clear hfz9_1
  obtain ⟨kq, x16_2, rfl, HA, HJ2, BK151, HB⟩ := hcut
  cases kq with
  | zero => exact absurd HA.out (by simp [spec_l7Good.j0])
  | succ kj2 =>
   have H := HA.out
   clear HA
   simp only [spec_l7Good.j0] at H
   by_cases c11 : x16_2 = true
   ·subst c11
    have H1 : (some false) = some r := by rw [if_pos rfl] at H; exact H
    clear H
    have H := H1
    clear H1
    obtain rfl := Option.some.inj H
    go_wp2
    go_ret
    exact ⟨by first | rfl | (simp [errW_none, errW_some] <;> rfl) | (simp [*, errW_none, errW_some] <;> rfl), by repeat (first | (with_reducible first | exact HB.out | apply below_alloc | apply pw_below_drewN | apply below_drew1 | refine below_set ?_ GE151.out) | exact HB.out)⟩
   ·replace c11 := Bool.eq_false_iff.mpr c11
    subst c11
    have H1 : (spec_l7Good.l0 kj2 l1 0 l0_0 l0_1) = some r := by rw [if_neg (show ¬ (false = true) by decide)] at H; exact H
    clear H
    have H := H1
    clear H1
    have H' := Aside0.mk H
    clear H
    go_wp2
    go_loopg [5] kj2 (fun kq v5 w' => ∃ (x5_2 : Int), v5 = .int .i64 x5_2 ∧ Aside0 (spec_l7Good.l0 kq l1 x5_2 l0_0 l0_1 = some r) ∧ Aside0 (kq ≤ kj2) ∧ Aside0 (w'.heap[gb151]? = some (.cells #[(.slice A0_0 l0_0.length c0_0), (.slice A0_1 l0_1.length c0_1)] 33 (0, 0))) ∧ Aside0 (Below w.heap.size w w'))
    case atStart => exact ⟨(0), (by first | rfl | (simp; done) | (simp [*]; done)), H', ⟨Nat.le_refl _⟩, ⟨bz_ BK151.out⟩, ⟨by repeat (first | (with_reducible first | exact HB.out | apply below_alloc | apply pw_below_drewN | apply below_drew1 | refine below_set ?_ GE151.out) | exact HB.out)⟩⟩
    case round =>
     clear H'
     try clear c1
     try clear p2
     try clear c4
     try clear c6
     try clear c7
     try clear c11
     try clear hcz7_0
     try clear hcz7_1
     try clear hcz9_0
     try clear hcz9_1
     try clear hfz7_0
     try clear hfz7_1
     try clear hfz9_0
     try clear hfz9_1
     try clear p2
     obtain ⟨x5_2, rfl, HA, HK2, BK151, HB⟩ := hrel
     cases gk with
     | zero => exact absurd HA.out (by simp [spec_l7Good.l0])
     | succ k2 =>
      have H := HA.out
      clear HA
      simp only [spec_l7Good.l0] at H
      by_cases c12 : x5_2 < (l1.length : Int)
      ·rw [if_pos c12] at H
       have c12b0 : decide (x5_2 < (l1.length : Int)) = true := decide_eq_true c12
       clear c12
       by_cases c13 : 0 ≤ x5_2
       ·rw [if_pos c13] at H
        have c13b0 : decide (0 ≤ x5_2) = true := decide_eq_true c13
        clear c13
        have HC14 := Aside0.mk H
        clear H
        have p153 : 0 ≤ (x5_2 : Int) := od_
        have q153 : x5_2 < (l1.length : Int) := od_
        obtain ⟨ad153, A153_1, c153_1, e153, hx153_0, hx153_1, hl153_1, hi153_1⟩ := at_T64 HR1.out x5_2 p153 q153
        cases e153
        replace hx153_0 := lc_ HB.out hx153_0
        replace hx153_1 := lc_ HB.out hx153_1
        have HR153_1 := Aside0.mk hi153_1
        have HC153_1 := Aside0.mk hl153_1
        clear hi153_1 hl153_1
        replace p153 := eq_true p153
        replace q153 := eq_true q153
        go_upto_region 7 with (first | ((with_reducible refine gate_dst (N := 6) rfl ?_); refine box_event ?hg (N := 6) ?hd (cs := #[.string (⟨#[]⟩ : ByteArray), .slice none 0 0]) (t := 64) ?hr ?_; (case hd => rfl); (case hg => rfl); (case hr => first | (go_simp; done) | (go_simp; rfl)); intro gb154 hg w15 hbox hb; have n0_ := Aside0.mk (blk_below (bz_ BK151.out) hb); have n1_ := Aside0.mk (below_step (by repeat (first | (with_reducible first | exact HB.out | apply below_alloc | apply pw_below_drewN | apply below_drew1 | refine below_set ?_ GE151.out) | exact HB.out)) hb); have n2_ := Aside0.mk (hbox); have n3_ := Aside0.mk ((by rw [hg]; exact (below_size (by repeat (first | (with_reducible first | exact HB.out | apply below_alloc | apply pw_below_drewN | apply below_drew1 | refine below_set ?_ GE151.out) | exact HB.out))) : w.heap.size ≤ gb154)); have n4_ := Aside0.mk ((by rw [hg]; exact (below_size (by repeat (first | (with_reducible first | exact HB.out | apply below_alloc | apply pw_below_drewN | apply below_drew1 | refine below_set ?_ GE151.out) | exact HB.out))) : w.heap.size ≤ gb154)); have n5_ := Aside0.mk ((by rw [hg]; exact Nat.ne_of_lt (blk_lt (g := gb151) (o := .cells #[.slice A0_0 l0_0.length c0_0, .slice A0_1 l0_1.length c0_1] 33 (0, 0)) (bz_ BK151.out)) : gb151 ≠ gb154)); have n6_ := Aside0.mk ((by rw [hg]; exact Nat.ne_of_gt (blk_lt (g := gb151) (o := .cells #[.slice A0_0 l0_0.length c0_0, .slice A0_1 l0_1.length c0_1] 33 (0, 0)) (bz_ BK151.out)) : gb154 ≠ gb151)); clear BK151; clear HB; have BK151 := n0_; have HB := n1_; have BK154 := n2_; have GW154 := n3_; have GE154 := n4_; have NB151_154 := n5_; have NB154_151 := n6_; clear n0_ n1_ n2_ n3_ n4_ n5_ n6_; clear hb hbox hg; have hnb16 := NB154_151.out; have hnc16 := NB151_154.out; have hcz17_0 : w15.cell? ⟨gb154, 0, none⟩ = some (.string (⟨#[]⟩ : ByteArray)) := (blk_cell BK154.out 0).trans rfl; have hcz17_1 : w15.cell? ⟨gb154, 1, none⟩ = some (.slice none 0 0) := (blk_cell BK154.out 1).trans rfl; have hfz17_0 := blk_frozen BK154.out 0; have hfz17_1 := blk_frozen BK154.out 1))
        (try simp only [Act.put, List.setIfInBounds_toArray, List.set_cons_zero, List.set_cons_succ])
        go_cut [42] (fun v42 wc => ∃ (kq : Nat) (x42_13 : Bool), v42 = .bool x42_13 ∧ Aside0 (spec_l7Good.j2 kq l1 x5_2 x42_13 l0_0 l0_1 ((rd_T64 l1 x5_2).f0) ((rd_T64 l1 x5_2).f1) = some r) ∧ Aside0 (kq ≤ k2) ∧ Aside0 (wc.heap[gb151]? = some (.cells #[(.slice A0_0 l0_0.length c0_0), (.slice A0_1 l0_1.length c0_1)] 33 (0, 0))) ∧ Aside0 (wc.heap[gb154]? = some (.cells #[.string ((rd_T64 l1 x5_2).f0), (.slice A153_1 ((rd_T64 l1 x5_2).f1).length c153_1)] 64 (0, 0))) ∧ Aside0 (Below w.heap.size w wc))
        case first =>
         have H := HC14.out
         clear HC14
         replace H := Option.bind_eq_some_iff.mp H
         obtain ⟨t155, A180, H⟩ := H
         replace H : (if t155 = true then (if (((rd_T64 l1 x5_2).f1).length : Int) = 0 then (spec_l7Good.j2 k2 l1 x5_2 true l0_0 l0_1 ((rd_T64 l1 x5_2).f0) ((rd_T64 l1 x5_2).f1)) else ((spec_l1Rising.f k2 ((rd_T64 l1 x5_2).f1) 1 999).bind fun t156 => (spec_l7Good.j2 k2 l1 x5_2 (!t156) l0_0 l0_1 ((rd_T64 l1 x5_2).f0) ((rd_T64 l1 x5_2).f1)))) else (spec_l7Good.j2 k2 l1 x5_2 true l0_0 l0_1 ((rd_T64 l1 x5_2).f0) ((rd_T64 l1 x5_2).f1))) = some r := H
         have A18 := Aside0.mk A180
         clear A180
         by_cases c19 : t155 = true
         ·subst c19
          have H1 : (if (((rd_T64 l1 x5_2).f1).length : Int) = 0 then (spec_l7Good.j2 k2 l1 x5_2 true l0_0 l0_1 ((rd_T64 l1 x5_2).f0) ((rd_T64 l1 x5_2).f1)) else ((spec_l1Rising.f k2 ((rd_T64 l1 x5_2).f1) 1 999).bind fun t156 => (spec_l7Good.j2 k2 l1 x5_2 (!t156) l0_0 l0_1 ((rd_T64 l1 x5_2).f0) ((rd_T64 l1 x5_2).f1)))) = some r := by rw [if_pos rfl] at H; exact H
          clear H
          have H := H1
          clear H1
          by_cases c20 : (((rd_T64 l1 x5_2).f1).length : Int) = 0
          ·rw [if_pos c20] at H
           have c20b0 : ((((rd_T64 l1 x5_2).f1).length : Int) == 0) = true := beq_iff_eq.mpr c20
           have c20b1 : ((((rd_T64 l1 x5_2).f1).length : Int) != 0) = false := bne_eq_false_iff_eq.mpr c20
           clear c20
           (first | rw [c20b0] | (simp only [i64_w, i32_w]; rw [c20b0]) | skip)
           have H' := Aside0.mk H
           clear H
           have hnb21 := NB154_151.out
           have hnc21 := NB151_154.out
           have hcz22_0 : w15.cell? ⟨gb154, 0, none⟩ = some (.string (⟨#[]⟩ : ByteArray)) := (blk_cell BK154.out 0).trans rfl
           have hcz22_1 : w15.cell? ⟨gb154, 1, none⟩ = some (.slice none 0 0) := (blk_cell BK154.out 1).trans rfl
           have hfz22_0 := blk_frozen BK154.out 0
           have hfz22_1 := blk_frozen BK154.out 1
           go_wp2_with (first | ((with_reducible refine gate_callee (f := 77) rfl ?_); refine goesL_ (some 29) rfl rfl Try.func77 (by kernel_rfl) rfl #[.string ((rd_T64 l1 x5_2).f0)] rfl (by (try simp only [List.map_toArray, List.map_cons, List.map_nil]); first | done | rfl | (simp only [List.length_drop, List.length_take]; rfl)) ?_; (with_reducible refine (spec_l7Name.calls k2 ((rd_T64 l1 x5_2).f0) true _ A18.out).mono ?_); rintro e w' ⟨rfl, ⟨nd, rfl⟩⟩; refine ⟨_, rfl, ?_⟩))
           go_meet
           case rel => exact ⟨_, (true), (by first | rfl | (simp; done) | (simp [*]; done)), H', ⟨by have := HJ2.out; have := HK2.out; first | omega | exact Nat.le_refl _⟩, ⟨by (with_reducible repeat (first | refine blk_drewN ?_ _ | refine blk_drew ?_ | refine blk_alloc ?_ _)); refine blk_far ?_ NB151_154.out _; (with_reducible repeat (first | refine blk_drewN ?_ _ | refine blk_drew ?_ | refine blk_alloc ?_ _)); refine blk_far ?_ NB151_154.out _; (with_reducible repeat (first | refine blk_drewN ?_ _ | refine blk_drew ?_ | refine blk_alloc ?_ _)); exact BK151.out⟩, ⟨by (with_reducible repeat (first | refine blk_drewN ?_ _ | refine blk_drew ?_ | refine blk_alloc ?_ _)); refine blk_put (cs := #[.string ((rd_T64 l1 x5_2).f0), .slice none 0 0]) ?_ 1 _ rfl; (with_reducible repeat (first | refine blk_drewN ?_ _ | refine blk_drew ?_ | refine blk_alloc ?_ _)); refine blk_put (cs := #[.string (⟨#[]⟩ : ByteArray), .slice none 0 0]) ?_ 0 _ rfl; (with_reducible repeat (first | refine blk_drewN ?_ _ | refine blk_drew ?_ | refine blk_alloc ?_ _)); exact BK154.out⟩, ⟨by repeat (first | (with_reducible first | exact HB.out | apply below_alloc | apply pw_below_drewN | apply below_drew1 | refine below_set ?_ GE151.out | refine below_set ?_ GE154.out) | exact HB.out)⟩⟩
          ·rw [if_neg c20] at H
           have c20b0 : ((((rd_T64 l1 x5_2).f1).length : Int) == 0) = false := beq_eq_false_iff_ne.mpr c20
           have c20b1 : ((((rd_T64 l1 x5_2).f1).length : Int) != 0) = true := bne_iff_ne.mpr c20
           have c20b2 : ¬ (((rd_T64 l1 x5_2).f1) = []) := fun h_ => c20 (by rw [h_]; rfl)
           (first | rw [c20b0] | (simp only [i64_w, i32_w]; rw [c20b0]) | skip)
           replace H := Option.bind_eq_some_iff.mp H
           obtain ⟨t156, A230, H⟩ := H
           replace H : (spec_l7Good.j2 k2 l1 x5_2 (!t156) l0_0 l0_1 ((rd_T64 l1 x5_2).f0) ((rd_T64 l1 x5_2).f1)) = some r := H
           have A23 := Aside0.mk A230
           clear A230
           have H' := Aside0.mk H
           clear H
           have hnb24 := NB154_151.out
           have hnc24 := NB151_154.out
           have hcz25_0 : w15.cell? ⟨gb154, 0, none⟩ = some (.string (⟨#[]⟩ : ByteArray)) := (blk_cell BK154.out 0).trans rfl
           have hcz25_1 : w15.cell? ⟨gb154, 1, none⟩ = some (.slice none 0 0) := (blk_cell BK154.out 1).trans rfl
           have hfz25_0 := blk_frozen BK154.out 0
           have hfz25_1 := blk_frozen BK154.out 1
           go_wp2_with (first | ((with_reducible refine gate_callee (f := 77) rfl ?_); refine goesL_ (some 29) rfl rfl Try.func77 (by kernel_rfl) rfl #[.string ((rd_T64 l1 x5_2).f0)] rfl (by (try simp only [List.map_toArray, List.map_cons, List.map_nil]); first | done | rfl | (simp only [List.length_drop, List.length_take]; rfl)) ?_; (with_reducible refine (spec_l7Name.calls k2 ((rd_T64 l1 x5_2).f0) true _ A18.out).mono ?_); rintro e w' ⟨rfl, ⟨nd, rfl⟩⟩; refine ⟨_, rfl, ?_⟩) | (go_at_call 78; (with_reducible refine (spec_l1Rising.calls k2 _ _ ((rd_T64 l1 x5_2).f1) 1 999 t156 _ ?side1 ?side2 A23.out).mono ?_); (case side1 => exact Kd.C_below HR153_1.out (by repeat (first | (with_reducible first | exact HB.out | apply below_alloc | apply pw_below_drewN | apply below_drew1 | refine below_set ?_ GE151.out | refine below_set ?_ GE154.out) | exact HB.out))); (case side2 => exact HC153_1.out); rintro e w' ⟨rfl, ⟨nd, rfl⟩⟩))
           go_meet
           case rel => exact ⟨_, (!t156), (by first | rfl | (simp; done) | (simp [*]; done)), H', ⟨by have := HJ2.out; have := HK2.out; first | omega | exact Nat.le_refl _⟩, ⟨by (with_reducible repeat (first | refine blk_drewN ?_ _ | refine blk_drew ?_ | refine blk_alloc ?_ _)); refine blk_far ?_ NB151_154.out _; (with_reducible repeat (first | refine blk_drewN ?_ _ | refine blk_drew ?_ | refine blk_alloc ?_ _)); refine blk_far ?_ NB151_154.out _; (with_reducible repeat (first | refine blk_drewN ?_ _ | refine blk_drew ?_ | refine blk_alloc ?_ _)); exact BK151.out⟩, ⟨by (with_reducible repeat (first | refine blk_drewN ?_ _ | refine blk_drew ?_ | refine blk_alloc ?_ _)); refine blk_put (cs := #[.string ((rd_T64 l1 x5_2).f0), .slice none 0 0]) ?_ 1 _ rfl; (with_reducible repeat (first | refine blk_drewN ?_ _ | refine blk_drew ?_ | refine blk_alloc ?_ _)); refine blk_put (cs := #[.string (⟨#[]⟩ : ByteArray), .slice none 0 0]) ?_ 0 _ rfl; (with_reducible repeat (first | refine blk_drewN ?_ _ | refine blk_drew ?_ | refine blk_alloc ?_ _)); exact BK154.out⟩, ⟨by repeat (first | (with_reducible first | exact HB.out | apply below_alloc | apply pw_below_drewN | apply below_drew1 | refine below_set ?_ GE151.out | refine below_set ?_ GE154.out) | exact HB.out)⟩⟩
         ·replace c19 := Bool.eq_false_iff.mpr c19
          subst c19
          have H1 : (spec_l7Good.j2 k2 l1 x5_2 true l0_0 l0_1 ((rd_T64 l1 x5_2).f0) ((rd_T64 l1 x5_2).f1)) = some r := by rw [if_neg (show ¬ (false = true) by decide)] at H; exact H
          clear H
          have H := H1
          clear H1
          have H' := Aside0.mk H
          clear H
          have hnb26 := NB154_151.out
          have hnc26 := NB151_154.out
          have hcz27_0 : w15.cell? ⟨gb154, 0, none⟩ = some (.string (⟨#[]⟩ : ByteArray)) := (blk_cell BK154.out 0).trans rfl
          have hcz27_1 : w15.cell? ⟨gb154, 1, none⟩ = some (.slice none 0 0) := (blk_cell BK154.out 1).trans rfl
          have hfz27_0 := blk_frozen BK154.out 0
          have hfz27_1 := blk_frozen BK154.out 1
          go_wp2_with (first | ((with_reducible refine gate_callee (f := 77) rfl ?_); refine goesL_ (some 29) rfl rfl Try.func77 (by kernel_rfl) rfl #[.string ((rd_T64 l1 x5_2).f0)] rfl (by (try simp only [List.map_toArray, List.map_cons, List.map_nil]); first | done | rfl | (simp only [List.length_drop, List.length_take]; rfl)) ?_; (with_reducible refine (spec_l7Name.calls k2 ((rd_T64 l1 x5_2).f0) false _ A18.out).mono ?_); rintro e w' ⟨rfl, ⟨nd, rfl⟩⟩; refine ⟨_, rfl, ?_⟩))
          go_meet
          case rel => exact ⟨_, (true), (by first | rfl | (simp; done) | (simp [*]; done)), H', ⟨by have := HJ2.out; have := HK2.out; first | omega | exact Nat.le_refl _⟩, ⟨by (with_reducible repeat (first | refine blk_drewN ?_ _ | refine blk_drew ?_ | refine blk_alloc ?_ _)); refine blk_far ?_ NB151_154.out _; (with_reducible repeat (first | refine blk_drewN ?_ _ | refine blk_drew ?_ | refine blk_alloc ?_ _)); refine blk_far ?_ NB151_154.out _; (with_reducible repeat (first | refine blk_drewN ?_ _ | refine blk_drew ?_ | refine blk_alloc ?_ _)); exact BK151.out⟩, ⟨by (with_reducible repeat (first | refine blk_drewN ?_ _ | refine blk_drew ?_ | refine blk_alloc ?_ _)); refine blk_put (cs := #[.string ((rd_T64 l1 x5_2).f0), .slice none 0 0]) ?_ 1 _ rfl; (with_reducible repeat (first | refine blk_drewN ?_ _ | refine blk_drew ?_ | refine blk_alloc ?_ _)); refine blk_put (cs := #[.string (⟨#[]⟩ : ByteArray), .slice none 0 0]) ?_ 0 _ rfl; (with_reducible repeat (first | refine blk_drewN ?_ _ | refine blk_drew ?_ | refine blk_alloc ?_ _)); exact BK154.out⟩, ⟨by repeat (first | (with_reducible first | exact HB.out | apply below_alloc | apply pw_below_drewN | apply below_drew1 | refine below_set ?_ GE151.out | refine below_set ?_ GE154.out) | exact HB.out)⟩⟩
        case rest =>
         clear HC14
         try clear c1
         try clear p1
         try clear q1
         try clear hx1
         try clear c2
         try clear p2
         try clear c4
         try clear c6
         try clear c7
         try clear c11
         try clear c12
         try clear c12b0
         try clear c13
         try clear c13b0
         try clear c15
         try clear p15
         try clear q15
         try clear hx15
         try clear c16
         try clear c19
         try clear c20
         try clear c20b0
         try clear c20b1
         try clear c20b2
         try clear c21
         try clear c24
         try clear c26
         try clear hcz17_0
         try clear hcz17_1
         try clear hcz22_0
         try clear hcz22_1
         try clear hcz25_0
         try clear hcz25_1
         try clear hcz27_0
         try clear hcz27_1
         try clear hcz7_0
         try clear hcz7_1
         try clear hcz9_0
         try clear hcz9_1
         try clear hfz17_0
         try clear hfz17_1
         try clear hfz22_0
         try clear hfz22_1
         try clear hfz25_0
         try clear hfz25_1
         try clear hfz27_0
         try clear hfz27_1
         try clear hfz7_0
         try clear hfz7_1
         try clear hfz9_0
         try clear hfz9_1
         try clear hx153_0
         try clear hx153_1
         try clear p153
         try clear p2
         try clear q153
         obtain ⟨kq, x42_13, rfl, HA, HJ13, BK151, BK154, HB⟩ := hcut
         cases kq with
         | zero => exact absurd HA.out (by simp [spec_l7Good.j2])
         | succ kj13 =>
          have H := HA.out
          clear HA
          simp only [spec_l7Good.j2] at H
          by_cases c28 : x42_13 = true
          ·subst c28
           have H1 : (some false) = some r := by rw [if_pos rfl] at H; exact H
           clear H
           have H := H1
           clear H1
           obtain rfl := Option.some.inj H
           go_wp2
           go_ret
           exact ⟨by first | rfl | (simp [errW_none, errW_some] <;> rfl) | (simp [*, errW_none, errW_some] <;> rfl), by repeat (first | (with_reducible first | exact HB.out | apply below_alloc | apply pw_below_drewN | apply below_drew1 | refine below_set ?_ GE151.out | refine below_set ?_ GE154.out) | exact HB.out)⟩
          ·replace c28 := Bool.eq_false_iff.mpr c28
           subst c28
           have H1 : (spec_l7Good.l1 kj13 l1 x5_2 0 l0_0 l0_1 ((rd_T64 l1 x5_2).f0) ((rd_T64 l1 x5_2).f1)) = some r := by rw [if_neg (show ¬ (false = true) by decide)] at H; exact H
           clear H
           have H := H1
           clear H1
           have H' := Aside0.mk H
           clear H
           go_wp2
           go_loopg [7] kj13 (fun kq v7 w' => ∃ (x7_4 : Int), v7 = .int .i64 x7_4 ∧ Aside0 (spec_l7Good.l1 kq l1 x5_2 x7_4 l0_0 l0_1 ((rd_T64 l1 x5_2).f0) ((rd_T64 l1 x5_2).f1) = some r) ∧ Aside0 (kq ≤ kj13) ∧ Aside0 (w'.heap[gb151]? = some (.cells #[(.slice A0_0 l0_0.length c0_0), (.slice A0_1 l0_1.length c0_1)] 33 (0, 0))) ∧ Aside0 (w'.heap[gb154]? = some (.cells #[.string ((rd_T64 l1 x5_2).f0), (.slice A153_1 ((rd_T64 l1 x5_2).f1).length c153_1)] 64 (0, 0))) ∧ Aside0 (Below w.heap.size w w'))
           case atStart => exact ⟨(0), (by first | rfl | (simp; done) | (simp [*]; done)), H', ⟨Nat.le_refl _⟩, ⟨bz_ BK151.out⟩, ⟨bz_ BK154.out⟩, ⟨by repeat (first | (with_reducible first | exact HB.out | apply below_alloc | apply pw_below_drewN | apply below_drew1 | refine below_set ?_ GE151.out | refine below_set ?_ GE154.out) | exact HB.out)⟩⟩
           case round =>
            clear H'
            try clear c1
            try clear p1
            try clear q1
            try clear hx1
            try clear c2
            try clear p2
            try clear c4
            try clear c6
            try clear c7
            try clear c11
            try clear c12
            try clear c12b0
            try clear c13
            try clear c13b0
            try clear c15
            try clear p15
            try clear q15
            try clear hx15
            try clear c16
            try clear c19
            try clear c20
            try clear c20b0
            try clear c20b1
            try clear c20b2
            try clear c21
            try clear c24
            try clear c26
            try clear c28
            try clear hcz17_0
            try clear hcz17_1
            try clear hcz22_0
            try clear hcz22_1
            try clear hcz25_0
            try clear hcz25_1
            try clear hcz27_0
            try clear hcz27_1
            try clear hcz7_0
            try clear hcz7_1
            try clear hcz9_0
            try clear hcz9_1
            try clear hfz17_0
            try clear hfz17_1
            try clear hfz22_0
            try clear hfz22_1
            try clear hfz25_0
            try clear hfz25_1
            try clear hfz27_0
            try clear hfz27_1
            try clear hfz7_0
            try clear hfz7_1
            try clear hfz9_0
            try clear hfz9_1
            try clear hx153_0
            try clear hx153_1
            try clear p1
            try clear p15
            try clear p153
            try clear p2
            try clear q1
            try clear q15
            try clear q153
            obtain ⟨x7_4, rfl, HA, HK4, BK151, BK154, HB⟩ := hrel
            cases gk with
            | zero => exact absurd HA.out (by simp [spec_l7Good.l1])
            | succ k4 =>
             have H := HA.out
             clear HA
             simp only [spec_l7Good.l1] at H
             by_cases c29 : x7_4 < x5_2
             ·rw [if_pos c29] at H
              have c29b0 : decide (x7_4 < x5_2) = true := decide_eq_true c29
              clear c29
              by_cases c30 : 0 ≤ x7_4
              ·rw [if_pos c30] at H
               have c30b0 : decide (0 ≤ x7_4) = true := decide_eq_true c30
               clear c30
               by_cases c31 : x7_4 < (l1.length : Int)
               ·rw [if_pos c31] at H
                have c31b0 : decide (x7_4 < (l1.length : Int)) = true := decide_eq_true c31
                clear c31
                by_cases c32 : ((rd_T64 l1 x7_4).f0).toList = ((rd_T64 l1 x5_2).f0).toList
                ·rw [if_pos c32] at H
                 have c32b0 : (((rd_T64 l1 x7_4).f0).toList == ((rd_T64 l1 x5_2).f0).toList) = true := beq_iff_eq.mpr c32
                 have c32b1 : (((rd_T64 l1 x7_4).f0).toList != ((rd_T64 l1 x5_2).f0).toList) = false := bne_eq_false_iff_eq.mpr c32
                 clear c32
                 obtain rfl := Option.some.inj H
                 try go_wp2
                 have n0_ := Aside0.mk (blk_drew BK151.out)
                 have n1_ := Aside0.mk (blk_drew BK154.out)
                 have n2_ := Aside0.mk (below_drew1 HB.out)
                 clear BK151
                 clear BK154
                 clear HB
                 have BK151 := n0_
                 have BK154 := n1_
                 have HB := n2_
                 clear n0_ n1_ n2_
                 have p157 : 0 ≤ (x7_4 : Int) := od_
                 have q157 : x7_4 < (l1.length : Int) := od_
                 obtain ⟨ad157, A157_1, c157_1, e157, hx157_0, hx157_1, hl157_1, hi157_1⟩ := at_T64 HR1.out x7_4 p157 q157
                 have hw157_1 := hx157_1
                 have hw157_0 := hx157_0
                 obtain rfl : ad153 = ad157 := (by injection e157)
                 replace hx157_0 := lc_ HB.out hx157_0
                 replace hx157_1 := lc_ HB.out hx157_1
                 have HR157_1 := Aside0.mk hi157_1
                 have HC157_1 := Aside0.mk hl157_1
                 clear hi157_1 hl157_1
                 replace p157 := eq_true p157
                 replace q157 := eq_true q157
                 refine start_ (n := 8) (S := fun w' => w'.cell? ⟨gb154, 0, none⟩ = some (.string ((rd_T64 l1 x5_2).f0)) ∧ w'.cell? ⟨gb154, 1, none⟩ = some (.slice A153_1 ((rd_T64 l1 x5_2).f1).length c153_1) ∧ w'.cell? (ad153.add ((x7_4).toNat * 2)) = some (.string ((rd_T64 l1 x7_4).f0)) ∧ w'.cell? ⟨(ad153.add ((x7_4).toNat * 2)).block, (ad153.add ((x7_4).toNat * 2)).off + 1, none⟩ = some (.slice A157_1 ((rd_T64 l1 x7_4).f1).length c157_1)) (ds := []) #[false, false, false, false, false, false, false, false] (by kernel_rfl) rfl rfl ⟨(blk_cell BK154.out 0).trans rfl, (blk_cell BK154.out 1).trans rfl, ((HB.out.cell (World.block_lt_of_cell? w _ hw157_0)).trans hw157_0), ((HB.out.cell (World.block_lt_of_cell? w _ hw157_1)).trans hw157_1)⟩ (fun hHeld => ?_); refine with_tabW spec_l7Good.tab12 spec_l7Good.bits12 (fun HT_ HW_ => ?_)
                 generalize wr.drew = w33 at BK151 BK154 HB HR157_1 hx157_0 hx157_1 hHeld ⊢
                 refine pA_ 0 (some 48) (bl 1 8) HT_.out (h := ?_)
                 refine pA_ 1 (some 49) (bl 2 8) HT_.out (h := ?_)
                 refine pA_ 2 (some 50) (bl 3 8) HT_.out (h := ?_)
                 refine pA_ 3 (some 51) (bl 4 8) HT_.out (h := ?_)
                 refine pA_ 5 (some 53) #[true, true, true, true, false, true, false, false] HT_.out (h := ?_)
                 refine tA_ 4 (some 52) (bl 6 8) HT_.out HW_.out hHeld (h := ?_)
                 refine tA_ 6 (some 54) (bl 7 8) HT_.out HW_.out hHeld (h := ?_)
                 refine pA_ 7 (some 55) (bl 8 8) HT_.out (h := ?_)
                 refine done_ (done_of HT_.out (by kernel_rfl)) ?_
                 try go_wp2
                 go_ret
                 exact ⟨by first | rfl | (simp [errW_none, errW_some] <;> rfl) | (simp [*, errW_none, errW_some] <;> rfl), by repeat (first | (with_reducible first | exact HB.out | apply below_alloc | apply pw_below_drewN | apply below_drew1 | refine below_set ?_ GE151.out | refine below_set ?_ GE154.out) | exact HB.out)⟩
                ·rw [if_neg c32] at H
                 have c32b0 : (((rd_T64 l1 x7_4).f0).toList == ((rd_T64 l1 x5_2).f0).toList) = false := beq_eq_false_iff_ne.mpr c32
                 have c32b1 : (((rd_T64 l1 x7_4).f0).toList != ((rd_T64 l1 x5_2).f0).toList) = true := bne_iff_ne.mpr c32
                 have H' := Aside0.mk H
                 clear H
                 try go_wp2
                 have n0_ := Aside0.mk (blk_drew BK151.out)
                 have n1_ := Aside0.mk (blk_drew BK154.out)
                 have n2_ := Aside0.mk (below_drew1 HB.out)
                 clear BK151
                 clear BK154
                 clear HB
                 have BK151 := n0_
                 have BK154 := n1_
                 have HB := n2_
                 clear n0_ n1_ n2_
                 have p157 : 0 ≤ (x7_4 : Int) := od_
                 have q157 : x7_4 < (l1.length : Int) := od_
                 obtain ⟨ad157, A157_1, c157_1, e157, hx157_0, hx157_1, hl157_1, hi157_1⟩ := at_T64 HR1.out x7_4 p157 q157
                 have hw157_1 := hx157_1
                 have hw157_0 := hx157_0
                 obtain rfl : ad153 = ad157 := (by injection e157)
                 replace hx157_0 := lc_ HB.out hx157_0
                 replace hx157_1 := lc_ HB.out hx157_1
                 have HR157_1 := Aside0.mk hi157_1
                 have HC157_1 := Aside0.mk hl157_1
                 clear hi157_1 hl157_1
                 replace p157 := eq_true p157
                 replace q157 := eq_true q157
                 refine start_ (n := 8) (S := fun w' => w'.cell? ⟨gb154, 0, none⟩ = some (.string ((rd_T64 l1 x5_2).f0)) ∧ w'.cell? ⟨gb154, 1, none⟩ = some (.slice A153_1 ((rd_T64 l1 x5_2).f1).length c153_1) ∧ w'.cell? (ad153.add ((x7_4).toNat * 2)) = some (.string ((rd_T64 l1 x7_4).f0)) ∧ w'.cell? ⟨(ad153.add ((x7_4).toNat * 2)).block, (ad153.add ((x7_4).toNat * 2)).off + 1, none⟩ = some (.slice A157_1 ((rd_T64 l1 x7_4).f1).length c157_1)) (ds := []) #[false, false, false, false, false, false, false, false] (by kernel_rfl) rfl rfl ⟨(blk_cell BK154.out 0).trans rfl, (blk_cell BK154.out 1).trans rfl, ((HB.out.cell (World.block_lt_of_cell? w _ hw157_0)).trans hw157_0), ((HB.out.cell (World.block_lt_of_cell? w _ hw157_1)).trans hw157_1)⟩ (fun hHeld => ?_); refine with_tabW spec_l7Good.tab12 spec_l7Good.bits12 (fun HT_ HW_ => ?_)
                 generalize wr.drew = w34 at BK151 BK154 HB HR157_1 hx157_0 hx157_1 hHeld ⊢
                 refine pA_ 0 (some 48) (bl 1 8) HT_.out (h := ?_)
                 refine pA_ 1 (some 49) (bl 2 8) HT_.out (h := ?_)
                 refine pA_ 2 (some 50) (bl 3 8) HT_.out (h := ?_)
                 refine pA_ 3 (some 51) (bl 4 8) HT_.out (h := ?_)
                 refine pA_ 5 (some 53) #[true, true, true, true, false, true, false, false] HT_.out (h := ?_)
                 refine tA_ 4 (some 52) (bl 6 8) HT_.out HW_.out hHeld (h := ?_)
                 refine tA_ 6 (some 54) (bl 7 8) HT_.out HW_.out hHeld (h := ?_)
                 refine pA_ 7 (some 55) (bl 8 8) HT_.out (h := ?_)
                 refine done_ (done_of HT_.out (by kernel_rfl)) ?_
                 try go_wp2
                 go_roundg k4
                 case measure => have := HJ2.out; have := HK2.out; have := HJ13.out; have := HK4.out; omega
                 case rel => exact ⟨(wrap64 (x7_4 + 1)), (by first | rfl | (simp; done) | (simp [*]; done)), H', ⟨by have := HJ2.out; have := HK2.out; have := HJ13.out; have := HK4.out; omega⟩, ⟨bz_ BK151.out⟩, ⟨bz_ BK154.out⟩, ⟨by repeat (first | (with_reducible first | exact HB.out | apply below_alloc | apply pw_below_drewN | apply below_drew1 | refine below_set ?_ GE151.out | refine below_set ?_ GE154.out) | exact HB.out)⟩⟩
               ·rw [if_neg c31] at H
                exact absurd H (by simp)
              ·rw [if_neg c30] at H
               exact absurd H (by simp)
             ·rw [if_neg c29] at H
              have c29b0 : decide (x7_4 < x5_2) = false := decide_eq_false c29
              clear c29
              have H' := Aside0.mk H
              clear H
              go_wp2
              go_loopg [8] k4 (fun kq v8 w' => ∃ (x8_5 : Int), v8 = .int .i64 x8_5 ∧ Aside0 (spec_l7Good.l2 kq l1 x5_2 x8_5 l0_0 l0_1 ((rd_T64 l1 x5_2).f0) ((rd_T64 l1 x5_2).f1) = some r) ∧ Aside0 (kq ≤ k4) ∧ Aside0 (w'.heap[gb151]? = some (.cells #[(.slice A0_0 l0_0.length c0_0), (.slice A0_1 l0_1.length c0_1)] 33 (0, 0))) ∧ Aside0 (w'.heap[gb154]? = some (.cells #[.string ((rd_T64 l1 x5_2).f0), (.slice A153_1 ((rd_T64 l1 x5_2).f1).length c153_1)] 64 (0, 0))) ∧ Aside0 (Below w.heap.size w w'))
              case atStart => exact ⟨(0), (by first | rfl | (simp; done) | (simp [*]; done)), H', ⟨Nat.le_refl _⟩, ⟨bz_ BK151.out⟩, ⟨bz_ BK154.out⟩, ⟨by repeat (first | (with_reducible first | exact HB.out | apply below_alloc | apply pw_below_drewN | apply below_drew1 | refine below_set ?_ GE151.out | refine below_set ?_ GE154.out) | exact HB.out)⟩⟩
              case round =>
               clear H'
               try clear c1
               try clear p1
               try clear q1
               try clear hx1
               try clear c2
               try clear p2
               try clear c3
               try clear c4
               try clear c6
               try clear p6
               try clear c7
               try clear c11
               try clear c12
               try clear c12b0
               try clear c13
               try clear c13b0
               try clear c15
               try clear p15
               try clear q15
               try clear hx15
               try clear c16
               try clear c19
               try clear c20
               try clear c20b0
               try clear c20b1
               try clear c20b2
               try clear c21
               try clear c24
               try clear c26
               try clear c28
               try clear c29
               try clear c29b0
               try clear c30
               try clear c30b0
               try clear c31
               try clear c31b0
               try clear c32
               try clear c32b0
               try clear c32b1
               try clear hcz17_0
               try clear hcz17_1
               try clear hcz22_0
               try clear hcz22_1
               try clear hcz25_0
               try clear hcz25_1
               try clear hcz27_0
               try clear hcz27_1
               try clear hcz7_0
               try clear hcz7_1
               try clear hcz9_0
               try clear hcz9_1
               try clear hfz17_0
               try clear hfz17_1
               try clear hfz22_0
               try clear hfz22_1
               try clear hfz25_0
               try clear hfz25_1
               try clear hfz27_0
               try clear hfz27_1
               try clear hfz7_0
               try clear hfz7_1
               try clear hfz9_0
               try clear hfz9_1
               try clear hx153_0
               try clear hx153_1
               try clear hx157_0
               try clear hx157_1
               try clear p1
               try clear p15
               try clear p153
               try clear p157
               try clear p2
               try clear q1
               try clear q15
               try clear q153
               try clear q157
               obtain ⟨x8_5, rfl, HA, HK5, BK151, BK154, HB⟩ := hrel
               cases gk with
               | zero => exact absurd HA.out (by simp [spec_l7Good.l2])
               | succ k5 =>
                have H := HA.out
                clear HA
                simp only [spec_l7Good.l2] at H
                by_cases c35 : x8_5 < (((rd_T64 l1 x5_2).f1).length : Int)
                ·rw [if_pos c35] at H
                 have c35b0 : decide (x8_5 < (((rd_T64 l1 x5_2).f1).length : Int)) = true := decide_eq_true c35
                 clear c35
                 by_cases c36 : 0 ≤ x8_5
                 ·rw [if_pos c36] at H
                  have c36b0 : decide (0 ≤ x8_5) = true := decide_eq_true c36
                  clear c36
                  replace H := Option.bind_eq_some_iff.mp H
                  obtain ⟨t159, A370, H⟩ := H
                  replace H : (if t159 < 0 then (some false) else ((spec_l7Phase.f k5 l1 (rd ((rd_T64 l1 x5_2).f1) x8_5)).bind fun t161 => (if t161 = x5_2 then (spec_l7Good.l2 k5 l1 x5_2 (wrap64 (x8_5 + 1)) l0_0 l0_1 ((rd_T64 l1 x5_2).f0) ((rd_T64 l1 x5_2).f1)) else (some false)))) = some r := H
                  have A37 := Aside0.mk A370
                  clear A370
                  by_cases c38 : t159 < 0
                  ·rw [if_pos c38] at H
                   have c38b0 : decide (t159 < 0) = true := decide_eq_true c38
                   clear c38
                   obtain rfl := Option.some.inj H
                   have hnb39 := NB154_151.out
                   have hnc39 := NB151_154.out
                   have hcz40_0 : wr.cell? ⟨gb154, 0, none⟩ = some (.string ((rd_T64 l1 x5_2).f0)) := (blk_cell BK154.out 0).trans rfl
                   have hcz40_1 : wr.cell? ⟨gb154, 1, none⟩ = some (.slice A153_1 ((rd_T64 l1 x5_2).f1).length c153_1) := (blk_cell BK154.out 1).trans rfl
                   have hfz40_0 := blk_frozen BK154.out 0
                   have hfz40_1 := blk_frozen BK154.out 1
                   try go_wp2
                   have n0_ := Aside0.mk (blk_drew BK151.out)
                   have n1_ := Aside0.mk (blk_drew BK154.out)
                   have n2_ := Aside0.mk (below_drew1 HB.out)
                   clear BK151
                   clear BK154
                   clear HB
                   have BK151 := n0_
                   have BK154 := n1_
                   have HB := n2_
                   clear n0_ n1_ n2_
                   have p158 : 0 ≤ (x8_5 : Int) := od_
                   have q158 : x8_5 < (((rd_T64 l1 x5_2).f1).length : Int) := od_
                   obtain ⟨ad158, e158, hx158_0⟩ := Kd.at_int HR153_1.out x8_5 p158 q158
                   have hw158_0 := hx158_0
                   cases e158
                   replace hx158_0 := lc_ HB.out hx158_0
                   replace p158 := eq_true p158
                   replace q158 := eq_true q158
                   refine start_ (n := 19) (S := fun w' => w'.cell? ⟨gb151, 0, none⟩ = some (.slice A0_0 l0_0.length c0_0) ∧ w'.cell? ⟨gb151, 1, none⟩ = some (.slice A0_1 l0_1.length c0_1) ∧ w'.cell? ⟨gb154, 0, none⟩ = some (.string ((rd_T64 l1 x5_2).f0)) ∧ w'.cell? ⟨gb154, 1, none⟩ = some (.slice (some ad158) ((rd_T64 l1 x5_2).f1).length c153_1) ∧ w'.cell? (ad158.add (x8_5).toNat) = some (.int .i64 (rd ((rd_T64 l1 x5_2).f1) x8_5))) (ds := []) #[false, false, false, false, false, false, false, false, false, false, false, false, false, false, false, false, false, false, false] (by kernel_rfl) rfl rfl ⟨(blk_cell BK151.out 0).trans rfl, (blk_cell BK151.out 1).trans rfl, (blk_cell BK154.out 0).trans rfl, (blk_cell BK154.out 1).trans rfl, ((HB.out.cell (World.block_lt_of_cell? w _ hw158_0)).trans hw158_0)⟩ (fun hHeld => ?_); refine with_tabW spec_l7Good.tab17 spec_l7Good.bits17 (fun HT_ HW_ => ?_)
                   generalize wr.drew = w41 at BK151 BK154 HB hx158_0 hHeld ⊢
                   refine pA_ 1 (some 64) #[false, true, false, false, false, false, false, false, false, false, false, false, false, false, false, false, false, false, false] HT_.out (h := ?_)
                   refine pA_ 3 (some 66) #[false, true, false, true, false, false, false, false, false, false, false, false, false, false, false, false, false, false, false] HT_.out (h := ?_)
                   refine tA_ 0 (some 63) #[true, true, false, true, false, false, false, false, false, false, false, false, false, false, false, false, false, false, false] HT_.out HW_.out hHeld (h := ?_)
                   refine tA_ 2 (some 65) (bl 4 19) HT_.out HW_.out hHeld (h := ?_)
                   refine pA_ 4 (some 67) (bl 5 19) HT_.out (h := ?_)
                   refine tA_ 5 (some 68) (bl 6 19) HT_.out HW_.out hHeld (h := ?_)
                   refine one_ (i := 6) (N := some 69) (bl 7 19) rfl rfl (one_of HT_.out (by kernel_rfl)) (by decide) (fun K hK => ?_)
                   refine goes_ Try.func51 (by kernel_rfl) rfl #[.agg #[.slice A0_0 l0_0.length c0_0, .slice A0_1 l0_1.length c0_1], .int .i64 (rd ((rd_T64 l1 x5_2).f1) x8_5)] (by rfl) rfl rfl (by (try simp only [List.map_toArray, List.map_cons, List.map_nil]); first | done | rfl | (simp only [List.length_drop, List.length_take]; rfl)) ?_
                   with_reducible refine (spec_l2Find.calls _ _ l0_0 _ _ l0_1 (rd ((rd_T64 l1 x5_2).f1) x8_5) t159 _ ?side1 ?side2 ?side3 ?side4 A37.out).mono ?_
                   (case side1 => exact cz_ (Kd.C_below HR0_0.out HB.out))
                   (case side2 => exact HC0_0.out)
                   (case side3 => exact cz_ (Kd.C_below HR0_1.out HB.out))
                   (case side4 => exact HC0_1.out)
                   rintro e w42 ⟨rfl, hb⟩
                   refine ⟨_, rfl, ?_⟩
                   have n0_ := Aside0.mk (blk_below (bz_ BK151.out) hb)
                   have n1_ := Aside0.mk (blk_below (bz_ BK154.out) hb)
                   have n2_ := Aside0.mk (below_step (by repeat (first | (with_reducible first | exact HB.out | apply below_alloc | apply pw_below_drewN | apply below_drew1 | refine below_set ?_ GE151.out | refine below_set ?_ GE154.out) | exact HB.out)) hb)
                   clear BK151
                   clear BK154
                   clear HB
                   have BK151 := n0_
                   have BK154 := n1_
                   have HB := n2_
                   clear n0_ n1_ n2_
                   (try clear hb)
                   (try clear hb2)
                   (try clear hk)
                   (try clear hi)
                   refine hK.out _ _ ⟨(blk_cell BK151.out 0).trans rfl, (blk_cell BK151.out 1).trans rfl, (blk_cell BK154.out 0).trans rfl, (blk_cell BK154.out 1).trans rfl, ((HB.out.cell (World.block_lt_of_cell? w _ hw158_0)).trans hw158_0)⟩ (fun hHeld => ?_)
                   clear hK K
                   refine norm_ (a' := ?_) ?_ ?_
                   rotate_left
                   ·show Act.put _ (some 69) _ = _
                    simp only [Act.put, List.setIfInBounds_toArray, List.set_cons_zero, List.set_cons_succ, i64_w, i32_w]
                    rfl
                   refine pA_ 7 (some 70) (bl 8 19) HT_.out (h := ?_)
                   refine pA_ 8 (some 71) (bl 9 19) HT_.out (h := ?_)
                   refine pO_ 9 (some 72) (bl 10 19) HT_.out (h := ?_)
                   refine pO_ 10 (some 73) (bl 11 19) HT_.out (h := ?_)
                   refine pO_ 11 (some 74) (bl 12 19) HT_.out (h := ?_)
                   refine pO_ 12 (some 75) (bl 13 19) HT_.out (h := ?_)
                   refine pO_ 13 (some 76) (bl 14 19) HT_.out (h := ?_)
                   refine pO_ 14 (some 77) (bl 15 19) HT_.out (h := ?_)
                   refine pO_ 15 (some 78) (bl 16 19) HT_.out (h := ?_)
                   refine pO_ 16 (some 79) (bl 17 19) HT_.out (h := ?_)
                   refine pO_ 17 (some 80) (bl 18 19) HT_.out (h := ?_)
                   refine pA_ 18 (some 81) (bl 19 19) HT_.out (h := ?_)
                   refine done_ (done_of HT_.out (by kernel_rfl)) ?_
                   try go_wp2
                   go_ret
                   exact ⟨by first | rfl | (simp [errW_none, errW_some] <;> rfl) | (simp [*, errW_none, errW_some] <;> rfl), by repeat (first | (with_reducible first | exact HB.out | apply below_alloc | apply pw_below_drewN | apply below_drew1 | refine below_set ?_ GE151.out | refine below_set ?_ GE154.out) | exact HB.out)⟩
                  ·rw [if_neg c38] at H
                   have c38b0 : decide (t159 < 0) = false := decide_eq_false c38
                   clear c38
                   replace H := Option.bind_eq_some_iff.mp H
                   obtain ⟨t161, A430, H⟩ := H
                   replace H : (if t161 = x5_2 then (spec_l7Good.l2 k5 l1 x5_2 (wrap64 (x8_5 + 1)) l0_0 l0_1 ((rd_T64 l1 x5_2).f0) ((rd_T64 l1 x5_2).f1)) else (some false)) = some r := H
                   have A43 := Aside0.mk A430
                   clear A430
                   by_cases c44 : t161 = x5_2
                   ·rw [if_pos c44] at H
                    have c44b0 : (t161 == x5_2) = true := beq_iff_eq.mpr c44
                    have c44b1 : (t161 != x5_2) = false := bne_eq_false_iff_eq.mpr c44
                    clear c44
                    have H' := Aside0.mk H
                    clear H
                    have hnb45 := NB154_151.out
                    have hnc45 := NB151_154.out
                    have hcz46_0 : wr.cell? ⟨gb154, 0, none⟩ = some (.string ((rd_T64 l1 x5_2).f0)) := (blk_cell BK154.out 0).trans rfl
                    have hcz46_1 : wr.cell? ⟨gb154, 1, none⟩ = some (.slice A153_1 ((rd_T64 l1 x5_2).f1).length c153_1) := (blk_cell BK154.out 1).trans rfl
                    have hfz46_0 := blk_frozen BK154.out 0
                    have hfz46_1 := blk_frozen BK154.out 1
                    try go_wp2
                    have n0_ := Aside0.mk (blk_drew BK151.out)
                    have n1_ := Aside0.mk (blk_drew BK154.out)
                    have n2_ := Aside0.mk (below_drew1 HB.out)
                    clear BK151
                    clear BK154
                    clear HB
                    have BK151 := n0_
                    have BK154 := n1_
                    have HB := n2_
                    clear n0_ n1_ n2_
                    have p158 : 0 ≤ (x8_5 : Int) := od_
                    have q158 : x8_5 < (((rd_T64 l1 x5_2).f1).length : Int) := od_
                    obtain ⟨ad158, e158, hx158_0⟩ := Kd.at_int HR153_1.out x8_5 p158 q158
                    have hw158_0 := hx158_0
                    cases e158
                    replace hx158_0 := lc_ HB.out hx158_0
                    replace p158 := eq_true p158
                    replace q158 := eq_true q158
                    have p160 : 0 ≤ (x8_5 : Int) := od_
                    have q160 : x8_5 < (((rd_T64 l1 x5_2).f1).length : Int) := od_
                    obtain ⟨ad160, e160, hx160_0⟩ := Kd.at_int HR153_1.out x8_5 p160 q160
                    have hw160_0 := hx160_0
                    obtain rfl : ad158 = ad160 := (by injection e160)
                    replace hx160_0 := lc_ HB.out hx160_0
                    replace p160 := eq_true p160
                    replace q160 := eq_true q160
                    refine start_ (n := 19) (S := fun w' => w'.cell? ⟨gb151, 0, none⟩ = some (.slice A0_0 l0_0.length c0_0) ∧ w'.cell? ⟨gb151, 1, none⟩ = some (.slice A0_1 l0_1.length c0_1) ∧ w'.cell? ⟨gb154, 0, none⟩ = some (.string ((rd_T64 l1 x5_2).f0)) ∧ w'.cell? ⟨gb154, 1, none⟩ = some (.slice (some ad158) ((rd_T64 l1 x5_2).f1).length c153_1) ∧ w'.cell? (ad158.add (x8_5).toNat) = some (.int .i64 (rd ((rd_T64 l1 x5_2).f1) x8_5)) ∧ w'.cell? (ad158.add (x8_5).toNat) = some (.int .i64 (rd ((rd_T64 l1 x5_2).f1) x8_5))) (ds := []) #[false, false, false, false, false, false, false, false, false, false, false, false, false, false, false, false, false, false, false] (by kernel_rfl) rfl rfl ⟨(blk_cell BK151.out 0).trans rfl, (blk_cell BK151.out 1).trans rfl, (blk_cell BK154.out 0).trans rfl, (blk_cell BK154.out 1).trans rfl, ((HB.out.cell (World.block_lt_of_cell? w _ hw158_0)).trans hw158_0), ((HB.out.cell (World.block_lt_of_cell? w _ hw160_0)).trans hw160_0)⟩ (fun hHeld => ?_); refine with_tabW spec_l7Good.tab17 spec_l7Good.bits17 (fun HT_ HW_ => ?_)
                    generalize wr.drew = w47 at BK151 BK154 HB hx158_0 hx160_0 hHeld ⊢
                    refine pA_ 1 (some 64) #[false, true, false, false, false, false, false, false, false, false, false, false, false, false, false, false, false, false, false] HT_.out (h := ?_)
                    refine pA_ 3 (some 66) #[false, true, false, true, false, false, false, false, false, false, false, false, false, false, false, false, false, false, false] HT_.out (h := ?_)
                    refine tA_ 0 (some 63) #[true, true, false, true, false, false, false, false, false, false, false, false, false, false, false, false, false, false, false] HT_.out HW_.out hHeld (h := ?_)
                    refine tA_ 2 (some 65) (bl 4 19) HT_.out HW_.out hHeld (h := ?_)
                    refine pA_ 4 (some 67) (bl 5 19) HT_.out (h := ?_)
                    refine tA_ 5 (some 68) (bl 6 19) HT_.out HW_.out hHeld (h := ?_)
                    refine one_ (i := 6) (N := some 69) (bl 7 19) rfl rfl (one_of HT_.out (by kernel_rfl)) (by decide) (fun K hK => ?_)
                    refine goes_ Try.func51 (by kernel_rfl) rfl #[.agg #[.slice A0_0 l0_0.length c0_0, .slice A0_1 l0_1.length c0_1], .int .i64 (rd ((rd_T64 l1 x5_2).f1) x8_5)] (by rfl) rfl rfl (by (try simp only [List.map_toArray, List.map_cons, List.map_nil]); first | done | rfl | (simp only [List.length_drop, List.length_take]; rfl)) ?_
                    with_reducible refine (spec_l2Find.calls _ _ l0_0 _ _ l0_1 (rd ((rd_T64 l1 x5_2).f1) x8_5) t159 _ ?side1 ?side2 ?side3 ?side4 A37.out).mono ?_
                    (case side1 => exact cz_ (Kd.C_below HR0_0.out HB.out))
                    (case side2 => exact HC0_0.out)
                    (case side3 => exact cz_ (Kd.C_below HR0_1.out HB.out))
                    (case side4 => exact HC0_1.out)
                    rintro e w48 ⟨rfl, hb⟩
                    refine ⟨_, rfl, ?_⟩
                    have n0_ := Aside0.mk (blk_below (bz_ BK151.out) hb)
                    have n1_ := Aside0.mk (blk_below (bz_ BK154.out) hb)
                    have n2_ := Aside0.mk (below_step (by repeat (first | (with_reducible first | exact HB.out | apply below_alloc | apply pw_below_drewN | apply below_drew1 | refine below_set ?_ GE151.out | refine below_set ?_ GE154.out) | exact HB.out)) hb)
                    clear BK151
                    clear BK154
                    clear HB
                    have BK151 := n0_
                    have BK154 := n1_
                    have HB := n2_
                    clear n0_ n1_ n2_
                    (try clear hb)
                    (try clear hb2)
                    (try clear hk)
                    (try clear hi)
                    refine hK.out _ _ ⟨(blk_cell BK151.out 0).trans rfl, (blk_cell BK151.out 1).trans rfl, (blk_cell BK154.out 0).trans rfl, (blk_cell BK154.out 1).trans rfl, ((HB.out.cell (World.block_lt_of_cell? w _ hw158_0)).trans hw158_0), ((HB.out.cell (World.block_lt_of_cell? w _ hw160_0)).trans hw160_0)⟩ (fun hHeld => ?_)
                    clear hK K
                    refine norm_ (a' := ?_) ?_ ?_
                    rotate_left
                    ·show Act.put _ (some 69) _ = _
                     simp only [Act.put, List.setIfInBounds_toArray, List.set_cons_zero, List.set_cons_succ, i64_w, i32_w]
                     rfl
                    refine pA_ 7 (some 70) (bl 8 19) HT_.out (h := ?_)
                    refine pA_ 8 (some 71) (bl 9 19) HT_.out (h := ?_)
                    refine pA_ 9 (some 72) (bl 10 19) HT_.out (h := ?_)
                    refine pA_ 10 (some 73) (bl 11 19) HT_.out (h := ?_)
                    refine pA_ 12 (some 75) #[true, true, true, true, true, true, true, true, true, true, true, false, true, false, false, false, false, false, false] HT_.out (h := ?_)
                    refine pA_ 16 (some 79) #[true, true, true, true, true, true, true, true, true, true, true, false, true, false, false, false, true, false, false] HT_.out (h := ?_)
                    refine tA_ 11 (some 74) #[true, true, true, true, true, true, true, true, true, true, true, true, true, false, false, false, true, false, false] HT_.out HW_.out hHeld (h := ?_)
                    refine pA_ 13 (some 76) #[true, true, true, true, true, true, true, true, true, true, true, true, true, true, false, false, true, false, false] HT_.out (h := ?_)
                    refine tA_ 14 (some 77) #[true, true, true, true, true, true, true, true, true, true, true, true, true, true, true, false, true, false, false] HT_.out HW_.out hHeld (h := ?_)
                    refine one_ (i := 15) (N := some 78) (bl 17 19) rfl rfl (one_of HT_.out (by kernel_rfl)) (by decide) (fun K hK => ?_)
                    refine goes_ Try.func52 (by kernel_rfl) rfl #[.slice (some ad153) l1.length c1, .int .i64 (rd ((rd_T64 l1 x5_2).f1) x8_5)] (by rfl) rfl rfl (by (try simp only [List.map_toArray, List.map_cons, List.map_nil]); first | done | rfl | (simp only [List.length_drop, List.length_take]; rfl)) ?_
                    with_reducible refine (spec_l7Phase.calls k5 _ _ l1 (rd ((rd_T64 l1 x5_2).f1) x8_5) t161 _ ?side1 ?side2 A43.out).mono ?_
                    (case side1 => exact cz_ (Kd.C_below HR1.out HB.out))
                    (case side2 => exact HC1.out)
                    rintro e w' ⟨rfl, ⟨nd, rfl⟩⟩
                    refine ⟨_, rfl, ?_⟩
                    refine hK.out _ _ ⟨(blk_cell BK151.out 0).trans rfl, (blk_cell BK151.out 1).trans rfl, (blk_cell BK154.out 0).trans rfl, (blk_cell BK154.out 1).trans rfl, ((HB.out.cell (World.block_lt_of_cell? w _ hw158_0)).trans hw158_0), ((HB.out.cell (World.block_lt_of_cell? w _ hw160_0)).trans hw160_0)⟩ (fun hHeld => ?_)
                    clear hK K
                    refine norm_ (a' := ?_) ?_ ?_
                    rotate_left
                    ·show Act.put _ (some 78) _ = _
                     simp only [Act.put, List.setIfInBounds_toArray, List.set_cons_zero, List.set_cons_succ, i64_w, i32_w]
                     rfl
                    refine pA_ 17 (some 80) (bl 18 19) HT_.out (h := ?_)
                    refine pA_ 18 (some 81) (bl 19 19) HT_.out (h := ?_)
                    refine done_ (done_of HT_.out (by kernel_rfl)) ?_
                    try go_wp2
                    go_roundg k5
                    case measure => have := HJ2.out; have := HK2.out; have := HJ13.out; have := HK4.out; have := HK5.out; omega
                    case rel => exact ⟨(wrap64 (x8_5 + 1)), (by first | rfl | (simp; done) | (simp [*]; done)), H', ⟨by have := HJ2.out; have := HK2.out; have := HJ13.out; have := HK4.out; have := HK5.out; omega⟩, ⟨bz_ BK151.out⟩, ⟨bz_ BK154.out⟩, ⟨by repeat (first | (with_reducible first | exact HB.out | apply below_alloc | apply pw_below_drewN | apply below_drew1 | refine below_set ?_ GE151.out | refine below_set ?_ GE154.out) | exact HB.out)⟩⟩
                   ·rw [if_neg c44] at H
                    have c44b0 : (t161 == x5_2) = false := beq_eq_false_iff_ne.mpr c44
                    have c44b1 : (t161 != x5_2) = true := bne_iff_ne.mpr c44
                    obtain rfl := Option.some.inj H
                    have hnb49 := NB154_151.out
                    have hnc49 := NB151_154.out
                    have hcz50_0 : wr.cell? ⟨gb154, 0, none⟩ = some (.string ((rd_T64 l1 x5_2).f0)) := (blk_cell BK154.out 0).trans rfl
                    have hcz50_1 : wr.cell? ⟨gb154, 1, none⟩ = some (.slice A153_1 ((rd_T64 l1 x5_2).f1).length c153_1) := (blk_cell BK154.out 1).trans rfl
                    have hfz50_0 := blk_frozen BK154.out 0
                    have hfz50_1 := blk_frozen BK154.out 1
                    try go_wp2
                    have n0_ := Aside0.mk (blk_drew BK151.out)
                    have n1_ := Aside0.mk (blk_drew BK154.out)
                    have n2_ := Aside0.mk (below_drew1 HB.out)
                    clear BK151
                    clear BK154
                    clear HB
                    have BK151 := n0_
                    have BK154 := n1_
                    have HB := n2_
                    clear n0_ n1_ n2_
                    have p158 : 0 ≤ (x8_5 : Int) := od_
                    have q158 : x8_5 < (((rd_T64 l1 x5_2).f1).length : Int) := od_
                    obtain ⟨ad158, e158, hx158_0⟩ := Kd.at_int HR153_1.out x8_5 p158 q158
                    have hw158_0 := hx158_0
                    cases e158
                    replace hx158_0 := lc_ HB.out hx158_0
                    replace p158 := eq_true p158
                    replace q158 := eq_true q158
                    have p160 : 0 ≤ (x8_5 : Int) := od_
                    have q160 : x8_5 < (((rd_T64 l1 x5_2).f1).length : Int) := od_
                    obtain ⟨ad160, e160, hx160_0⟩ := Kd.at_int HR153_1.out x8_5 p160 q160
                    have hw160_0 := hx160_0
                    obtain rfl : ad158 = ad160 := (by injection e160)
                    replace hx160_0 := lc_ HB.out hx160_0
                    replace p160 := eq_true p160
                    replace q160 := eq_true q160
                    refine start_ (n := 19) (S := fun w' => w'.cell? ⟨gb151, 0, none⟩ = some (.slice A0_0 l0_0.length c0_0) ∧ w'.cell? ⟨gb151, 1, none⟩ = some (.slice A0_1 l0_1.length c0_1) ∧ w'.cell? ⟨gb154, 0, none⟩ = some (.string ((rd_T64 l1 x5_2).f0)) ∧ w'.cell? ⟨gb154, 1, none⟩ = some (.slice (some ad158) ((rd_T64 l1 x5_2).f1).length c153_1) ∧ w'.cell? (ad158.add (x8_5).toNat) = some (.int .i64 (rd ((rd_T64 l1 x5_2).f1) x8_5)) ∧ w'.cell? (ad158.add (x8_5).toNat) = some (.int .i64 (rd ((rd_T64 l1 x5_2).f1) x8_5))) (ds := []) #[false, false, false, false, false, false, false, false, false, false, false, false, false, false, false, false, false, false, false] (by kernel_rfl) rfl rfl ⟨(blk_cell BK151.out 0).trans rfl, (blk_cell BK151.out 1).trans rfl, (blk_cell BK154.out 0).trans rfl, (blk_cell BK154.out 1).trans rfl, ((HB.out.cell (World.block_lt_of_cell? w _ hw158_0)).trans hw158_0), ((HB.out.cell (World.block_lt_of_cell? w _ hw160_0)).trans hw160_0)⟩ (fun hHeld => ?_); refine with_tabW spec_l7Good.tab17 spec_l7Good.bits17 (fun HT_ HW_ => ?_)
                    generalize wr.drew = w51 at BK151 BK154 HB hx158_0 hx160_0 hHeld ⊢
                    refine pA_ 1 (some 64) #[false, true, false, false, false, false, false, false, false, false, false, false, false, false, false, false, false, false, false] HT_.out (h := ?_)
                    refine pA_ 3 (some 66) #[false, true, false, true, false, false, false, false, false, false, false, false, false, false, false, false, false, false, false] HT_.out (h := ?_)
                    refine tA_ 0 (some 63) #[true, true, false, true, false, false, false, false, false, false, false, false, false, false, false, false, false, false, false] HT_.out HW_.out hHeld (h := ?_)
                    refine tA_ 2 (some 65) (bl 4 19) HT_.out HW_.out hHeld (h := ?_)
                    refine pA_ 4 (some 67) (bl 5 19) HT_.out (h := ?_)
                    refine tA_ 5 (some 68) (bl 6 19) HT_.out HW_.out hHeld (h := ?_)
                    refine one_ (i := 6) (N := some 69) (bl 7 19) rfl rfl (one_of HT_.out (by kernel_rfl)) (by decide) (fun K hK => ?_)
                    refine goes_ Try.func51 (by kernel_rfl) rfl #[.agg #[.slice A0_0 l0_0.length c0_0, .slice A0_1 l0_1.length c0_1], .int .i64 (rd ((rd_T64 l1 x5_2).f1) x8_5)] (by rfl) rfl rfl (by (try simp only [List.map_toArray, List.map_cons, List.map_nil]); first | done | rfl | (simp only [List.length_drop, List.length_take]; rfl)) ?_
                    with_reducible refine (spec_l2Find.calls _ _ l0_0 _ _ l0_1 (rd ((rd_T64 l1 x5_2).f1) x8_5) t159 _ ?side1 ?side2 ?side3 ?side4 A37.out).mono ?_
                    (case side1 => exact cz_ (Kd.C_below HR0_0.out HB.out))
                    (case side2 => exact HC0_0.out)
                    (case side3 => exact cz_ (Kd.C_below HR0_1.out HB.out))
                    (case side4 => exact HC0_1.out)
                    rintro e w52 ⟨rfl, hb⟩
                    refine ⟨_, rfl, ?_⟩
                    have n0_ := Aside0.mk (blk_below (bz_ BK151.out) hb)
                    have n1_ := Aside0.mk (blk_below (bz_ BK154.out) hb)
                    have n2_ := Aside0.mk (below_step (by repeat (first | (with_reducible first | exact HB.out | apply below_alloc | apply pw_below_drewN | apply below_drew1 | refine below_set ?_ GE151.out | refine below_set ?_ GE154.out) | exact HB.out)) hb)
                    clear BK151
                    clear BK154
                    clear HB
                    have BK151 := n0_
                    have BK154 := n1_
                    have HB := n2_
                    clear n0_ n1_ n2_
                    (try clear hb)
                    (try clear hb2)
                    (try clear hk)
                    (try clear hi)
                    refine hK.out _ _ ⟨(blk_cell BK151.out 0).trans rfl, (blk_cell BK151.out 1).trans rfl, (blk_cell BK154.out 0).trans rfl, (blk_cell BK154.out 1).trans rfl, ((HB.out.cell (World.block_lt_of_cell? w _ hw158_0)).trans hw158_0), ((HB.out.cell (World.block_lt_of_cell? w _ hw160_0)).trans hw160_0)⟩ (fun hHeld => ?_)
                    clear hK K
                    refine norm_ (a' := ?_) ?_ ?_
                    rotate_left
                    ·show Act.put _ (some 69) _ = _
                     simp only [Act.put, List.setIfInBounds_toArray, List.set_cons_zero, List.set_cons_succ, i64_w, i32_w]
                     rfl
                    refine pA_ 7 (some 70) (bl 8 19) HT_.out (h := ?_)
                    refine pA_ 8 (some 71) (bl 9 19) HT_.out (h := ?_)
                    refine pA_ 9 (some 72) (bl 10 19) HT_.out (h := ?_)
                    refine pA_ 10 (some 73) (bl 11 19) HT_.out (h := ?_)
                    refine pA_ 12 (some 75) #[true, true, true, true, true, true, true, true, true, true, true, false, true, false, false, false, false, false, false] HT_.out (h := ?_)
                    refine pA_ 16 (some 79) #[true, true, true, true, true, true, true, true, true, true, true, false, true, false, false, false, true, false, false] HT_.out (h := ?_)
                    refine tA_ 11 (some 74) #[true, true, true, true, true, true, true, true, true, true, true, true, true, false, false, false, true, false, false] HT_.out HW_.out hHeld (h := ?_)
                    refine pA_ 13 (some 76) #[true, true, true, true, true, true, true, true, true, true, true, true, true, true, false, false, true, false, false] HT_.out (h := ?_)
                    refine tA_ 14 (some 77) #[true, true, true, true, true, true, true, true, true, true, true, true, true, true, true, false, true, false, false] HT_.out HW_.out hHeld (h := ?_)
                    refine one_ (i := 15) (N := some 78) (bl 17 19) rfl rfl (one_of HT_.out (by kernel_rfl)) (by decide) (fun K hK => ?_)
                    refine goes_ Try.func52 (by kernel_rfl) rfl #[.slice (some ad153) l1.length c1, .int .i64 (rd ((rd_T64 l1 x5_2).f1) x8_5)] (by rfl) rfl rfl (by (try simp only [List.map_toArray, List.map_cons, List.map_nil]); first | done | rfl | (simp only [List.length_drop, List.length_take]; rfl)) ?_
                    with_reducible refine (spec_l7Phase.calls k5 _ _ l1 (rd ((rd_T64 l1 x5_2).f1) x8_5) t161 _ ?side1 ?side2 A43.out).mono ?_
                    (case side1 => exact cz_ (Kd.C_below HR1.out HB.out))
                    (case side2 => exact HC1.out)
                    rintro e w' ⟨rfl, ⟨nd, rfl⟩⟩
                    refine ⟨_, rfl, ?_⟩
                    refine hK.out _ _ ⟨(blk_cell BK151.out 0).trans rfl, (blk_cell BK151.out 1).trans rfl, (blk_cell BK154.out 0).trans rfl, (blk_cell BK154.out 1).trans rfl, ((HB.out.cell (World.block_lt_of_cell? w _ hw158_0)).trans hw158_0), ((HB.out.cell (World.block_lt_of_cell? w _ hw160_0)).trans hw160_0)⟩ (fun hHeld => ?_)
                    clear hK K
                    refine norm_ (a' := ?_) ?_ ?_
                    rotate_left
                    ·show Act.put _ (some 78) _ = _
                     simp only [Act.put, List.setIfInBounds_toArray, List.set_cons_zero, List.set_cons_succ, i64_w, i32_w]
                     rfl
                    refine pA_ 17 (some 80) (bl 18 19) HT_.out (h := ?_)
                    refine pA_ 18 (some 81) (bl 19 19) HT_.out (h := ?_)
                    refine done_ (done_of HT_.out (by kernel_rfl)) ?_
                    try go_wp2
                    go_ret
                    exact ⟨by first | rfl | (simp [errW_none, errW_some] <;> rfl) | (simp [*, errW_none, errW_some] <;> rfl), by repeat (first | (with_reducible first | exact HB.out | apply below_alloc | apply pw_below_drewN | apply below_drew1 | refine below_set ?_ GE151.out | refine below_set ?_ GE154.out) | exact HB.out)⟩
                 ·rw [if_neg c36] at H
                  exact absurd H (by simp)
                ·rw [if_neg c35] at H
                 have c35b0 : decide (x8_5 < (((rd_T64 l1 x5_2).f1).length : Int)) = false := decide_eq_false c35
                 clear c35
                 have H' := Aside0.mk H
                 clear H
                 have hnb53 := NB154_151.out
                 have hnc53 := NB151_154.out
                 have hcz54_0 : wr.cell? ⟨gb154, 0, none⟩ = some (.string ((rd_T64 l1 x5_2).f0)) := (blk_cell BK154.out 0).trans rfl
                 have hcz54_1 : wr.cell? ⟨gb154, 1, none⟩ = some (.slice A153_1 ((rd_T64 l1 x5_2).f1).length c153_1) := (blk_cell BK154.out 1).trans rfl
                 have hfz54_0 := blk_frozen BK154.out 0
                 have hfz54_1 := blk_frozen BK154.out 1
                 go_wp2
                 go_roundg k5
                 case measure => have := HJ2.out; have := HK2.out; have := HJ13.out; have := HK4.out; have := HK5.out; omega
                 case rel => exact ⟨(wrap64 (x5_2 + 1)), (by first | rfl | (simp; done) | (simp [*]; done)), H', ⟨by have := HJ2.out; have := HK2.out; have := HJ13.out; have := HK4.out; have := HK5.out; omega⟩, ⟨bz_ BK151.out⟩, ⟨by repeat (first | (with_reducible first | exact HB.out | apply below_alloc | apply pw_below_drewN | apply below_drew1 | refine below_set ?_ GE151.out | refine below_set ?_ GE154.out) | exact HB.out)⟩⟩
       ·rw [if_neg c13] at H
        exact absurd H (by simp)
      ·rw [if_neg c12] at H
       have c12b0 : decide (x5_2 < (l1.length : Int)) = false := decide_eq_false c12
       clear c12
       obtain rfl := Option.some.inj H
       go_wp2
       go_ret
       exact ⟨by first | rfl | (simp [errW_none, errW_some] <;> rfl) | (simp [*, errW_none, errW_some] <;> rfl), by repeat (first | (with_reducible first | exact HB.out | apply below_alloc | apply pw_below_drewN | apply below_drew1 | refine below_set ?_ GE151.out) | exact HB.out)⟩

end Go.Proofs.Ytenphfagdpkjaaa.Q

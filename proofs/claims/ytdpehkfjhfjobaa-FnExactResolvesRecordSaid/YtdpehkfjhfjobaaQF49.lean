-- Written by a program of this session (wip/xprint.py over the kit's printer).
import Derived.Test.YtdpehkfjhfjobaaQ0
import Derived.Test.YtdpehkfjhfjobaaQEQ0
import Derived.Test.YtdpehkfjhfjobaaQF56
import Derived.Test.YtdpehkfjhfjobaaQF94
import Derived.Test.YtdpehkfjhfjobaaQV1
namespace Go.Proofs.Ytdpehkfjhfjobaa.Q
open Go.RowKit Go.Proofs.YtdpehkfjhfjobaaW.PrintWords Go.Proofs.YtdpehkfjhfjobaaW.PrintLast Go.Proofs.YtdpehkfjhfjobaaW.PrintMore
attribute [local go_sem] max2_int min2_int max_two min_two max_three min_three max_four min_four   -- for this text's walks alone
set_option linter.unusedVariables false
set_option linter.unusedSimpArgs false

attribute [local go_sem high] eqA90
/-! ### spec_ResolvesRecord: function 49 -/
mutual
def spec_ResolvesRecord.l0 : Nat → List (S90) → List Int → Int → List (S76) → List (S90) → Option (Bool × Bool)
 | 0, _, _, _, _, _ => none
 | k + 1, x1, x6, x7, x152000, x152001 => if x7 < (x1.length : Int) then (spec_ResolvesRecord.l1 k x1 x6 x7 (-1) 0 x152000 x152001) else ((spec_l6Resolves.f k x152000 x152001 x6).bind fun t156 => (some (t156, true)))
def spec_ResolvesRecord.l1 : Nat → List (S90) → List Int → Int → Int → Int → List (S76) → List (S90) → Option (Bool × Bool)
 | 0, _, _, _, _, _, _, _ => none
 | k + 1, x1, x6, x7, x8, x9, x152000, x152001 => if x9 < (x152001.length : Int) then (if 0 ≤ x9 then (if 0 ≤ x7 then (if x7 < (x1.length : Int) then (if (((rd_T90 x152001 x9).f0) == ((rd_T90 x1 x7).f0) && (((rd_T90 x152001 x9).f1) == ((rd_T90 x1 x7).f1))) = true then (spec_ResolvesRecord.l1 k x1 x6 x7 x9 (wrap64 (x9 + 1)) x152000 x152001) else (spec_ResolvesRecord.l1 k x1 x6 x7 x8 (wrap64 (x9 + 1)) x152000 x152001)) else (none)) else (none)) else (none)) else (if x8 < 0 then (some (false, false)) else (if x7 > 0 then (if 0 ≤ (wrap64 (x7 - 1)) then (if (wrap64 (x7 - 1)) < (x1.length : Int) then (if 0 ≤ x7 then (if x7 < (x1.length : Int) then ((spec_l2Before.f ((rd_T90 x1 (wrap64 (x7 - 1))).f0) ((rd_T90 x1 (wrap64 (x7 - 1))).f1) ((rd_T90 x1 x7).f0) ((rd_T90 x1 x7).f1)).bind fun t161 => (if t161 = true then (if x6.length < 17592186044416 then (spec_ResolvesRecord.l0 k x1 (x6 ++ [x8]) (wrap64 (x7 + 1)) x152000 x152001) else (none)) else (some (false, false)))) else (none)) else (none)) else (none)) else (none)) else (if x6.length < 17592186044416 then (spec_ResolvesRecord.l0 k x1 (x6 ++ [x8]) (wrap64 (x7 + 1)) x152000 x152001) else (none))))
end
def spec_ResolvesRecord.f (k : Nat) (l0_0 : List (S76)) (l0_1 : List (S90)) (l1 : List (S90)) : Option (Bool × Bool) := (spec_l2Good.f l0_0 l0_1).bind fun t152 => (if t152 = true then (spec_ResolvesRecord.l0 k l1 (([] : List Int)) 0 l0_0 l0_1) else (some (false, false)))
theorem spec_ResolvesRecord.mono_l : ∀ k, (∀ y0 y1 y2 y3 y4, LeO (spec_ResolvesRecord.l0 k y0 y1 y2 y3 y4) (spec_ResolvesRecord.l0 (k + 1) y0 y1 y2 y3 y4)) ∧ (∀ y0 y1 y2 y3 y4 y5 y6, LeO (spec_ResolvesRecord.l1 k y0 y1 y2 y3 y4 y5 y6) (spec_ResolvesRecord.l1 (k + 1) y0 y1 y2 y3 y4 y5 y6))
 | 0 => ⟨fun _ _ _ _ _ r h => by simp [spec_ResolvesRecord.l0] at h, fun _ _ _ _ _ _ _ r h => by simp [spec_ResolvesRecord.l1] at h⟩
 | k + 1 => by
  obtain ⟨ih0, ih1⟩ := spec_ResolvesRecord.mono_l k
  refine ⟨?_, ?_⟩
  ·intro y0 y1 y2 y3 y4
   unfold spec_ResolvesRecord.l0
   repeat' first
   | (with_reducible exact ih0 _ _ _ _ _)
   | (with_reducible exact ih1 _ _ _ _ _ _ _)
   | (with_reducible exact spec_l6Resolves.mono _ _ _ _)
   | (with_reducible exact LeO.refl _)
   | (with_reducible exact LeO.none _)
   | (with_reducible refine LeO.ite ?_ ?_)
   | (with_reducible refine LeO.bind ?_ (fun _ => ?_))
   | exact ih0 _ _ _ _ _
   | exact ih1 _ _ _ _ _ _ _
   | exact spec_l6Resolves.mono _ _ _ _
   | exact LeO.none _
   | refine LeO.ite ?_ ?_
   | refine LeO.bind ?_ (fun _ => ?_)
  ·intro y0 y1 y2 y3 y4 y5 y6
   unfold spec_ResolvesRecord.l1
   repeat' first
   | (with_reducible exact ih0 _ _ _ _ _)
   | (with_reducible exact ih1 _ _ _ _ _ _ _)
   | (with_reducible exact spec_l6Resolves.mono _ _ _ _)
   | (with_reducible exact LeO.refl _)
   | (with_reducible exact LeO.none _)
   | (with_reducible refine LeO.ite ?_ ?_)
   | (with_reducible refine LeO.bind ?_ (fun _ => ?_))
   | exact ih0 _ _ _ _ _
   | exact ih1 _ _ _ _ _ _ _
   | exact spec_l6Resolves.mono _ _ _ _
   | exact LeO.none _
   | refine LeO.ite ?_ ?_
   | refine LeO.bind ?_ (fun _ => ?_)
theorem spec_ResolvesRecord.mono : ∀ a0 a1 a2 k, LeO (spec_ResolvesRecord.f k a0 a1 a2) (spec_ResolvesRecord.f (k + 1) a0 a1 a2) := by
 intro a0 a1 a2 k
 obtain ⟨ih0, ih1⟩ := spec_ResolvesRecord.mono_l k
 unfold spec_ResolvesRecord.f
 repeat' first
   | (with_reducible exact ih0 _ _ _ _ _)
   | (with_reducible exact ih1 _ _ _ _ _ _ _)
   | (with_reducible exact spec_l6Resolves.mono _ _ _ _)
   | (with_reducible exact LeO.refl _)
   | (with_reducible exact LeO.none _)
   | (with_reducible refine LeO.ite ?_ ?_)
   | (with_reducible refine LeO.bind ?_ (fun _ => ?_))
   | exact ih0 _ _ _ _ _
   | exact ih1 _ _ _ _ _ _ _
   | exact spec_l6Resolves.mono _ _ _ _
   | exact LeO.none _
   | refine LeO.ite ?_ ?_
   | refine LeO.bind ?_ (fun _ => ?_)
def spec_ResolvesRecord.T11 : Bool × List (List Nat × List Nat) := (true, [([], []), ([0], [0]), ([], []), ([1, 2], [1, 2]), ([3], [3]), ([], []), ([], []), ([5, 6], [5, 6]), ([7], [7]), ([4, 8], [4, 8])])
def spec_ResolvesRecord.B11 : List Nat := [0, 1, 0, 7, 15, 0, 0, 96, 224, 511]
theorem spec_ResolvesRecord.tab11 : rtab .any (opsOf Try.f49 11) = spec_ResolvesRecord.T11 := by kernel_rfl
theorem spec_ResolvesRecord.bits11 : waitsOk spec_ResolvesRecord.T11.2 spec_ResolvesRecord.B11 = true := by kernel_rfl
def spec_ResolvesRecord.T13 : Bool × List (List Nat × List Nat) := (true, [([], []), ([0], [0]), ([1], [1]), ([2], [2]), ([3, 2], [2, 3]), ([4, 2, 2], [2, 4]), ([5], [5]), ([5], [5]), ([7, 5], [5, 7]), ([6, 8, 5], [5, 6, 8]), ([9, 5], [5, 9]), ([5], [5]), ([5], [5]), ([11, 12, 5], [5, 11, 12]), ([13, 5], [5, 13]), ([10, 14, 5, 5], [5, 10, 14]), ([15, 5], [5, 15]), ([5, 16, 2], [2, 5, 16]), ([2, 17], [2, 17])])
def spec_ResolvesRecord.B13 : List Nat := [0, 1, 3, 7, 15, 31, 63, 63, 191, 511, 1023, 63, 63, 6207, 14399, 32767, 65535, 131071, 262143]
theorem spec_ResolvesRecord.tab13 : rtab .any (opsOf Try.f49 13) = spec_ResolvesRecord.T13 := by kernel_rfl
theorem spec_ResolvesRecord.bits13 : waitsOk spec_ResolvesRecord.T13.2 spec_ResolvesRecord.B13 = true := by kernel_rfl
set_option maxHeartbeats 8000000 in
set_option maxRecDepth 100000 in
theorem spec_ResolvesRecord.calls (k : Nat) (A0_0 : Option Addr) (c0_0 : Nat) (l0_0 : List (S76)) (A0_1 : Option Addr) (c0_1 : Nat) (l0_1 : List (S90)) (A1 : Option Addr) (c1 : Nat) (l1 : List (S90)) (r1 : Bool) (r2 : Bool) (w : World) (hr0_0 : Kd.C k76 w A0_0 l0_0.length l0_0) (hc0_0 : l0_0.length ≤ c0_0) (hr0_1 : Kd.C k90 w A0_1 l0_1.length l0_1) (hc0_1 : l0_1.length ≤ c0_1) (hr1 : Kd.C k90 w A1 l1.length l1) (hc1 : l1.length ≤ c1) (h : spec_ResolvesRecord.f k l0_0 l0_1 l1 = some (r1, r2)) :
  Calls Try.prog 49 #[.agg #[.slice A0_0 l0_0.length c0_0, .slice A0_1 l0_1.length c0_1], .slice A1 l1.length c1] w fun e w' => e = .returned (.tuple #[.bool r1, .bool r2]) ∧ Below w.heap.size w w' := by
 have hu32 := Try.underlying32
 have hu90 := Try.underlying90
 have HR0_0 := Aside0.mk hr0_0
 have HC0_0 := Aside0.mk hc0_0
 clear hr0_0 hc0_0
 have HR0_1 := Aside0.mk hr0_1
 have HC0_1 := Aside0.mk hc0_1
 clear hr0_1 hc0_1
 have HR1 := Aside0.mk hr1
 have HC1 := Aside0.mk hc1
 clear hr1 hc1
 have HB := Aside0.mk (Below.refl w.heap.size w)
 have H : ((spec_l2Good.f l0_0 l0_1).bind fun t152 => (if t152 = true then (spec_ResolvesRecord.l0 k l1 (([] : List Int)) 0 l0_0 l0_1) else (some (false, false)))) = some (r1, r2) := h
 clear h
 replace H := Option.bind_eq_some_iff.mp H
 obtain ⟨t152, A30, H⟩ := H
 replace H : (if t152 = true then (spec_ResolvesRecord.l0 k l1 (([] : List Int)) 0 l0_0 l0_1) else (some (false, false))) = some (r1, r2) := H
 have A3 := Aside0.mk A30
 clear A30
 by_cases c4 : t152 = true
 ·subst c4
  have H1 : (spec_ResolvesRecord.l0 k l1 (([] : List Int)) 0 l0_0 l0_1) = some (r1, r2) := by rw [if_pos rfl] at H; exact H
  clear H
  have H := H1
  clear H1
  obtain ⟨y153, hy153⟩ : ∃ y_ : List Int, y_ = (([] : List Int)) := ⟨_, rfl⟩
  replace H : (spec_ResolvesRecord.l0 k l1 y153 0 l0_0 l0_1) = some (r1, r2) := by first | (rw [hy153]; with_reducible exact H) | (have H2_ := (Option.bind_some _ _).symm.trans H; rw [hy153]; with_reducible exact H2_) | (have H2_ := (Option.bind_some _ _).symm.trans H; with_reducible exact H2_) | with_reducible exact H | (rw [hy153]; exact H) | exact H
  have Ny153 := Aside0.mk hy153
  clear hy153
  have H' := Aside0.mk H
  clear H
  go_enter Try.func49, Try.ntmps49
  go_wp2_with (first | ((with_reducible refine gate_dst (N := 2) rfl ?_); refine box_event ?hg (N := 2) ?hd (cs := #[.slice A0_0 l0_0.length c0_0, .slice A0_1 l0_1.length c0_1]) (t := 32) ?hr ?_; (case hd => rfl); (case hg => rfl); (case hr => first | (go_simp; done) | (go_simp; rfl)); intro gb151 hg w5 hbox hb; have n0_ := Aside0.mk (below_step (wz_ HB.out) hb); have n1_ := Aside0.mk (hbox); have n2_ := Aside0.mk ((by rw [hg]; exact (below_size (wz_ HB.out)) : w.heap.size ≤ gb151)); have n3_ := Aside0.mk ((by rw [hg]; exact (below_size (wz_ HB.out)) : w.heap.size ≤ gb151)); clear HB; have HB := n0_; have BK151 := n1_; have GW151 := n2_; have GE151 := n3_; clear n0_ n1_ n2_ n3_; clear hb hbox hg; have hcz6_0 : w5.cell? ⟨gb151, 0, none⟩ = some (.slice A0_0 l0_0.length c0_0) := (blk_cell BK151.out 0).trans rfl; have hcz6_1 : w5.cell? ⟨gb151, 1, none⟩ = some (.slice A0_1 l0_1.length c0_1) := (blk_cell BK151.out 1).trans rfl; have hfz6_0 := blk_frozen BK151.out 0; have hfz6_1 := blk_frozen BK151.out 1) | ((with_reducible refine gate_callee (f := 56) rfl ?_); refine goesL_ (some 11) rfl rfl Try.func56 (by kernel_rfl) rfl #[.agg #[.slice A0_0 l0_0.length c0_0, .slice A0_1 l0_1.length c0_1]] rfl (by (try simp only [List.map_toArray, List.map_cons, List.map_nil]); first | done | rfl | (simp only [List.length_drop, List.length_take]; rfl)) ?_; (with_reducible refine (spec_l2Good.calls _ _ l0_0 _ _ l0_1 true _ ?side1 ?side2 ?side3 ?side4 A3.out).mono ?_); (case side1 => exact cz_ (Kd.C_below HR0_0.out HB.out)); (case side2 => exact HC0_0.out); (case side3 => exact cz_ (Kd.C_below HR0_1.out HB.out)); (case side4 => exact HC0_1.out); rintro e w7 ⟨rfl, hb⟩; refine ⟨_, rfl, ?_⟩; have n0_ := Aside0.mk (blk_below (bz_ BK151.out) hb); have n1_ := Aside0.mk (below_step (by repeat (first | (with_reducible first | exact HB.out | apply below_alloc | apply pw_below_drewN | apply below_drew1 | refine below_set ?_ GE151.out) | exact HB.out)) hb); clear BK151; clear HB; have BK151 := n0_; have HB := n1_; clear n0_ n1_; (try clear hb); (try clear hb2); (try clear hk); (try clear hi)) | ((with_reducible refine gate_dst (N := 13) rfl ?_); refine Kd.R_lit (Kd.int .i64) _ 3 ?hg (N := 13) ?hd (xs := ([] : List Int)) (inner := []) (ok := fun _ => True) (okp := fun _ => True) ?hr ?hp (fun _ hk => hk) trivial (Below.refl _ _) (Nat.le_refl _) (by simp) ?_; (case hd => rfl); (case hg => rfl); (case hr => first | (go_simp; done) | (go_simp; rfl)); (case hp => exact (Reps.none _ _)); intro v154 w8 ho9 hb hg_ hnew_; clear hg_ hnew_; (first | rw [← Ny153.out] at ho9 | (simp only [Int.reduceToNat] at ho9; rw [← Ny153.out] at ho9)); have n0_ := Aside0.mk (Kd.R_lower ho9 (below_size (by repeat (first | (with_reducible first | exact HB.out | apply below_alloc | apply pw_below_drewN | apply below_drew1 | refine below_set ?_ GE151.out) | exact HB.out)))); have n1_ := Aside0.mk (blk_below (bz_ BK151.out) hb); have n2_ := Aside0.mk (below_step (by repeat (first | (with_reducible first | exact HB.out | apply below_alloc | apply pw_below_drewN | apply below_drew1 | refine below_set ?_ GE151.out) | exact HB.out)) hb); clear BK151; clear HB; have HO155 := n0_; have BK151 := n1_; have HB := n2_; clear n0_ n1_ n2_; clear hb ho9))
  go_loopg [6, 7] k (fun kq v6 v7 w' => ∃ (x6_1 : List Int) (x7_1 : Int), v7 = .int .i64 x7_1 ∧ Aside0 (spec_ResolvesRecord.l0 kq l1 x6_1 x7_1 l0_0 l0_1 = some (r1, r2)) ∧ Aside0 (kq ≤ k) ∧ Aside0 (Kd.R (Kd.int .i64) 3 w' w.heap.size (fun _ => True) v6 x6_1) ∧ Aside0 (w'.heap[gb151]? = some (.cells #[(.slice A0_0 l0_0.length c0_0), (.slice A0_1 l0_1.length c0_1)] 32 (0, 0))) ∧ Aside0 (Below w.heap.size w w'))
  case atStart => exact ⟨(y153), (0), (by first | rfl | (simp; done) | (simp [*]; done)), H', ⟨Nat.le_refl _⟩, ⟨rz_ HO155.out⟩, ⟨bz_ BK151.out⟩, ⟨by repeat (first | (with_reducible first | exact HB.out | apply below_alloc | apply pw_below_drewN | apply below_drew1 | refine below_set ?_ GE151.out) | exact HB.out)⟩⟩
  case round =>
   clear H'
   try clear c1
   try clear p2
   try clear c4
   try clear c5
   try clear hcz6_0
   try clear hcz6_1
   try clear hfz6_0
   try clear hfz6_1
   obtain ⟨x6_1, x7_1, rfl, HA, HK1, HO_6, BK151, HB⟩ := hrel
   cases gk with
   | zero => exact absurd HA.out (by simp [spec_ResolvesRecord.l0])
   | succ k1 =>
    have H := HA.out
    clear HA
    simp only [spec_ResolvesRecord.l0] at H
    by_cases c10 : x7_1 < (l1.length : Int)
    ·rw [if_pos c10] at H
     have c10b0 : decide (x7_1 < (l1.length : Int)) = true := decide_eq_true c10
     clear c10
     have H' := Aside0.mk H
     clear H
     go_wp2
     go_loopg [8, 9] k1 (fun kq v8 v9 w' => ∃ (x8_2 : Int) (x9_2 : Int), v8 = .int .i64 x8_2 ∧ v9 = .int .i64 x9_2 ∧ Aside0 (spec_ResolvesRecord.l1 kq l1 x6_1 x7_1 x8_2 x9_2 l0_0 l0_1 = some (r1, r2)) ∧ Aside0 (kq ≤ k1) ∧ Aside0 (Kd.R (Kd.int .i64) 3 w' w.heap.size (fun _ => True) u6 x6_1) ∧ Aside0 (w'.heap[gb151]? = some (.cells #[(.slice A0_0 l0_0.length c0_0), (.slice A0_1 l0_1.length c0_1)] 32 (0, 0))) ∧ Aside0 (Below w.heap.size w w'))
     case atStart => exact ⟨((-1)), (0), (by first | rfl | (simp; done) | (simp [*]; done)), (by first | rfl | (simp; done) | (simp [*]; done)), H', ⟨Nat.le_refl _⟩, ⟨rz_ HO_6.out⟩, ⟨bz_ BK151.out⟩, ⟨by repeat (first | (with_reducible first | exact HB.out | apply below_alloc | apply pw_below_drewN | apply below_drew1 | refine below_set ?_ GE151.out) | exact HB.out)⟩⟩
     case round =>
      clear H'
      try clear c1
      try clear p2
      try clear c4
      try clear c5
      try clear c10
      try clear c10b0
      try clear hcz6_0
      try clear hcz6_1
      try clear hfz6_0
      try clear hfz6_1
      try clear p2
      obtain ⟨x8_2, x9_2, rfl, rfl, HA, HK2, HO_6, BK151, HB⟩ := hrel
      cases gk with
      | zero => exact absurd HA.out (by simp [spec_ResolvesRecord.l1])
      | succ k2 =>
       have H := HA.out
       clear HA
       simp only [spec_ResolvesRecord.l1] at H
       by_cases c11 : x9_2 < (l0_1.length : Int)
       ·rw [if_pos c11] at H
        have c11b0 : decide (x9_2 < (l0_1.length : Int)) = true := decide_eq_true c11
        clear c11
        by_cases c12 : 0 ≤ x9_2
        ·rw [if_pos c12] at H
         have c12b0 : decide (0 ≤ x9_2) = true := decide_eq_true c12
         clear c12
         by_cases c13 : 0 ≤ x7_1
         ·rw [if_pos c13] at H
          have c13b0 : decide (0 ≤ x7_1) = true := decide_eq_true c13
          clear c13
          by_cases c14 : x7_1 < (l1.length : Int)
          ·rw [if_pos c14] at H
           have c14b0 : decide (x7_1 < (l1.length : Int)) = true := decide_eq_true c14
           clear c14
           by_cases c15 : (((rd_T90 l0_1 x9_2).f0) == ((rd_T90 l1 x7_1).f0) && (((rd_T90 l0_1 x9_2).f1) == ((rd_T90 l1 x7_1).f1))) = true
           ·rw [if_pos c15] at H
            have c15b0 : (((rd_T90 l0_1 x9_2).f0) == ((rd_T90 l1 x7_1).f0) && (((rd_T90 l0_1 x9_2).f1) == ((rd_T90 l1 x7_1).f1))) = true := c15
            (try (have c15b1 : decide (((rd_T90 l0_1 x9_2).f0) = ((rd_T90 l1 x7_1).f0) && (((rd_T90 l0_1 x9_2).f1) == ((rd_T90 l1 x7_1).f1))) = true := by simpa using c15))
            (try (have c15b2 : (((rd_T90 l0_1 x9_2).f0) == ((rd_T90 l1 x7_1).f0) && (((rd_T90 l0_1 x9_2).f1) == ((rd_T90 l1 x7_1).f1))) = true := by simpa using c15))
            clear c15
            have H' := Aside0.mk H
            clear H
            have hcz16_0 : wr.cell? ⟨gb151, 0, none⟩ = some (.slice A0_0 l0_0.length c0_0) := (blk_cell BK151.out 0).trans rfl
            have hcz16_1 : wr.cell? ⟨gb151, 1, none⟩ = some (.slice A0_1 l0_1.length c0_1) := (blk_cell BK151.out 1).trans rfl
            have hfz16_0 := blk_frozen BK151.out 0
            have hfz16_1 := blk_frozen BK151.out 1
            try go_wp2
            have n0_ := Aside0.mk (Kd.R_drew HO_6.out)
            have n1_ := Aside0.mk (blk_drew BK151.out)
            have n2_ := Aside0.mk (below_drew1 HB.out)
            clear HO_6
            clear BK151
            clear HB
            have HO_6 := n0_
            have BK151 := n1_
            have HB := n2_
            clear n0_ n1_ n2_
            have p157 : 0 ≤ (x9_2 : Int) := of_decide_eq_true (by first | (with_reducible assumption) | assumption)
            have q157 : x9_2 < (l0_1.length : Int) := of_decide_eq_true (by first | (with_reducible assumption) | assumption)
            obtain ⟨ad157, e157, hx157_0, hx157_1⟩ := at_T90 HR0_1.out x9_2 p157 q157
            have hw157_1 := hx157_1
            have hw157_0 := hx157_0
            cases e157
            replace hx157_0 := (HB.out.cell (World.block_lt_of_cell? w _ hx157_0)).trans hx157_0
            replace hx157_1 := (HB.out.cell (World.block_lt_of_cell? w _ hx157_1)).trans hx157_1
            replace p157 := eq_true p157
            replace q157 := eq_true q157
            have p158 : 0 ≤ (x7_1 : Int) := of_decide_eq_true (by first | (with_reducible assumption) | assumption)
            have q158 : x7_1 < (l1.length : Int) := of_decide_eq_true (by first | (with_reducible assumption) | assumption)
            obtain ⟨ad158, e158, hx158_0, hx158_1⟩ := at_T90 HR1.out x7_1 p158 q158
            have hw158_1 := hx158_1
            have hw158_0 := hx158_0
            cases e158
            replace hx158_0 := (HB.out.cell (World.block_lt_of_cell? w _ hx158_0)).trans hx158_0
            replace hx158_1 := (HB.out.cell (World.block_lt_of_cell? w _ hx158_1)).trans hx158_1
            replace p158 := eq_true p158
            replace q158 := eq_true q158
            refine start_ (n := 10) (S := fun w' => w'.cell? ⟨gb151, 0, none⟩ = some (.slice A0_0 l0_0.length c0_0) ∧ w'.cell? ⟨gb151, 1, none⟩ = some (.slice (some ad157) l0_1.length c0_1) ∧ w'.cell? (ad157.add ((x9_2).toNat * 2)) = some (.int .i64 ((rd_T90 l0_1 x9_2).f0)) ∧ w'.cell? ⟨(ad157.add ((x9_2).toNat * 2)).block, (ad157.add ((x9_2).toNat * 2)).off + 1, none⟩ = some (.int .i64 ((rd_T90 l0_1 x9_2).f1)) ∧ w'.cell? (ad158.add ((x7_1).toNat * 2)) = some (.int .i64 ((rd_T90 l1 x7_1).f0)) ∧ w'.cell? ⟨(ad158.add ((x7_1).toNat * 2)).block, (ad158.add ((x7_1).toNat * 2)).off + 1, none⟩ = some (.int .i64 ((rd_T90 l1 x7_1).f1))) (ds := []) #[false, false, false, false, false, false, false, false, false, false] (by kernel_rfl) rfl rfl ⟨(blk_cell BK151.out 0).trans rfl, (blk_cell BK151.out 1).trans rfl, ((HB.out.cell (World.block_lt_of_cell? w _ hw157_0)).trans hw157_0), ((HB.out.cell (World.block_lt_of_cell? w _ hw157_1)).trans hw157_1), ((HB.out.cell (World.block_lt_of_cell? w _ hw158_0)).trans hw158_0), ((HB.out.cell (World.block_lt_of_cell? w _ hw158_1)).trans hw158_1)⟩ (fun hHeld => ?_); refine with_tabW spec_ResolvesRecord.tab11 spec_ResolvesRecord.bits11 (fun HT_ HW_ => ?_)
            generalize wr.drew = w17 at HO_6 BK151 HB hx157_0 hx157_1 hx158_0 hx158_1 hHeld ⊢
            refine pA_ 0 (some 27) (bl 1 10) HT_.out (h := ?_)
            refine pA_ 2 (some 29) #[true, false, true, false, false, false, false, false, false, false] HT_.out (h := ?_)
            refine pA_ 5 (some 32) #[true, false, true, false, false, true, false, false, false, false] HT_.out (h := ?_)
            refine pA_ 6 (some 33) #[true, false, true, false, false, true, true, false, false, false] HT_.out (h := ?_)
            refine pA_ 7 (some 34) #[true, false, true, false, false, true, true, true, false, false] HT_.out (h := ?_)
            refine tA_ 1 (some 28) #[true, true, true, false, false, true, true, true, false, false] HT_.out HW_.out hHeld (h := ?_)
            refine pA_ 3 (some 30) #[true, true, true, true, false, true, true, true, false, false] HT_.out (h := ?_)
            refine tA_ 4 (some 31) (bl 8 10) HT_.out HW_.out hHeld (h := ?_)
            refine tA_ 8 (some 35) (bl 9 10) HT_.out HW_.out hHeld (h := ?_)
            refine pA_ 9 (some 36) (bl 10 10) HT_.out (h := ?_)
            refine done_ (done_of HT_.out (by kernel_rfl)) ?_
            try go_wp2
            go_roundg k2
            case measure => have := HK1.out; have := HK2.out; omega
            case rel => exact ⟨(x9_2), (wrap64 (x9_2 + 1)), (by first | rfl | (simp; done) | (simp [*]; done)), (by first | rfl | (simp; done) | (simp [*]; done)), H', ⟨by have := HK1.out; have := HK2.out; omega⟩, ⟨rz_ HO_6.out⟩, ⟨bz_ BK151.out⟩, ⟨by repeat (first | (with_reducible first | exact HB.out | apply below_alloc | apply pw_below_drewN | apply below_drew1 | refine below_set ?_ GE151.out) | exact HB.out)⟩⟩
           ·rw [if_neg c15] at H
            have c15b0 : (((rd_T90 l0_1 x9_2).f0) == ((rd_T90 l1 x7_1).f0) && (((rd_T90 l0_1 x9_2).f1) == ((rd_T90 l1 x7_1).f1))) = false := by simpa using c15
            (try (have c15b1 : decide (((rd_T90 l0_1 x9_2).f0) = ((rd_T90 l1 x7_1).f0) && (((rd_T90 l0_1 x9_2).f1) == ((rd_T90 l1 x7_1).f1))) = false := by simpa using c15))
            (try (have c15b2 : (((rd_T90 l0_1 x9_2).f0) == ((rd_T90 l1 x7_1).f0) && (((rd_T90 l0_1 x9_2).f1) == ((rd_T90 l1 x7_1).f1))) = false := by simpa using c15))
            (try (have c15b3 : ¬ (((rd_T90 l0_1 x9_2).f0) = ((rd_T90 l1 x7_1).f0) && (((rd_T90 l0_1 x9_2).f1) == ((rd_T90 l1 x7_1).f1))) := by simpa using c15))
            clear c15
            have H' := Aside0.mk H
            clear H
            have hcz18_0 : wr.cell? ⟨gb151, 0, none⟩ = some (.slice A0_0 l0_0.length c0_0) := (blk_cell BK151.out 0).trans rfl
            have hcz18_1 : wr.cell? ⟨gb151, 1, none⟩ = some (.slice A0_1 l0_1.length c0_1) := (blk_cell BK151.out 1).trans rfl
            have hfz18_0 := blk_frozen BK151.out 0
            have hfz18_1 := blk_frozen BK151.out 1
            try go_wp2
            have n0_ := Aside0.mk (Kd.R_drew HO_6.out)
            have n1_ := Aside0.mk (blk_drew BK151.out)
            have n2_ := Aside0.mk (below_drew1 HB.out)
            clear HO_6
            clear BK151
            clear HB
            have HO_6 := n0_
            have BK151 := n1_
            have HB := n2_
            clear n0_ n1_ n2_
            have p157 : 0 ≤ (x9_2 : Int) := of_decide_eq_true (by first | (with_reducible assumption) | assumption)
            have q157 : x9_2 < (l0_1.length : Int) := of_decide_eq_true (by first | (with_reducible assumption) | assumption)
            obtain ⟨ad157, e157, hx157_0, hx157_1⟩ := at_T90 HR0_1.out x9_2 p157 q157
            have hw157_1 := hx157_1
            have hw157_0 := hx157_0
            cases e157
            replace hx157_0 := (HB.out.cell (World.block_lt_of_cell? w _ hx157_0)).trans hx157_0
            replace hx157_1 := (HB.out.cell (World.block_lt_of_cell? w _ hx157_1)).trans hx157_1
            replace p157 := eq_true p157
            replace q157 := eq_true q157
            have p158 : 0 ≤ (x7_1 : Int) := of_decide_eq_true (by first | (with_reducible assumption) | assumption)
            have q158 : x7_1 < (l1.length : Int) := of_decide_eq_true (by first | (with_reducible assumption) | assumption)
            obtain ⟨ad158, e158, hx158_0, hx158_1⟩ := at_T90 HR1.out x7_1 p158 q158
            have hw158_1 := hx158_1
            have hw158_0 := hx158_0
            cases e158
            replace hx158_0 := (HB.out.cell (World.block_lt_of_cell? w _ hx158_0)).trans hx158_0
            replace hx158_1 := (HB.out.cell (World.block_lt_of_cell? w _ hx158_1)).trans hx158_1
            replace p158 := eq_true p158
            replace q158 := eq_true q158
            refine start_ (n := 10) (S := fun w' => w'.cell? ⟨gb151, 0, none⟩ = some (.slice A0_0 l0_0.length c0_0) ∧ w'.cell? ⟨gb151, 1, none⟩ = some (.slice (some ad157) l0_1.length c0_1) ∧ w'.cell? (ad157.add ((x9_2).toNat * 2)) = some (.int .i64 ((rd_T90 l0_1 x9_2).f0)) ∧ w'.cell? ⟨(ad157.add ((x9_2).toNat * 2)).block, (ad157.add ((x9_2).toNat * 2)).off + 1, none⟩ = some (.int .i64 ((rd_T90 l0_1 x9_2).f1)) ∧ w'.cell? (ad158.add ((x7_1).toNat * 2)) = some (.int .i64 ((rd_T90 l1 x7_1).f0)) ∧ w'.cell? ⟨(ad158.add ((x7_1).toNat * 2)).block, (ad158.add ((x7_1).toNat * 2)).off + 1, none⟩ = some (.int .i64 ((rd_T90 l1 x7_1).f1))) (ds := []) #[false, false, false, false, false, false, false, false, false, false] (by kernel_rfl) rfl rfl ⟨(blk_cell BK151.out 0).trans rfl, (blk_cell BK151.out 1).trans rfl, ((HB.out.cell (World.block_lt_of_cell? w _ hw157_0)).trans hw157_0), ((HB.out.cell (World.block_lt_of_cell? w _ hw157_1)).trans hw157_1), ((HB.out.cell (World.block_lt_of_cell? w _ hw158_0)).trans hw158_0), ((HB.out.cell (World.block_lt_of_cell? w _ hw158_1)).trans hw158_1)⟩ (fun hHeld => ?_); refine with_tabW spec_ResolvesRecord.tab11 spec_ResolvesRecord.bits11 (fun HT_ HW_ => ?_)
            generalize wr.drew = w19 at HO_6 BK151 HB hx157_0 hx157_1 hx158_0 hx158_1 hHeld ⊢
            refine pA_ 0 (some 27) (bl 1 10) HT_.out (h := ?_)
            refine pA_ 2 (some 29) #[true, false, true, false, false, false, false, false, false, false] HT_.out (h := ?_)
            refine pA_ 5 (some 32) #[true, false, true, false, false, true, false, false, false, false] HT_.out (h := ?_)
            refine pA_ 6 (some 33) #[true, false, true, false, false, true, true, false, false, false] HT_.out (h := ?_)
            refine pA_ 7 (some 34) #[true, false, true, false, false, true, true, true, false, false] HT_.out (h := ?_)
            refine tA_ 1 (some 28) #[true, true, true, false, false, true, true, true, false, false] HT_.out HW_.out hHeld (h := ?_)
            refine pA_ 3 (some 30) #[true, true, true, true, false, true, true, true, false, false] HT_.out (h := ?_)
            refine tA_ 4 (some 31) (bl 8 10) HT_.out HW_.out hHeld (h := ?_)
            refine tA_ 8 (some 35) (bl 9 10) HT_.out HW_.out hHeld (h := ?_)
            refine pA_ 9 (some 36) (bl 10 10) HT_.out (h := ?_)
            refine done_ (done_of HT_.out (by kernel_rfl)) ?_
            try go_wp2
            go_roundg k2
            case measure => have := HK1.out; have := HK2.out; omega
            case rel => exact ⟨(x8_2), (wrap64 (x9_2 + 1)), (by first | rfl | (simp; done) | (simp [*]; done)), (by first | rfl | (simp; done) | (simp [*]; done)), H', ⟨by have := HK1.out; have := HK2.out; omega⟩, ⟨rz_ HO_6.out⟩, ⟨bz_ BK151.out⟩, ⟨by repeat (first | (with_reducible first | exact HB.out | apply below_alloc | apply pw_below_drewN | apply below_drew1 | refine below_set ?_ GE151.out) | exact HB.out)⟩⟩
          ·rw [if_neg c14] at H
           exact absurd H (by simp)
         ·rw [if_neg c13] at H
          exact absurd H (by simp)
        ·rw [if_neg c12] at H
         exact absurd H (by simp)
       ·rw [if_neg c11] at H
        have c11b0 : decide (x9_2 < (l0_1.length : Int)) = false := decide_eq_false c11
        clear c11
        by_cases c20 : x8_2 < 0
        ·rw [if_pos c20] at H
         have c20b0 : decide (x8_2 < 0) = true := decide_eq_true c20
         clear c20
         simp only [Option.some.injEq, Prod.mk.injEq] at H
         obtain ⟨rfl, rfl⟩ := H
         have hcz21_0 : wr.cell? ⟨gb151, 0, none⟩ = some (.slice A0_0 l0_0.length c0_0) := (blk_cell BK151.out 0).trans rfl
         have hcz21_1 : wr.cell? ⟨gb151, 1, none⟩ = some (.slice A0_1 l0_1.length c0_1) := (blk_cell BK151.out 1).trans rfl
         have hfz21_0 := blk_frozen BK151.out 0
         have hfz21_1 := blk_frozen BK151.out 1
         try go_wp2
         have n0_ := Aside0.mk (Kd.R_drew HO_6.out)
         have n1_ := Aside0.mk (blk_drew BK151.out)
         have n2_ := Aside0.mk (below_drew1 HB.out)
         clear HO_6
         clear BK151
         clear HB
         have HO_6 := n0_
         have BK151 := n1_
         have HB := n2_
         clear n0_ n1_ n2_
         refine start_ (n := 19) (S := fun w' => True) (ds := []) #[false, false, false, false, false, false, false, false, false, false, false, false, false, false, false, false, false, false, false] (by kernel_rfl) rfl rfl trivial (fun hHeld => ?_); refine with_tabW spec_ResolvesRecord.tab13 spec_ResolvesRecord.bits13 (fun HT_ HW_ => ?_)
         generalize wr.drew = w22 at HO_6 BK151 HB hHeld ⊢
         refine pA_ 0 (some 38) (bl 1 19) HT_.out (h := ?_)
         refine pA_ 1 (some 39) (bl 2 19) HT_.out (h := ?_)
         refine pA_ 2 (some 40) (bl 3 19) HT_.out (h := ?_)
         refine pO_ 3 (some 41) (bl 4 19) HT_.out (h := ?_)
         refine pO_ 4 (some 42) (bl 5 19) HT_.out (h := ?_)
         refine pO_ 5 (some 43) (bl 6 19) HT_.out (h := ?_)
         refine pO_ 6 (some 44) (bl 7 19) HT_.out (h := ?_)
         refine pO_ 7 (some 45) (bl 8 19) HT_.out (h := ?_)
         refine pO_ 8 (some 46) (bl 9 19) HT_.out (h := ?_)
         refine pO_ 9 (some 47) (bl 10 19) HT_.out (h := ?_)
         refine pO_ 10 (some 48) (bl 11 19) HT_.out (h := ?_)
         refine pO_ 11 (some 49) (bl 12 19) HT_.out (h := ?_)
         refine pO_ 12 (some 50) (bl 13 19) HT_.out (h := ?_)
         refine pO_ 13 (some 51) (bl 14 19) HT_.out (h := ?_)
         refine pO_ 14 (some 52) (bl 15 19) HT_.out (h := ?_)
         refine pO_ 15 (some 53) (bl 16 19) HT_.out (h := ?_)
         refine pO_ 16 (some 54) (bl 17 19) HT_.out (h := ?_)
         refine pO_ 17 (some 55) (bl 18 19) HT_.out (h := ?_)
         refine pA_ 18 (some 56) (bl 19 19) HT_.out (h := ?_)
         refine done_ (done_of HT_.out (by kernel_rfl)) ?_
         try go_wp2
         go_ret2
         exact ⟨by first | rfl | (simp [errW_none, errW_some] <;> rfl) | (simp [*, errW_none, errW_some] <;> rfl), by repeat (first | (with_reducible first | exact HB.out | apply below_alloc | apply pw_below_drewN | apply below_drew1 | refine below_set ?_ GE151.out) | exact HB.out)⟩
        ·rw [if_neg c20] at H
         have c20b0 : decide (x8_2 < 0) = false := decide_eq_false c20
         clear c20
         by_cases c23 : x7_1 > 0
         ·rw [if_pos c23] at H
          have c23b0 : decide (0 < x7_1) = true := decide_eq_true c23
          clear c23
          obtain ⟨ji24, hji24⟩ : ∃ j_ : Int, (wrap64 (x7_1 - 1)) = j_ := ⟨_, rfl⟩
          replace H : (if 0 ≤ (ji24) then (if (ji24) < (l1.length : Int) then (if 0 ≤ x7_1 then (if x7_1 < (l1.length : Int) then ((spec_l2Before.f ((rd_T90 l1 (ji24)).f0) ((rd_T90 l1 (ji24)).f1) ((rd_T90 l1 x7_1).f0) ((rd_T90 l1 x7_1).f1)).bind fun t161 => (if t161 = true then (if x6_1.length < 17592186044416 then (spec_ResolvesRecord.l0 k2 l1 (x6_1 ++ [x8_2]) (wrap64 (x7_1 + 1)) l0_0 l0_1) else (none)) else (some (false, false)))) else (none)) else (none)) else (none)) else (none)) = some (r1, r2) := by first | (rw [hji24] at H; exact H) | (simp only [hji24] at H ⊢; exact H)
          have hji24w : (IntKind.i64.wrap (x7_1 - 1)) = ji24 := (i64_w _).trans hji24
          by_cases c25 : 0 ≤ (ji24)
          ·rw [if_pos c25] at H
           have c25b0 : decide (0 ≤ (ji24)) = true := decide_eq_true c25
           clear c25
           by_cases c26 : (ji24) < (l1.length : Int)
           ·rw [if_pos c26] at H
            have c26b0 : decide ((ji24) < (l1.length : Int)) = true := decide_eq_true c26
            clear c26
            by_cases c27 : 0 ≤ x7_1
            ·rw [if_pos c27] at H
             have c27b0 : decide (0 ≤ x7_1) = true := decide_eq_true c27
             clear c27
             by_cases c28 : x7_1 < (l1.length : Int)
             ·rw [if_pos c28] at H
              have c28b0 : decide (x7_1 < (l1.length : Int)) = true := decide_eq_true c28
              clear c28
              replace H := Option.bind_eq_some_iff.mp H
              obtain ⟨t161, A290, H⟩ := H
              replace H : (if t161 = true then (if x6_1.length < 17592186044416 then (spec_ResolvesRecord.l0 k2 l1 (x6_1 ++ [x8_2]) (wrap64 (x7_1 + 1)) l0_0 l0_1) else (none)) else (some (false, false))) = some (r1, r2) := H
              have A29 := Aside0.mk A290
              clear A290
              by_cases c30 : t161 = true
              ·subst c30
               have H1 : (if x6_1.length < 17592186044416 then (spec_ResolvesRecord.l0 k2 l1 (x6_1 ++ [x8_2]) (wrap64 (x7_1 + 1)) l0_0 l0_1) else (none)) = some (r1, r2) := by rw [if_pos rfl] at H; exact H
               clear H
               have H := H1
               clear H1
               by_cases c31 : x6_1.length < 17592186044416
               ·rw [if_pos c31] at H
                have LMc31 := Aside0.mk c31
                clear c31
                obtain ⟨y162, hy162⟩ : ∃ y_ : List Int, y_ = (x6_1 ++ [x8_2]) := ⟨_, rfl⟩
                replace H : (spec_ResolvesRecord.l0 k2 l1 y162 (wrap64 (x7_1 + 1)) l0_0 l0_1) = some (r1, r2) := by first | (rw [hy162]; with_reducible exact H) | (have H2_ := (Option.bind_some _ _).symm.trans H; rw [hy162]; with_reducible exact H2_) | (have H2_ := (Option.bind_some _ _).symm.trans H; with_reducible exact H2_) | with_reducible exact H | (rw [hy162]; exact H) | exact H
                have Ny162 := Aside0.mk hy162
                clear hy162
                have H' := Aside0.mk H
                clear H
                have hcz32_0 : wr.cell? ⟨gb151, 0, none⟩ = some (.slice A0_0 l0_0.length c0_0) := (blk_cell BK151.out 0).trans rfl
                have hcz32_1 : wr.cell? ⟨gb151, 1, none⟩ = some (.slice A0_1 l0_1.length c0_1) := (blk_cell BK151.out 1).trans rfl
                have hfz32_0 := blk_frozen BK151.out 0
                have hfz32_1 := blk_frozen BK151.out 1
                try go_wp2
                have n0_ := Aside0.mk (Kd.R_drew HO_6.out)
                have n1_ := Aside0.mk (blk_drew BK151.out)
                have n2_ := Aside0.mk (below_drew1 HB.out)
                clear HO_6
                clear BK151
                clear HB
                have HO_6 := n0_
                have BK151 := n1_
                have HB := n2_
                clear n0_ n1_ n2_
                have p159 : 0 ≤ ((ji24) : Int) := of_decide_eq_true (by first | (with_reducible assumption) | assumption)
                have q159 : (ji24) < (l1.length : Int) := of_decide_eq_true (by first | (with_reducible assumption) | assumption)
                obtain ⟨ad159, e159, hx159_0, hx159_1⟩ := at_T90 HR1.out (ji24) p159 q159
                have hw159_1 := hx159_1
                have hw159_0 := hx159_0
                cases e159
                replace hx159_0 := (HB.out.cell (World.block_lt_of_cell? w _ hx159_0)).trans hx159_0
                replace hx159_1 := (HB.out.cell (World.block_lt_of_cell? w _ hx159_1)).trans hx159_1
                replace p159 := eq_true p159
                replace q159 := eq_true q159
                have p160 : 0 ≤ (x7_1 : Int) := of_decide_eq_true (by first | (with_reducible assumption) | assumption)
                have q160 : x7_1 < (l1.length : Int) := of_decide_eq_true (by first | (with_reducible assumption) | assumption)
                obtain ⟨ad160, e160, hx160_0, hx160_1⟩ := at_T90 HR1.out x7_1 p160 q160
                have hw160_1 := hx160_1
                have hw160_0 := hx160_0
                obtain rfl : ad159 = ad160 := (by injection e160)
                replace hx160_0 := (HB.out.cell (World.block_lt_of_cell? w _ hx160_0)).trans hx160_0
                replace hx160_1 := (HB.out.cell (World.block_lt_of_cell? w _ hx160_1)).trans hx160_1
                replace p160 := eq_true p160
                replace q160 := eq_true q160
                refine start_ (n := 19) (S := fun w' => w'.cell? (ad159.add (((ji24)).toNat * 2)) = some (.int .i64 ((rd_T90 l1 (ji24)).f0)) ∧ w'.cell? ⟨(ad159.add (((ji24)).toNat * 2)).block, (ad159.add (((ji24)).toNat * 2)).off + 1, none⟩ = some (.int .i64 ((rd_T90 l1 (ji24)).f1)) ∧ w'.cell? (ad159.add ((x7_1).toNat * 2)) = some (.int .i64 ((rd_T90 l1 x7_1).f0)) ∧ w'.cell? ⟨(ad159.add ((x7_1).toNat * 2)).block, (ad159.add ((x7_1).toNat * 2)).off + 1, none⟩ = some (.int .i64 ((rd_T90 l1 x7_1).f1))) (ds := []) #[false, false, false, false, false, false, false, false, false, false, false, false, false, false, false, false, false, false, false] (by kernel_rfl) rfl rfl ⟨((HB.out.cell (World.block_lt_of_cell? w _ hw159_0)).trans hw159_0), ((HB.out.cell (World.block_lt_of_cell? w _ hw159_1)).trans hw159_1), ((HB.out.cell (World.block_lt_of_cell? w _ hw160_0)).trans hw160_0), ((HB.out.cell (World.block_lt_of_cell? w _ hw160_1)).trans hw160_1)⟩ (fun hHeld => ?_); refine with_tabW spec_ResolvesRecord.tab13 spec_ResolvesRecord.bits13 (fun HT_ HW_ => ?_)
                generalize wr.drew = w33 at HO_6 BK151 HB hx159_0 hx159_1 hx160_0 hx160_1 hHeld ⊢
                refine pA_ 0 (some 38) (bl 1 19) HT_.out (h := ?_)
                refine pA_ 1 (some 39) (bl 2 19) HT_.out (h := ?_)
                refine pA_ 2 (some 40) (bl 3 19) HT_.out (h := ?_)
                refine pA_ 3 (some 41) (bl 4 19) HT_.out (h := ?_)
                refine pA_ 4 (some 42) (bl 5 19) HT_.out (h := ?_)
                refine pA_ 5 (some 43) (bl 6 19) HT_.out (h := ?_)
                refine pA_ 6 (some 44) (bl 7 19) HT_.out (h := ?_)
                refine pA_ 7 (some 45) (bl 8 19) HT_.out (h := ?_)
                refine pA_ 8 (some 46) (bl 9 19) HT_.out (h := ?_)
                refine pA_ 9 (some 47) (bl 10 19) HT_.out (h := ?_)
                refine pA_ 11 (some 49) #[true, true, true, true, true, true, true, true, true, true, false, true, false, false, false, false, false, false, false] HT_.out (h := ?_)
                refine pA_ 12 (some 50) #[true, true, true, true, true, true, true, true, true, true, false, true, true, false, false, false, false, false, false] HT_.out (h := ?_)
                refine pA_ 13 (some 51) #[true, true, true, true, true, true, true, true, true, true, false, true, true, true, false, false, false, false, false] HT_.out (h := ?_)
                refine tA_ 10 (some 48) (bl 14 19) HT_.out HW_.out hHeld (h := ?_)
                refine tA_ 14 (some 52) (bl 15 19) HT_.out HW_.out hHeld (h := ?_)
                refine one_ (i := 15) (N := some 53) (bl 16 19) rfl rfl (one_of HT_.out (by kernel_rfl)) (by decide) (fun K hK => ?_)
                refine goes_ Try.func93 (by kernel_rfl) rfl #[.agg #[.int .i64 ((rd_T90 l1 (ji24)).f0), .int .i64 ((rd_T90 l1 (ji24)).f1)], .agg #[.int .i64 ((rd_T90 l1 x7_1).f0), .int .i64 ((rd_T90 l1 x7_1).f1)]] (by rfl) rfl rfl (by (try simp only [List.map_toArray, List.map_cons, List.map_nil]); first | done | (simp only [hji24]; rfl) | rfl | (simp only [List.length_drop, List.length_take]; rfl)) ?_
                with_reducible refine (spec_l2Before.calls ((rd_T90 l1 (ji24)).f0) ((rd_T90 l1 (ji24)).f1) ((rd_T90 l1 x7_1).f0) ((rd_T90 l1 x7_1).f1) true _ A29.out).mono ?_
                rintro e w34 ⟨rfl, hb⟩
                refine ⟨_, rfl, ?_⟩
                have n0_ := Aside0.mk (Kd.R_below (rz_ HO_6.out) hb)
                have n1_ := Aside0.mk (blk_below (bz_ BK151.out) hb)
                have n2_ := Aside0.mk (below_step (by repeat (first | (with_reducible first | exact HB.out | apply below_alloc | apply pw_below_drewN | apply below_drew1 | refine below_set ?_ GE151.out) | exact HB.out)) hb)
                clear HO_6
                clear BK151
                clear HB
                have HO_6 := n0_
                have BK151 := n1_
                have HB := n2_
                clear n0_ n1_ n2_
                (try clear hb)
                (try clear hb2)
                (try clear hk)
                (try clear hi)
                refine hK.out _ _ ⟨((HB.out.cell (World.block_lt_of_cell? w _ hw159_0)).trans hw159_0), ((HB.out.cell (World.block_lt_of_cell? w _ hw159_1)).trans hw159_1), ((HB.out.cell (World.block_lt_of_cell? w _ hw160_0)).trans hw160_0), ((HB.out.cell (World.block_lt_of_cell? w _ hw160_1)).trans hw160_1)⟩ (fun hHeld => ?_)
                clear hK K
                refine norm_ (a' := ?_) ?_ ?_
                rotate_left
                ·show Act.put _ (some 53) _ = _
                 simp only [Act.put, List.setIfInBounds_toArray, List.set_cons_zero, List.set_cons_succ, i64_w, i32_w]
                 rfl
                refine pA_ 16 (some 54) (bl 17 19) HT_.out (h := ?_)
                refine pA_ 17 (some 55) (bl 18 19) HT_.out (h := ?_)
                refine pA_ 18 (some 56) (bl 19 19) HT_.out (h := ?_)
                refine done_ (done_of HT_.out (by kernel_rfl)) ?_
                try go_wp2_with (first | ((with_reducible refine gate_builtin (b := .append) (xs := #[.tmp 57, .tmp 59]) rfl ?_); at_builtin; refine Kd.R_append (Kd.int .i64) (w0 := w) w.heap.size rfl (.tmp 57) (.tmp 59) 39 3 (.int .i64 0) 8 rfl Try.underlying39 info3 rfl (by decide) (by omega) u6 x6_1 x8_2 [.int .i64 x8_2] (fun _ => True) (fun _ => False) rfl rfl ?aP (fun _ hk => hk.elim) ?aF ?aO ?aB ?aS ?aL ?_; (case aP => exact rfl); (case aB => exact (by repeat (first | (with_reducible first | exact HB.out | apply below_alloc | apply pw_below_drewN | apply below_drew1 | refine below_set ?_ GE151.out) | exact HB.out))); (case aF => exact (fun _ _ => trivial)); (case aO => exact (rz_ HO_6.out)); (case aS => exact (below_size (by repeat (first | (with_reducible first | exact HB.out | apply below_alloc | apply pw_below_drewN | apply below_drew1 | refine below_set ?_ GE151.out) | exact HB.out)))); (case aL => have := LMc31.out; omega); intro v163 w35 ho hb hg hat; rw [← Ny162.out] at ho; have n0_ := Aside0.mk (blk_grown (g := gb151) (o := .cells #[.slice A0_0 l0_0.length c0_0, .slice A0_1 l0_1.length c0_1] 32 (0, 0)) (bz_ BK151.out) hg (Kd.R_ne HO_6.out BK151.out (by decide))); have n1_ := Aside0.mk (hb); have n2_ := Aside0.mk (ho); clear BK151; clear HB; clear HO_6; have BK151 := n0_; have HB := n1_; have HO164 := n2_; clear n0_ n1_ n2_; clear ho hb hg hat))
                go_roundg k2
                case measure => have := HK1.out; have := HK2.out; omega
                case rel => exact ⟨(y162), (wrap64 (x7_1 + 1)), (by first | rfl | (simp; done) | (simp [*]; done)), H', ⟨by have := HK1.out; have := HK2.out; omega⟩, ⟨rz_ HO164.out⟩, ⟨bz_ BK151.out⟩, ⟨by repeat (first | (with_reducible first | exact HB.out | apply below_alloc | apply pw_below_drewN | apply below_drew1 | refine below_set ?_ GE151.out) | exact HB.out)⟩⟩
               ·rw [if_neg c31] at H
                exact absurd H (by simp)
              ·replace c30 := Bool.eq_false_iff.mpr c30
               subst c30
               have H1 : (some (false, false)) = some (r1, r2) := by rw [if_neg (show ¬ (false = true) by decide)] at H; exact H
               clear H
               have H := H1
               clear H1
               simp only [Option.some.injEq, Prod.mk.injEq] at H
               obtain ⟨rfl, rfl⟩ := H
               have hcz36_0 : wr.cell? ⟨gb151, 0, none⟩ = some (.slice A0_0 l0_0.length c0_0) := (blk_cell BK151.out 0).trans rfl
               have hcz36_1 : wr.cell? ⟨gb151, 1, none⟩ = some (.slice A0_1 l0_1.length c0_1) := (blk_cell BK151.out 1).trans rfl
               have hfz36_0 := blk_frozen BK151.out 0
               have hfz36_1 := blk_frozen BK151.out 1
               try go_wp2
               have n0_ := Aside0.mk (Kd.R_drew HO_6.out)
               have n1_ := Aside0.mk (blk_drew BK151.out)
               have n2_ := Aside0.mk (below_drew1 HB.out)
               clear HO_6
               clear BK151
               clear HB
               have HO_6 := n0_
               have BK151 := n1_
               have HB := n2_
               clear n0_ n1_ n2_
               have p159 : 0 ≤ ((ji24) : Int) := of_decide_eq_true (by first | (with_reducible assumption) | assumption)
               have q159 : (ji24) < (l1.length : Int) := of_decide_eq_true (by first | (with_reducible assumption) | assumption)
               obtain ⟨ad159, e159, hx159_0, hx159_1⟩ := at_T90 HR1.out (ji24) p159 q159
               have hw159_1 := hx159_1
               have hw159_0 := hx159_0
               cases e159
               replace hx159_0 := (HB.out.cell (World.block_lt_of_cell? w _ hx159_0)).trans hx159_0
               replace hx159_1 := (HB.out.cell (World.block_lt_of_cell? w _ hx159_1)).trans hx159_1
               replace p159 := eq_true p159
               replace q159 := eq_true q159
               have p160 : 0 ≤ (x7_1 : Int) := of_decide_eq_true (by first | (with_reducible assumption) | assumption)
               have q160 : x7_1 < (l1.length : Int) := of_decide_eq_true (by first | (with_reducible assumption) | assumption)
               obtain ⟨ad160, e160, hx160_0, hx160_1⟩ := at_T90 HR1.out x7_1 p160 q160
               have hw160_1 := hx160_1
               have hw160_0 := hx160_0
               obtain rfl : ad159 = ad160 := (by injection e160)
               replace hx160_0 := (HB.out.cell (World.block_lt_of_cell? w _ hx160_0)).trans hx160_0
               replace hx160_1 := (HB.out.cell (World.block_lt_of_cell? w _ hx160_1)).trans hx160_1
               replace p160 := eq_true p160
               replace q160 := eq_true q160
               refine start_ (n := 19) (S := fun w' => w'.cell? (ad159.add (((ji24)).toNat * 2)) = some (.int .i64 ((rd_T90 l1 (ji24)).f0)) ∧ w'.cell? ⟨(ad159.add (((ji24)).toNat * 2)).block, (ad159.add (((ji24)).toNat * 2)).off + 1, none⟩ = some (.int .i64 ((rd_T90 l1 (ji24)).f1)) ∧ w'.cell? (ad159.add ((x7_1).toNat * 2)) = some (.int .i64 ((rd_T90 l1 x7_1).f0)) ∧ w'.cell? ⟨(ad159.add ((x7_1).toNat * 2)).block, (ad159.add ((x7_1).toNat * 2)).off + 1, none⟩ = some (.int .i64 ((rd_T90 l1 x7_1).f1))) (ds := []) #[false, false, false, false, false, false, false, false, false, false, false, false, false, false, false, false, false, false, false] (by kernel_rfl) rfl rfl ⟨((HB.out.cell (World.block_lt_of_cell? w _ hw159_0)).trans hw159_0), ((HB.out.cell (World.block_lt_of_cell? w _ hw159_1)).trans hw159_1), ((HB.out.cell (World.block_lt_of_cell? w _ hw160_0)).trans hw160_0), ((HB.out.cell (World.block_lt_of_cell? w _ hw160_1)).trans hw160_1)⟩ (fun hHeld => ?_); refine with_tabW spec_ResolvesRecord.tab13 spec_ResolvesRecord.bits13 (fun HT_ HW_ => ?_)
               generalize wr.drew = w37 at HO_6 BK151 HB hx159_0 hx159_1 hx160_0 hx160_1 hHeld ⊢
               refine pA_ 0 (some 38) (bl 1 19) HT_.out (h := ?_)
               refine pA_ 1 (some 39) (bl 2 19) HT_.out (h := ?_)
               refine pA_ 2 (some 40) (bl 3 19) HT_.out (h := ?_)
               refine pA_ 3 (some 41) (bl 4 19) HT_.out (h := ?_)
               refine pA_ 4 (some 42) (bl 5 19) HT_.out (h := ?_)
               refine pA_ 5 (some 43) (bl 6 19) HT_.out (h := ?_)
               refine pA_ 6 (some 44) (bl 7 19) HT_.out (h := ?_)
               refine pA_ 7 (some 45) (bl 8 19) HT_.out (h := ?_)
               refine pA_ 8 (some 46) (bl 9 19) HT_.out (h := ?_)
               refine pA_ 9 (some 47) (bl 10 19) HT_.out (h := ?_)
               refine pA_ 11 (some 49) #[true, true, true, true, true, true, true, true, true, true, false, true, false, false, false, false, false, false, false] HT_.out (h := ?_)
               refine pA_ 12 (some 50) #[true, true, true, true, true, true, true, true, true, true, false, true, true, false, false, false, false, false, false] HT_.out (h := ?_)
               refine pA_ 13 (some 51) #[true, true, true, true, true, true, true, true, true, true, false, true, true, true, false, false, false, false, false] HT_.out (h := ?_)
               refine tA_ 10 (some 48) (bl 14 19) HT_.out HW_.out hHeld (h := ?_)
               refine tA_ 14 (some 52) (bl 15 19) HT_.out HW_.out hHeld (h := ?_)
               refine one_ (i := 15) (N := some 53) (bl 16 19) rfl rfl (one_of HT_.out (by kernel_rfl)) (by decide) (fun K hK => ?_)
               refine goes_ Try.func93 (by kernel_rfl) rfl #[.agg #[.int .i64 ((rd_T90 l1 (ji24)).f0), .int .i64 ((rd_T90 l1 (ji24)).f1)], .agg #[.int .i64 ((rd_T90 l1 x7_1).f0), .int .i64 ((rd_T90 l1 x7_1).f1)]] (by rfl) rfl rfl (by (try simp only [List.map_toArray, List.map_cons, List.map_nil]); first | done | (simp only [hji24]; rfl) | rfl | (simp only [List.length_drop, List.length_take]; rfl)) ?_
               with_reducible refine (spec_l2Before.calls ((rd_T90 l1 (ji24)).f0) ((rd_T90 l1 (ji24)).f1) ((rd_T90 l1 x7_1).f0) ((rd_T90 l1 x7_1).f1) false _ A29.out).mono ?_
               rintro e w38 ⟨rfl, hb⟩
               refine ⟨_, rfl, ?_⟩
               have n0_ := Aside0.mk (Kd.R_below (rz_ HO_6.out) hb)
               have n1_ := Aside0.mk (blk_below (bz_ BK151.out) hb)
               have n2_ := Aside0.mk (below_step (by repeat (first | (with_reducible first | exact HB.out | apply below_alloc | apply pw_below_drewN | apply below_drew1 | refine below_set ?_ GE151.out) | exact HB.out)) hb)
               clear HO_6
               clear BK151
               clear HB
               have HO_6 := n0_
               have BK151 := n1_
               have HB := n2_
               clear n0_ n1_ n2_
               (try clear hb)
               (try clear hb2)
               (try clear hk)
               (try clear hi)
               refine hK.out _ _ ⟨((HB.out.cell (World.block_lt_of_cell? w _ hw159_0)).trans hw159_0), ((HB.out.cell (World.block_lt_of_cell? w _ hw159_1)).trans hw159_1), ((HB.out.cell (World.block_lt_of_cell? w _ hw160_0)).trans hw160_0), ((HB.out.cell (World.block_lt_of_cell? w _ hw160_1)).trans hw160_1)⟩ (fun hHeld => ?_)
               clear hK K
               refine norm_ (a' := ?_) ?_ ?_
               rotate_left
               ·show Act.put _ (some 53) _ = _
                simp only [Act.put, List.setIfInBounds_toArray, List.set_cons_zero, List.set_cons_succ, i64_w, i32_w]
                rfl
               refine pA_ 16 (some 54) (bl 17 19) HT_.out (h := ?_)
               refine pA_ 17 (some 55) (bl 18 19) HT_.out (h := ?_)
               refine pA_ 18 (some 56) (bl 19 19) HT_.out (h := ?_)
               refine done_ (done_of HT_.out (by kernel_rfl)) ?_
               try go_wp2
               go_ret2
               exact ⟨by first | rfl | (simp [errW_none, errW_some] <;> rfl) | (simp only [← hji24]; first | rfl | (simp [errW_none, errW_some] <;> rfl)) | (simp [*, errW_none, errW_some] <;> rfl), by repeat (first | (with_reducible first | exact HB.out | apply below_alloc | apply pw_below_drewN | apply below_drew1 | refine below_set ?_ GE151.out) | exact HB.out)⟩
             ·rw [if_neg c28] at H
              exact absurd H (by simp)
            ·rw [if_neg c27] at H
             exact absurd H (by simp)
           ·rw [if_neg c26] at H
            exact absurd H (by simp)
          ·rw [if_neg c25] at H
           exact absurd H (by simp)
         ·rw [if_neg c23] at H
          have c23b0 : decide (0 < x7_1) = false := decide_eq_false c23
          clear c23
          by_cases c39 : x6_1.length < 17592186044416
          ·rw [if_pos c39] at H
           have LMc39 := Aside0.mk c39
           clear c39
           obtain ⟨y165, hy165⟩ : ∃ y_ : List Int, y_ = (x6_1 ++ [x8_2]) := ⟨_, rfl⟩
           replace H : (spec_ResolvesRecord.l0 k2 l1 y165 (wrap64 (x7_1 + 1)) l0_0 l0_1) = some (r1, r2) := by first | (rw [hy165]; with_reducible exact H) | (have H2_ := (Option.bind_some _ _).symm.trans H; rw [hy165]; with_reducible exact H2_) | (have H2_ := (Option.bind_some _ _).symm.trans H; with_reducible exact H2_) | with_reducible exact H | (rw [hy165]; exact H) | exact H
           have Ny165 := Aside0.mk hy165
           clear hy165
           have H' := Aside0.mk H
           clear H
           have hcz40_0 : wr.cell? ⟨gb151, 0, none⟩ = some (.slice A0_0 l0_0.length c0_0) := (blk_cell BK151.out 0).trans rfl
           have hcz40_1 : wr.cell? ⟨gb151, 1, none⟩ = some (.slice A0_1 l0_1.length c0_1) := (blk_cell BK151.out 1).trans rfl
           have hfz40_0 := blk_frozen BK151.out 0
           have hfz40_1 := blk_frozen BK151.out 1
           try go_wp2
           have n0_ := Aside0.mk (Kd.R_drew HO_6.out)
           have n1_ := Aside0.mk (blk_drew BK151.out)
           have n2_ := Aside0.mk (below_drew1 HB.out)
           clear HO_6
           clear BK151
           clear HB
           have HO_6 := n0_
           have BK151 := n1_
           have HB := n2_
           clear n0_ n1_ n2_
           refine start_ (n := 19) (S := fun w' => True) (ds := []) #[false, false, false, false, false, false, false, false, false, false, false, false, false, false, false, false, false, false, false] (by kernel_rfl) rfl rfl trivial (fun hHeld => ?_); refine with_tabW spec_ResolvesRecord.tab13 spec_ResolvesRecord.bits13 (fun HT_ HW_ => ?_)
           generalize wr.drew = w41 at HO_6 BK151 HB hHeld ⊢
           refine pA_ 0 (some 38) (bl 1 19) HT_.out (h := ?_)
           refine pA_ 1 (some 39) (bl 2 19) HT_.out (h := ?_)
           refine pA_ 2 (some 40) (bl 3 19) HT_.out (h := ?_)
           refine pA_ 3 (some 41) (bl 4 19) HT_.out (h := ?_)
           refine pA_ 4 (some 42) (bl 5 19) HT_.out (h := ?_)
           refine pA_ 5 (some 43) (bl 6 19) HT_.out (h := ?_)
           refine pO_ 6 (some 44) (bl 7 19) HT_.out (h := ?_)
           refine pO_ 7 (some 45) (bl 8 19) HT_.out (h := ?_)
           refine pO_ 8 (some 46) (bl 9 19) HT_.out (h := ?_)
           refine pO_ 9 (some 47) (bl 10 19) HT_.out (h := ?_)
           refine pO_ 10 (some 48) (bl 11 19) HT_.out (h := ?_)
           refine pO_ 11 (some 49) (bl 12 19) HT_.out (h := ?_)
           refine pO_ 12 (some 50) (bl 13 19) HT_.out (h := ?_)
           refine pO_ 13 (some 51) (bl 14 19) HT_.out (h := ?_)
           refine pO_ 14 (some 52) (bl 15 19) HT_.out (h := ?_)
           refine pO_ 15 (some 53) (bl 16 19) HT_.out (h := ?_)
           refine pO_ 16 (some 54) (bl 17 19) HT_.out (h := ?_)
           refine pA_ 17 (some 55) (bl 18 19) HT_.out (h := ?_)
           refine pA_ 18 (some 56) (bl 19 19) HT_.out (h := ?_)
           refine done_ (done_of HT_.out (by kernel_rfl)) ?_
           try go_wp2_with (first | ((with_reducible refine gate_builtin (b := .append) (xs := #[.tmp 57, .tmp 59]) rfl ?_); at_builtin; refine Kd.R_append (Kd.int .i64) (w0 := w) w.heap.size rfl (.tmp 57) (.tmp 59) 39 3 (.int .i64 0) 8 rfl Try.underlying39 info3 rfl (by decide) (by omega) u6 x6_1 x8_2 [.int .i64 x8_2] (fun _ => True) (fun _ => False) rfl rfl ?aP (fun _ hk => hk.elim) ?aF ?aO ?aB ?aS ?aL ?_; (case aP => exact rfl); (case aB => exact (by repeat (first | (with_reducible first | exact HB.out | apply below_alloc | apply pw_below_drewN | apply below_drew1 | refine below_set ?_ GE151.out) | exact HB.out))); (case aF => exact (fun _ _ => trivial)); (case aO => exact (rz_ HO_6.out)); (case aS => exact (below_size (by repeat (first | (with_reducible first | exact HB.out | apply below_alloc | apply pw_below_drewN | apply below_drew1 | refine below_set ?_ GE151.out) | exact HB.out)))); (case aL => have := LMc39.out; omega); intro v166 w42 ho hb hg hat; rw [← Ny165.out] at ho; have n0_ := Aside0.mk (blk_grown (g := gb151) (o := .cells #[.slice A0_0 l0_0.length c0_0, .slice A0_1 l0_1.length c0_1] 32 (0, 0)) (bz_ BK151.out) hg (Kd.R_ne HO_6.out BK151.out (by decide))); have n1_ := Aside0.mk (hb); have n2_ := Aside0.mk (ho); clear BK151; clear HB; clear HO_6; have BK151 := n0_; have HB := n1_; have HO167 := n2_; clear n0_ n1_ n2_; clear ho hb hg hat))
           go_roundg k2
           case measure => have := HK1.out; have := HK2.out; omega
           case rel => exact ⟨(y165), (wrap64 (x7_1 + 1)), (by first | rfl | (simp; done) | (simp [*]; done)), H', ⟨by have := HK1.out; have := HK2.out; omega⟩, ⟨rz_ HO167.out⟩, ⟨bz_ BK151.out⟩, ⟨by repeat (first | (with_reducible first | exact HB.out | apply below_alloc | apply pw_below_drewN | apply below_drew1 | refine below_set ?_ GE151.out) | exact HB.out)⟩⟩
          ·rw [if_neg c39] at H
           exact absurd H (by simp)
    ·rw [if_neg c10] at H
     have c10b0 : decide (x7_1 < (l1.length : Int)) = false := decide_eq_false c10
     clear c10
     replace H := Option.bind_eq_some_iff.mp H
     obtain ⟨t156, A430, H⟩ := H
     replace H : (some (t156, true)) = some (r1, r2) := H
     have A43 := Aside0.mk A430
     clear A430
     simp only [Option.some.injEq, Prod.mk.injEq] at H
     obtain ⟨rfl, rfl⟩ := H
     have hcz44_0 : wr.cell? ⟨gb151, 0, none⟩ = some (.slice A0_0 l0_0.length c0_0) := (blk_cell BK151.out 0).trans rfl
     have hcz44_1 : wr.cell? ⟨gb151, 1, none⟩ = some (.slice A0_1 l0_1.length c0_1) := (blk_cell BK151.out 1).trans rfl
     have hfz44_0 := blk_frozen BK151.out 0
     have hfz44_1 := blk_frozen BK151.out 1
     obtain ⟨Ao45, co45, eo45⟩ := Kd.R_slice HO_6.out
     subst eo45
     go_wp2_with (first | ((with_reducible refine gate_callee (f := 94) rfl ?_); refine goesL_ (some 63) rfl rfl Try.func94 (by kernel_rfl) rfl #[.agg #[.slice A0_0 l0_0.length c0_0, .slice A0_1 l0_1.length c0_1], .slice Ao45 x6_1.length co45] rfl (by (try simp only [List.map_toArray, List.map_cons, List.map_nil]); first | done | rfl | (simp only [List.length_drop, List.length_take]; rfl)) ?_; (with_reducible refine (spec_l6Resolves.calls k1 _ _ l0_0 _ _ l0_1 _ _ x6_1 t156 _ ?side1 ?side2 ?side3 ?side4 ?side5 ?side6 A43.out).mono ?_); (case side1 => exact cz_ (Kd.C_below HR0_0.out HB.out)); (case side2 => exact HC0_0.out); (case side3 => exact cz_ (Kd.C_below HR0_1.out HB.out)); (case side4 => exact HC0_1.out); (case side5 => exact cz_ (Kd.R_reads' HO_6.out).2.2); (case side6 => exact (Kd.R_reads' HO_6.out).2.1); rintro e w46 ⟨rfl, hb⟩; refine ⟨_, rfl, ?_⟩; have n0_ := Aside0.mk (Kd.R_below (rz_ HO_6.out) hb); have n1_ := Aside0.mk (blk_below (bz_ BK151.out) hb); have n2_ := Aside0.mk (below_step (by repeat (first | (with_reducible first | exact HB.out | apply below_alloc | apply pw_below_drewN | apply below_drew1 | refine below_set ?_ GE151.out) | exact HB.out)) hb); clear HO_6; clear BK151; clear HB; have HO_6 := n0_; have BK151 := n1_; have HB := n2_; clear n0_ n1_ n2_; (try clear hb); (try clear hb2); (try clear hk); (try clear hi)))
     go_ret2
     exact ⟨by first | rfl | (simp [errW_none, errW_some] <;> rfl) | (simp [*, errW_none, errW_some] <;> rfl), by repeat (first | (with_reducible first | exact HB.out | apply below_alloc | apply pw_below_drewN | apply below_drew1 | refine below_set ?_ GE151.out) | exact HB.out)⟩
 ·replace c4 := Bool.eq_false_iff.mpr c4
  subst c4
  have H1 : (some (false, false)) = some (r1, r2) := by rw [if_neg (show ¬ (false = true) by decide)] at H; exact H
  clear H
  have H := H1
  clear H1
  simp only [Option.some.injEq, Prod.mk.injEq] at H
  obtain ⟨rfl, rfl⟩ := H
  go_enter Try.func49, Try.ntmps49
  go_wp2_with (first | ((with_reducible refine gate_dst (N := 2) rfl ?_); refine box_event ?hg (N := 2) ?hd (cs := #[.slice A0_0 l0_0.length c0_0, .slice A0_1 l0_1.length c0_1]) (t := 32) ?hr ?_; (case hd => rfl); (case hg => rfl); (case hr => first | (go_simp; done) | (go_simp; rfl)); intro gb151 hg w47 hbox hb; have n0_ := Aside0.mk (below_step (wz_ HB.out) hb); have n1_ := Aside0.mk (hbox); have n2_ := Aside0.mk ((by rw [hg]; exact (below_size (wz_ HB.out)) : w.heap.size ≤ gb151)); have n3_ := Aside0.mk ((by rw [hg]; exact (below_size (wz_ HB.out)) : w.heap.size ≤ gb151)); clear HB; have HB := n0_; have BK151 := n1_; have GW151 := n2_; have GE151 := n3_; clear n0_ n1_ n2_ n3_; clear hb hbox hg; have hcz48_0 : w47.cell? ⟨gb151, 0, none⟩ = some (.slice A0_0 l0_0.length c0_0) := (blk_cell BK151.out 0).trans rfl; have hcz48_1 : w47.cell? ⟨gb151, 1, none⟩ = some (.slice A0_1 l0_1.length c0_1) := (blk_cell BK151.out 1).trans rfl; have hfz48_0 := blk_frozen BK151.out 0; have hfz48_1 := blk_frozen BK151.out 1) | ((with_reducible refine gate_callee (f := 56) rfl ?_); refine goesL_ (some 11) rfl rfl Try.func56 (by kernel_rfl) rfl #[.agg #[.slice A0_0 l0_0.length c0_0, .slice A0_1 l0_1.length c0_1]] rfl (by (try simp only [List.map_toArray, List.map_cons, List.map_nil]); first | done | rfl | (simp only [List.length_drop, List.length_take]; rfl)) ?_; (with_reducible refine (spec_l2Good.calls _ _ l0_0 _ _ l0_1 false _ ?side1 ?side2 ?side3 ?side4 A3.out).mono ?_); (case side1 => exact cz_ (Kd.C_below HR0_0.out HB.out)); (case side2 => exact HC0_0.out); (case side3 => exact cz_ (Kd.C_below HR0_1.out HB.out)); (case side4 => exact HC0_1.out); rintro e w49 ⟨rfl, hb⟩; refine ⟨_, rfl, ?_⟩; have n0_ := Aside0.mk (blk_below (bz_ BK151.out) hb); have n1_ := Aside0.mk (below_step (by repeat (first | (with_reducible first | exact HB.out | apply below_alloc | apply pw_below_drewN | apply below_drew1 | refine below_set ?_ GE151.out) | exact HB.out)) hb); clear BK151; clear HB; have BK151 := n0_; have HB := n1_; clear n0_ n1_; (try clear hb); (try clear hb2); (try clear hk); (try clear hi)))
  go_ret2
  exact ⟨by first | rfl | (simp [errW_none, errW_some] <;> rfl) | (simp [*, errW_none, errW_some] <;> rfl), by repeat (first | (with_reducible first | exact HB.out | apply below_alloc | apply pw_below_drewN | apply below_drew1 | refine below_set ?_ GE151.out) | exact HB.out)⟩

end Go.Proofs.Ytdpehkfjhfjobaa.Q

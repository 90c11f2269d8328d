-- Written by a program of this session (wip/xprint.py over the kit's printer).
import Derived.Test.YtojdchmkhhpmiaaQ0
import Derived.Test.YtojdchmkhhpmiaaQ4
import Derived.Test.YtojdchmkhhpmiaaQ5
namespace Go.Proofs.Ytojdchmkhhpmiaa.Q
open Go.RowKit Go.Proofs.YtojdchmkhhpmiaaW.PrintWords Go.Proofs.YtojdchmkhhpmiaaW.PrintLast Go.Proofs.YtojdchmkhhpmiaaW.PrintMore
attribute [local go_sem] max2_int min2_int max_two min_two max_three min_three max_four min_four   -- for this text's walks alone
set_option linter.unusedVariables false
set_option linter.unusedSimpArgs false

/-! ### impl_IsValidRecord: function 18 -/
mutual
def impl_IsValidRecord.j0 : Nat → Bool → List (S59) → List (S53) → Option (Bool)
 | 0, _, _, _ => none
 | k + 1, x16, x165000, x165001 => if x16 = true then (some false) else (impl_IsValidRecord.l0 k x165000 (x165000.length : Int) 0 x165000 x165001)
def impl_IsValidRecord.l0 : Nat → List (S59) → Int → Int → List (S59) → List (S53) → Option (Bool)
 | 0, _, _, _, _, _ => none
 | k + 1, x18, x19, x20, x165000, x165001 => if x20 < x19 then (if 0 ≤ x20 then (if x20 < (x18.length : Int) then ((impl_isNumber.f ((rd_T59 x18 x20).f0)).bind fun t167 => (if t167 = true then ((impl_isKind.f ((rd_T59 x18 x20).f1)).bind fun t168 => (if t168 = true then (if x20 > 0 then (if 0 ≤ (wrap64 (x20 - 1)) then (if (wrap64 (x20 - 1)) < (x165000.length : Int) then (if ((rd_T59 x18 x20).f0) ≤ ((rd_T59 x165000 (wrap64 (x20 - 1))).f0) then (some false) else (impl_IsValidRecord.l0 k x18 x19 (wrap64 (x20 + 1)) x165000 x165001)) else (none)) else (none)) else (impl_IsValidRecord.l0 k x18 x19 (wrap64 (x20 + 1)) x165000 x165001)) else (some false))) else (some false))) else (none)) else (none)) else (impl_IsValidRecord.l1 k x165001 (x165001.length : Int) 0 x165000 x165001)
def impl_IsValidRecord.l1 : Nat → List (S53) → Int → Int → List (S59) → List (S53) → Option (Bool)
 | 0, _, _, _, _, _ => none
 | k + 1, x53, x54, x55, x165000, x165001 => if x55 < x54 then (if 0 ≤ x55 then (if x55 < (x53.length : Int) then (if ((rd_T53 x53 x55).f0) = ((rd_T53 x53 x55).f1) then (impl_IsValidRecord.j3 k x55 x53 x54 x55 true x165000 x165001 ((rd_T53 x53 x55).f0) ((rd_T53 x53 x55).f1)) else ((impl_indexOf.f x165000 x165001 ((rd_T53 x53 x55).f0)).bind fun t172 => (if t172 < 0 then (impl_IsValidRecord.j3 k x55 x53 x54 x55 true x165000 x165001 ((rd_T53 x53 x55).f0) ((rd_T53 x53 x55).f1)) else ((impl_indexOf.f x165000 x165001 ((rd_T53 x53 x55).f1)).bind fun t173 => (impl_IsValidRecord.j3 k x55 x53 x54 x55 (decide (t173 < 0)) x165000 x165001 ((rd_T53 x53 x55).f0) ((rd_T53 x53 x55).f1)))))) else (none)) else (none)) else (some true)
def impl_IsValidRecord.j3 : Nat → Int → List (S53) → Int → Int → Bool → List (S59) → List (S53) → Int → Int → Option (Bool)
 | 0, _, _, _, _, _, _, _, _, _ => none
 | k + 1, x5, x53, x54, x55, x78, x165000, x165001, x172000, x172001 => if x78 = true then (some false) else (if x5 > 0 then (if 0 ≤ (wrap64 (x5 - 1)) then (if (wrap64 (x5 - 1)) < (x165001.length : Int) then ((impl_compareRelations.f k ((rd_T53 x165001 (wrap64 (x5 - 1))).f0) ((rd_T53 x165001 (wrap64 (x5 - 1))).f1) x172000 x172001).bind fun t175 => (if t175 ≥ 0 then (some false) else (impl_IsValidRecord.l1 k x53 x54 (wrap64 (x55 + 1)) x165000 x165001))) else (none)) else (none)) else (impl_IsValidRecord.l1 k x53 x54 (wrap64 (x55 + 1)) x165000 x165001))
end
def impl_IsValidRecord.f (k : Nat) (l0_0 : List (S59)) (l0_1 : List (S53)) : Option (Bool) := if (l0_0.length : Int) > 10 then (impl_IsValidRecord.j0 k true l0_0 l0_1) else (impl_IsValidRecord.j0 k (decide ((l0_1.length : Int) > 24)) l0_0 l0_1)
theorem impl_IsValidRecord.mono_l : ∀ k, (∀ y0 y1 y2, LeO (impl_IsValidRecord.j0 k y0 y1 y2) (impl_IsValidRecord.j0 (k + 1) y0 y1 y2)) ∧ (∀ y0 y1 y2 y3 y4, LeO (impl_IsValidRecord.l0 k y0 y1 y2 y3 y4) (impl_IsValidRecord.l0 (k + 1) y0 y1 y2 y3 y4)) ∧ (∀ y0 y1 y2 y3 y4, LeO (impl_IsValidRecord.l1 k y0 y1 y2 y3 y4) (impl_IsValidRecord.l1 (k + 1) y0 y1 y2 y3 y4)) ∧ (∀ y0 y1 y2 y3 y4 y5 y6 y7 y8, LeO (impl_IsValidRecord.j3 k y0 y1 y2 y3 y4 y5 y6 y7 y8) (impl_IsValidRecord.j3 (k + 1) y0 y1 y2 y3 y4 y5 y6 y7 y8))
 | 0 => ⟨fun _ _ _ r h => by simp [impl_IsValidRecord.j0] at h, fun _ _ _ _ _ r h => by simp [impl_IsValidRecord.l0] at h, fun _ _ _ _ _ r h => by simp [impl_IsValidRecord.l1] at h, fun _ _ _ _ _ _ _ _ _ r h => by simp [impl_IsValidRecord.j3] at h⟩
 | k + 1 => by
  obtain ⟨ih0, ih1, ih2, ih3⟩ := impl_IsValidRecord.mono_l k
  refine ⟨?_, ?_, ?_, ?_⟩
  ·intro y0 y1 y2
   unfold impl_IsValidRecord.j0
   repeat' first
   | (with_reducible exact ih0 _ _ _)
   | (with_reducible exact ih1 _ _ _ _ _)
   | (with_reducible exact ih2 _ _ _ _ _)
   | (with_reducible exact ih3 _ _ _ _ _ _ _ _ _)
   | (with_reducible exact impl_compareRelations.mono _ _ _ _ _)
   | (with_reducible exact LeO.refl _)
   | (with_reducible exact LeO.none _)
   | (with_reducible refine LeO.ite ?_ ?_)
   | (with_reducible refine LeO.bind ?_ (fun _ => ?_))
   | exact ih0 _ _ _
   | exact ih1 _ _ _ _ _
   | exact ih2 _ _ _ _ _
   | exact ih3 _ _ _ _ _ _ _ _ _
   | exact impl_compareRelations.mono _ _ _ _ _
   | exact LeO.none _
   | refine LeO.ite ?_ ?_
   | refine LeO.bind ?_ (fun _ => ?_)
  ·intro y0 y1 y2 y3 y4
   unfold impl_IsValidRecord.l0
   repeat' first
   | (with_reducible exact ih0 _ _ _)
   | (with_reducible exact ih1 _ _ _ _ _)
   | (with_reducible exact ih2 _ _ _ _ _)
   | (with_reducible exact ih3 _ _ _ _ _ _ _ _ _)
   | (with_reducible exact impl_compareRelations.mono _ _ _ _ _)
   | (with_reducible exact LeO.refl _)
   | (with_reducible exact LeO.none _)
   | (with_reducible refine LeO.ite ?_ ?_)
   | (with_reducible refine LeO.bind ?_ (fun _ => ?_))
   | exact ih0 _ _ _
   | exact ih1 _ _ _ _ _
   | exact ih2 _ _ _ _ _
   | exact ih3 _ _ _ _ _ _ _ _ _
   | exact impl_compareRelations.mono _ _ _ _ _
   | exact LeO.none _
   | refine LeO.ite ?_ ?_
   | refine LeO.bind ?_ (fun _ => ?_)
  ·intro y0 y1 y2 y3 y4
   unfold impl_IsValidRecord.l1
   repeat' first
   | (with_reducible exact ih0 _ _ _)
   | (with_reducible exact ih1 _ _ _ _ _)
   | (with_reducible exact ih2 _ _ _ _ _)
   | (with_reducible exact ih3 _ _ _ _ _ _ _ _ _)
   | (with_reducible exact impl_compareRelations.mono _ _ _ _ _)
   | (with_reducible exact LeO.refl _)
   | (with_reducible exact LeO.none _)
   | (with_reducible refine LeO.ite ?_ ?_)
   | (with_reducible refine LeO.bind ?_ (fun _ => ?_))
   | exact ih0 _ _ _
   | exact ih1 _ _ _ _ _
   | exact ih2 _ _ _ _ _
   | exact ih3 _ _ _ _ _ _ _ _ _
   | exact impl_compareRelations.mono _ _ _ _ _
   | exact LeO.none _
   | refine LeO.ite ?_ ?_
   | refine LeO.bind ?_ (fun _ => ?_)
  ·intro y0 y1 y2 y3 y4 y5 y6 y7 y8
   unfold impl_IsValidRecord.j3
   repeat' first
   | (with_reducible exact ih0 _ _ _)
   | (with_reducible exact ih1 _ _ _ _ _)
   | (with_reducible exact ih2 _ _ _ _ _)
   | (with_reducible exact ih3 _ _ _ _ _ _ _ _ _)
   | (with_reducible exact impl_compareRelations.mono _ _ _ _ _)
   | (with_reducible exact LeO.refl _)
   | (with_reducible exact LeO.none _)
   | (with_reducible refine LeO.ite ?_ ?_)
   | (with_reducible refine LeO.bind ?_ (fun _ => ?_))
   | exact ih0 _ _ _
   | exact ih1 _ _ _ _ _
   | exact ih2 _ _ _ _ _
   | exact ih3 _ _ _ _ _ _ _ _ _
   | exact impl_compareRelations.mono _ _ _ _ _
   | exact LeO.none _
   | refine LeO.ite ?_ ?_
   | refine LeO.bind ?_ (fun _ => ?_)
theorem impl_IsValidRecord.mono : ∀ a0 a1 k, LeO (impl_IsValidRecord.f k a0 a1) (impl_IsValidRecord.f (k + 1) a0 a1) := by
 intro a0 a1 k
 obtain ⟨ih0, ih1, ih2, ih3⟩ := impl_IsValidRecord.mono_l k
 unfold impl_IsValidRecord.f
 repeat' first
   | (with_reducible exact ih0 _ _ _)
   | (with_reducible exact ih1 _ _ _ _ _)
   | (with_reducible exact ih2 _ _ _ _ _)
   | (with_reducible exact ih3 _ _ _ _ _ _ _ _ _)
   | (with_reducible exact impl_compareRelations.mono _ _ _ _ _)
   | (with_reducible exact LeO.refl _)
   | (with_reducible exact LeO.none _)
   | (with_reducible refine LeO.ite ?_ ?_)
   | (with_reducible refine LeO.bind ?_ (fun _ => ?_))
   | exact ih0 _ _ _
   | exact ih1 _ _ _ _ _
   | exact ih2 _ _ _ _ _
   | exact ih3 _ _ _ _ _ _ _ _ _
   | exact impl_compareRelations.mono _ _ _ _ _
   | exact LeO.none _
   | refine LeO.ite ?_ ?_
   | refine LeO.bind ?_ (fun _ => ?_)
def impl_IsValidRecord.T6 : Bool × List (List Nat × List Nat) := (true, [([], []), ([0], [0]), ([1], [1]), ([2], [2]), ([3, 2], [3]), ([4], [4]), ([5, 4], [4, 5]), ([6, 4, 4], [4, 6]), ([7, 4], [4, 7]), ([4, 8], [4, 8]), ([9, 7], [9]), ([10], [10]), ([11, 10], [10, 11]), ([12, 10, 10], [10, 12]), ([13], [13]), ([14, 13], [13, 14]), ([13], [13]), ([16, 13], [13, 16]), ([13], [13]), ([18, 13], [13, 18]), ([17, 19, 13], [13, 17, 19]), ([20, 13], [13, 20]), ([21, 13], [13, 21]), ([15, 22, 13], [13, 15, 22]), ([13, 23, 10], [10, 13, 23]), ([10, 24], [10, 24])])
def impl_IsValidRecord.B6 : List Nat := [0, 1, 3, 7, 15, 31, 63, 127, 255, 511, 1023, 2047, 4095, 8191, 16383, 32767, 16383, 81919, 16383, 278527, 999423, 2047999, 4145151, 8388607, 16777215, 33554431]
theorem impl_IsValidRecord.tab6 : rtab .any (opsOf Try.f18 6) = impl_IsValidRecord.T6 := by kernel_rfl
theorem impl_IsValidRecord.bits6 : waitsOk impl_IsValidRecord.T6.2 impl_IsValidRecord.B6 = true := by kernel_rfl
def impl_IsValidRecord.T14 : Bool × List (List Nat × List Nat) := (true, [([], []), ([0], [0]), ([1], [1]), ([2], [2]), ([3, 2], [2, 3]), ([2], [2]), ([5, 2], [2, 5]), ([4, 6, 2], [2, 4, 6]), ([7, 2], [2, 7]), ([2], [2]), ([8, 9, 2, 2], [2, 8, 9]), ([10, 2], [2, 10]), ([2, 11], [2, 11])])
def impl_IsValidRecord.B14 : List Nat := [0, 1, 3, 7, 15, 7, 39, 127, 255, 7, 1023, 2047, 4095]
theorem impl_IsValidRecord.tab14 : rtab .any (opsOf Try.f18 14) = impl_IsValidRecord.T14 := by kernel_rfl
theorem impl_IsValidRecord.bits14 : waitsOk impl_IsValidRecord.T14.2 impl_IsValidRecord.B14 = true := by kernel_rfl
set_option maxHeartbeats 8000000 in
set_option maxRecDepth 100000 in
theorem impl_IsValidRecord.calls (k : Nat) (A0_0 : Option Addr) (c0_0 : Nat) (l0_0 : List (S59)) (A0_1 : Option Addr) (c0_1 : Nat) (l0_1 : List (S53)) (r : Bool) (w : World) (hr0_0 : Kd.C k59 w A0_0 l0_0.length l0_0) (hc0_0 : l0_0.length ≤ c0_0) (hr0_1 : Kd.C k53 w A0_1 l0_1.length l0_1) (hc0_1 : l0_1.length ≤ c0_1) (h : impl_IsValidRecord.f k l0_0 l0_1 = some r) :
  Calls Try.prog 18 #[.agg #[.slice A0_0 l0_0.length c0_0, .slice A0_1 l0_1.length c0_1]] w fun e w' => e = .returned (.bool r) ∧ Below w.heap.size w w' := by
 have hu31 := Try.underlying31
 have hu59 := Try.underlying59
 have hu53 := Try.underlying53
 have HR0_0 := Aside0.mk hr0_0
 have HC0_0 := Aside0.mk hc0_0
 clear hr0_0 hc0_0
 have HR0_1 := Aside0.mk hr0_1
 have HC0_1 := Aside0.mk hc0_1
 clear hr0_1 hc0_1
 have HB := Aside0.mk (Below.refl w.heap.size w)
 have H : (if (l0_0.length : Int) > 10 then (impl_IsValidRecord.j0 k true l0_0 l0_1) else (impl_IsValidRecord.j0 k (decide ((l0_1.length : Int) > 24)) l0_0 l0_1)) = some r := h
 clear h
 have HC2 := Aside0.mk H
 clear H
 go_enter Try.func18, Try.ntmps18
 go_upto_region 1 with (first | ((with_reducible refine gate_dst (N := 1) rfl ?_); (try (refine gate_guard (by rfl) ?_; dsimp only)); refine box_event ?hg (N := 1) ?hd (cs := #[.slice A0_0 l0_0.length c0_0, .slice A0_1 l0_1.length c0_1]) (t := 31) ?hr ?_; (case hd => rfl); (case hg => rfl); (case hr => first | (go_simp; done) | (go_simp; rfl)); intro gb164 hg w3 hbox hb; have n0_ := Aside0.mk (below_step (by repeat (first | (with_reducible first | exact HB.out | apply below_alloc | apply pw_below_drewN | apply below_drew1) | exact HB.out)) hb); have n1_ := Aside0.mk (hbox); have n2_ := Aside0.mk ((by rw [hg]; exact (below_size (by repeat (first | (with_reducible first | exact HB.out | apply below_alloc | apply pw_below_drewN | apply below_drew1) | exact HB.out))) : w.heap.size ≤ gb164)); have n3_ := Aside0.mk ((by rw [hg]; exact (below_size (by repeat (first | (with_reducible first | exact HB.out | apply below_alloc | apply pw_below_drewN | apply below_drew1) | exact HB.out))) : w.heap.size ≤ gb164)); clear HB; have HB := n0_; have BK164 := n1_; have GW164 := n2_; have GE164 := n3_; clear n0_ n1_ n2_ n3_; clear hb hbox hg))
 (try simp only [Act.put, List.setIfInBounds_toArray, List.set_cons_zero, List.set_cons_succ])
 go_cut [16] (fun v16 wc => ∃ (kq : Nat) (x16_1 : Bool), v16 = .bool x16_1 ∧ Aside0 (impl_IsValidRecord.j0 kq x16_1 l0_0 l0_1 = some r) ∧ Aside0 (kq ≤ k) ∧ Aside0 (wc.heap[gb164]? = some (.cells #[(.slice A0_0 l0_0.length c0_0), (.slice A0_1 l0_1.length c0_1)] 31 (0, 0))) ∧ Aside0 (Below w.heap.size w wc))
 case first =>
  have H := HC2.out
  clear HC2
  by_cases c4 : (l0_0.length : Int) > 10
  ·rw [if_pos c4] at H
   have c4b0 : decide (10 < (l0_0.length : Int)) = true := decide_eq_true c4
   have c4b1 : decide (10 < l0_0.length) = true := decide_eq_true (by omega)
   clear c4
   (first | rw [c4b0] | (simp only [i64_w, i32_w]; rw [c4b0]) | skip)
   have H' := Aside0.mk H
   clear H
   have hcz5_0 : w3.cell? ⟨gb164, 0, none⟩ = some (.slice A0_0 l0_0.length c0_0) := (blk_cell BK164.out 0).trans rfl
   have hcz5_1 : w3.cell? ⟨gb164, 1, none⟩ = some (.slice A0_1 l0_1.length c0_1) := (blk_cell BK164.out 1).trans rfl
   have hfz5_0 := blk_frozen BK164.out 0
   have hfz5_1 := blk_frozen BK164.out 1
   go_wp2
   go_meet
   case rel => exact ⟨_, (true), (by first | rfl | (simp; done) | (simp [*]; done)), H', ⟨by first | omega | exact Nat.le_refl _⟩, ⟨by (with_reducible repeat (first | refine blk_drewN ?_ _ | refine blk_drew ?_ | refine blk_alloc ?_ _)); exact BK164.out⟩, ⟨by repeat (first | (with_reducible first | exact HB.out | apply below_alloc | apply pw_below_drewN | apply below_drew1 | refine below_set ?_ GE164.out) | exact HB.out)⟩⟩
  ·rw [if_neg c4] at H
   have c4b0 : decide (10 < (l0_0.length : Int)) = false := decide_eq_false c4
   have c4b1 : decide (10 < l0_0.length) = false := decide_eq_false (by omega)
   clear c4
   (first | rw [c4b0] | (simp only [i64_w, i32_w]; rw [c4b0]) | skip)
   have H' := Aside0.mk H
   clear H
   have hcz6_0 : w3.cell? ⟨gb164, 0, none⟩ = some (.slice A0_0 l0_0.length c0_0) := (blk_cell BK164.out 0).trans rfl
   have hcz6_1 : w3.cell? ⟨gb164, 1, none⟩ = some (.slice A0_1 l0_1.length c0_1) := (blk_cell BK164.out 1).trans rfl
   have hfz6_0 := blk_frozen BK164.out 0
   have hfz6_1 := blk_frozen BK164.out 1
   go_wp2
   go_meet
   case rel => exact ⟨_, (decide ((l0_1.length : Int) > 24)), (by first | rfl | (simp; done) | (simp [*]; done)), H', ⟨by first | omega | exact Nat.le_refl _⟩, ⟨by (with_reducible repeat (first | refine blk_drewN ?_ _ | refine blk_drew ?_ | refine blk_alloc ?_ _)); exact BK164.out⟩, ⟨by repeat (first | (with_reducible first | exact HB.out | apply below_alloc | apply pw_below_drewN | apply below_drew1 | refine below_set ?_ GE164.out) | exact HB.out)⟩⟩
 case rest =>
  clear HC2
  try clear c1
  try clear p2
  try clear c4
  try clear c4b0
  try clear c4b1
  try clear hcz5_0
  try clear hcz5_1
  try clear hcz6_0
  try clear hcz6_1
  try clear hfz5_0
  try clear hfz5_1
  try clear hfz6_0
  try clear hfz6_1
  obtain ⟨kq, x16_1, rfl, HA, HJ1, BK164, HB⟩ := hcut
  cases kq with
  | zero => exact absurd HA.out (by simp [impl_IsValidRecord.j0])
  | succ kj1 =>
   have H := HA.out
   clear HA
   simp only [impl_IsValidRecord.j0] at H
   by_cases c7 : x16_1 = true
   ·subst c7
    have H1 : (some false) = some r := by rw [if_pos rfl] at H; exact H
    clear H
    have H := H1
    clear H1
    obtain rfl := Option.some.inj H
    go_wp2
    go_ret
    exact ⟨by first | rfl | (simp [errW_none, errW_some] <;> rfl) | (simp [*, errW_none, errW_some] <;> rfl), by repeat (first | (with_reducible first | exact HB.out | apply below_alloc | apply pw_below_drewN | apply below_drew1 | refine below_set ?_ GE164.out) | exact HB.out)⟩
   ·replace c7 := Bool.eq_false_iff.mpr c7
    subst c7
    have H1 : (impl_IsValidRecord.l0 kj1 l0_0 (l0_0.length : Int) 0 l0_0 l0_1) = some r := by rw [if_neg (show ¬ (false = true) by decide)] at H; exact H
    clear H
    have H := H1
    clear H1
    have H' := Aside0.mk H
    clear H
    have hcz8_0 : wc.cell? ⟨gb164, 0, none⟩ = some (.slice A0_0 l0_0.length c0_0) := (blk_cell BK164.out 0).trans rfl
    have hcz8_1 : wc.cell? ⟨gb164, 1, none⟩ = some (.slice A0_1 l0_1.length c0_1) := (blk_cell BK164.out 1).trans rfl
    have hfz8_0 := blk_frozen BK164.out 0
    have hfz8_1 := blk_frozen BK164.out 1
    go_wp2
    go_loopg [20] kj1 (fun kq v20 w' => ∃ (x20_2 : Int), v20 = .int .i64 x20_2 ∧ Aside0 (impl_IsValidRecord.l0 kq l0_0 (l0_0.length : Int) x20_2 l0_0 l0_1 = some r) ∧ Aside0 (kq ≤ kj1) ∧ Aside0 (w'.heap[gb164]? = some (.cells #[(.slice A0_0 l0_0.length c0_0), (.slice A0_1 l0_1.length c0_1)] 31 (0, 0))) ∧ Aside0 (Below w.heap.size w w'))
    case atStart => exact ⟨(0), (by first | rfl | (simp; done) | (simp [*]; done)), H', ⟨Nat.le_refl _⟩, ⟨by (with_reducible repeat (first | refine blk_drewN ?_ _ | refine blk_drew ?_ | refine blk_alloc ?_ _)); exact BK164.out⟩, ⟨by repeat (first | (with_reducible first | exact HB.out | apply below_alloc | apply pw_below_drewN | apply below_drew1 | refine below_set ?_ GE164.out) | exact HB.out)⟩⟩
    case round =>
     clear H'
     try clear c1
     try clear p2
     try clear c4
     try clear c4b0
     try clear c4b1
     try clear c7
     try clear hcz5_0
     try clear hcz5_1
     try clear hcz6_0
     try clear hcz6_1
     try clear hcz8_0
     try clear hcz8_1
     try clear hfz5_0
     try clear hfz5_1
     try clear hfz6_0
     try clear hfz6_1
     try clear hfz8_0
     try clear hfz8_1
     try clear p2
     obtain ⟨x20_2, rfl, HA, HK2, BK164, HB⟩ := hrel
     cases gk with
     | zero => exact absurd HA.out (by simp [impl_IsValidRecord.l0])
     | succ k2 =>
      have H := HA.out
      clear HA
      simp only [impl_IsValidRecord.l0] at H
      by_cases c9 : x20_2 < (l0_0.length : Int)
      ·rw [if_pos c9] at H
       have c9b0 : decide (x20_2 < (l0_0.length : Int)) = true := decide_eq_true c9
       clear c9
       by_cases c10 : 0 ≤ x20_2
       ·rw [if_pos c10] at H
        have c10b0 : decide (0 ≤ x20_2) = true := decide_eq_true c10
        clear c10
        by_cases c11 : x20_2 < (l0_0.length : Int)
        ·rw [if_pos c11] at H
         have c11b0 : decide (x20_2 < (l0_0.length : Int)) = true := decide_eq_true c11
         clear c11
         replace H := Option.bind_eq_some_iff.mp H
         obtain ⟨t167, A120, H⟩ := H
         replace H : (if t167 = true then ((impl_isKind.f ((rd_T59 l0_0 x20_2).f1)).bind fun t168 => (if t168 = true then (if x20_2 > 0 then (if 0 ≤ (wrap64 (x20_2 - 1)) then (if (wrap64 (x20_2 - 1)) < (l0_0.length : Int) then (if ((rd_T59 l0_0 x20_2).f0) ≤ ((rd_T59 l0_0 (wrap64 (x20_2 - 1))).f0) then (some false) else (impl_IsValidRecord.l0 k2 l0_0 (l0_0.length : Int) (wrap64 (x20_2 + 1)) l0_0 l0_1)) else (none)) else (none)) else (impl_IsValidRecord.l0 k2 l0_0 (l0_0.length : Int) (wrap64 (x20_2 + 1)) l0_0 l0_1)) else (some false))) else (some false)) = some r := H
         have A12 := Aside0.mk A120
         clear A120
         by_cases c13 : t167 = true
         ·subst c13
          have H1 : ((impl_isKind.f ((rd_T59 l0_0 x20_2).f1)).bind fun t168 => (if t168 = true then (if x20_2 > 0 then (if 0 ≤ (wrap64 (x20_2 - 1)) then (if (wrap64 (x20_2 - 1)) < (l0_0.length : Int) then (if ((rd_T59 l0_0 x20_2).f0) ≤ ((rd_T59 l0_0 (wrap64 (x20_2 - 1))).f0) then (some false) else (impl_IsValidRecord.l0 k2 l0_0 (l0_0.length : Int) (wrap64 (x20_2 + 1)) l0_0 l0_1)) else (none)) else (none)) else (impl_IsValidRecord.l0 k2 l0_0 (l0_0.length : Int) (wrap64 (x20_2 + 1)) l0_0 l0_1)) else (some false))) = some r := by rw [if_pos rfl] at H; exact H
          clear H
          have H := H1
          clear H1
          replace H := Option.bind_eq_some_iff.mp H
          obtain ⟨t168, A140, H⟩ := H
          replace H : (if t168 = true then (if x20_2 > 0 then (if 0 ≤ (wrap64 (x20_2 - 1)) then (if (wrap64 (x20_2 - 1)) < (l0_0.length : Int) then (if ((rd_T59 l0_0 x20_2).f0) ≤ ((rd_T59 l0_0 (wrap64 (x20_2 - 1))).f0) then (some false) else (impl_IsValidRecord.l0 k2 l0_0 (l0_0.length : Int) (wrap64 (x20_2 + 1)) l0_0 l0_1)) else (none)) else (none)) else (impl_IsValidRecord.l0 k2 l0_0 (l0_0.length : Int) (wrap64 (x20_2 + 1)) l0_0 l0_1)) else (some false)) = some r := H
          have A14 := Aside0.mk A140
          clear A140
          by_cases c15 : t168 = true
          ·subst c15
           have H1 : (if x20_2 > 0 then (if 0 ≤ (wrap64 (x20_2 - 1)) then (if (wrap64 (x20_2 - 1)) < (l0_0.length : Int) then (if ((rd_T59 l0_0 x20_2).f0) ≤ ((rd_T59 l0_0 (wrap64 (x20_2 - 1))).f0) then (some false) else (impl_IsValidRecord.l0 k2 l0_0 (l0_0.length : Int) (wrap64 (x20_2 + 1)) l0_0 l0_1)) else (none)) else (none)) else (impl_IsValidRecord.l0 k2 l0_0 (l0_0.length : Int) (wrap64 (x20_2 + 1)) l0_0 l0_1)) = some r := by rw [if_pos rfl] at H; exact H
           clear H
           have H := H1
           clear H1
           by_cases c16 : x20_2 > 0
           ·rw [if_pos c16] at H
            have c16b0 : decide (0 < x20_2) = true := decide_eq_true c16
            clear c16
            obtain ⟨ji17, hji17⟩ : ∃ j_ : Int, (wrap64 (x20_2 - 1)) = j_ := ⟨_, rfl⟩
            replace H : (if 0 ≤ (ji17) then (if (ji17) < (l0_0.length : Int) then (if ((rd_T59 l0_0 x20_2).f0) ≤ ((rd_T59 l0_0 (ji17)).f0) then (some false) else (impl_IsValidRecord.l0 k2 l0_0 (l0_0.length : Int) (wrap64 (x20_2 + 1)) l0_0 l0_1)) else (none)) else (none)) = some r := by first | (rw [hji17] at H; exact H) | (simp only [hji17] at H ⊢; exact H)
            (try rw [hji17] at A12)
            (try rw [hji17] at A14)
            have hji17w : (IntKind.i64.wrap (x20_2 - 1)) = ji17 := (i64_w _).trans hji17
            by_cases c18 : 0 ≤ (ji17)
            ·rw [if_pos c18] at H
             have c18b0 : decide (0 ≤ (ji17)) = true := decide_eq_true c18
             clear c18
             by_cases c19 : (ji17) < (l0_0.length : Int)
             ·rw [if_pos c19] at H
              have c19b0 : decide ((ji17) < (l0_0.length : Int)) = true := decide_eq_true c19
              clear c19
              by_cases c20 : ((rd_T59 l0_0 x20_2).f0) ≤ ((rd_T59 l0_0 (ji17)).f0)
              ·rw [if_pos c20] at H
               have c20b0 : decide (((rd_T59 l0_0 x20_2).f0) ≤ ((rd_T59 l0_0 (ji17)).f0)) = true := decide_eq_true c20
               clear c20
               obtain rfl := Option.some.inj H
               have p165 : 0 ≤ (x20_2 : Int) := of_decide_eq_true (by first | (with_reducible assumption) | assumption)
               have q165 : x20_2 < (l0_0.length : Int) := of_decide_eq_true (by first | (with_reducible assumption) | assumption)
               obtain ⟨ad165, e165, hx165_0, hx165_1⟩ := at_T59 HR0_0.out x20_2 p165 q165
               cases e165
               replace hx165_0 := (HB.out.cell (World.block_lt_of_cell? w _ hx165_0)).trans hx165_0
               replace hx165_1 := (HB.out.cell (World.block_lt_of_cell? w _ hx165_1)).trans hx165_1
               replace p165 := eq_true p165
               replace q165 := eq_true q165
               try go_wp2_with (first | ((with_reducible refine gate_dst (N := 4) rfl ?_); (try (refine gate_guard (by rfl) ?_; dsimp only)); refine box_event ?hg (N := 4) ?hd (cs := #[.int .i64 0, .int .i64 0]) (t := 59) ?hr ?_; (case hd => rfl); (case hg => rfl); (case hr => first | (go_simp; done) | (go_simp; rfl)); intro gb166 hg w21 hbox hb; have n0_ := Aside0.mk (blk_below (g := gb164) (o := .cells #[.slice (some ad165) l0_0.length c0_0, .slice A0_1 l0_1.length c0_1] 31 (0, 0)) (by (with_reducible repeat (first | refine blk_drewN ?_ _ | refine blk_drew ?_ | refine blk_alloc ?_ _)); exact BK164.out) hb); have n1_ := Aside0.mk (below_step (by repeat (first | (with_reducible first | exact HB.out | apply below_alloc | apply pw_below_drewN | apply below_drew1 | refine below_set ?_ GE164.out) | exact HB.out)) hb); have n2_ := Aside0.mk (hbox); have n3_ := Aside0.mk ((by rw [hg]; exact (below_size (by repeat (first | (with_reducible first | exact HB.out | apply below_alloc | apply pw_below_drewN | apply below_drew1 | refine below_set ?_ GE164.out) | exact HB.out))) : w.heap.size ≤ gb166)); have n4_ := Aside0.mk ((by rw [hg]; exact (below_size (by repeat (first | (with_reducible first | exact HB.out | apply below_alloc | apply pw_below_drewN | apply below_drew1 | refine below_set ?_ GE164.out) | exact HB.out))) : w.heap.size ≤ gb166)); have n5_ := Aside0.mk ((by rw [hg]; exact Nat.ne_of_lt (blk_lt (g := gb164) (o := .cells #[.slice (some ad165) l0_0.length c0_0, .slice A0_1 l0_1.length c0_1] 31 (0, 0)) (by (with_reducible repeat (first | refine blk_drewN ?_ _ | refine blk_drew ?_ | refine blk_alloc ?_ _)); exact BK164.out)) : gb164 ≠ gb166)); have n6_ := Aside0.mk ((by rw [hg]; exact Nat.ne_of_gt (blk_lt (g := gb164) (o := .cells #[.slice (some ad165) l0_0.length c0_0, .slice A0_1 l0_1.length c0_1] 31 (0, 0)) (by (with_reducible repeat (first | refine blk_drewN ?_ _ | refine blk_drew ?_ | refine blk_alloc ?_ _)); exact BK164.out)) : gb166 ≠ gb164)); clear BK164; clear HB; have BK164 := n0_; have HB := n1_; have BK166 := n2_; have GW166 := n3_; have GE166 := n4_; have NB164_166 := n5_; have NB166_164 := n6_; clear n0_ n1_ n2_ n3_ n4_ n5_ n6_; clear hb hbox hg; have hnb22 := NB166_164.out; have hnc22 := NB164_166.out; have hcz23_0 : w21.cell? ⟨gb166, 0, none⟩ = some (.int .i64 0) := (blk_cell BK166.out 0).trans rfl; have hcz23_1 : w21.cell? ⟨gb166, 1, none⟩ = some (.int .i64 0) := (blk_cell BK166.out 1).trans rfl; have hfz23_0 := blk_frozen BK166.out 0; have hfz23_1 := blk_frozen BK166.out 1))
               have n0_ : Aside0 (((w21.setCell ⟨gb166, 0, none⟩ (.int .i64 ((rd_T59 l0_0 x20_2).f0))).setCell ⟨gb166, 1, none⟩ (.int .i64 ((rd_T59 l0_0 x20_2).f1))).heap[gb164]? = some (.cells #[.slice (some ad165) l0_0.length c0_0, .slice A0_1 l0_1.length c0_1] 31 (0, 0))) := ⟨by (with_reducible repeat (first | refine blk_drewN ?_ _ | refine blk_drew ?_ | refine blk_alloc ?_ _)); refine blk_far ?_ NB164_166.out _; (with_reducible repeat (first | refine blk_drewN ?_ _ | refine blk_drew ?_ | refine blk_alloc ?_ _)); refine blk_far ?_ NB164_166.out _; (with_reducible repeat (first | refine blk_drewN ?_ _ | refine blk_drew ?_ | refine blk_alloc ?_ _)); exact BK164.out⟩
               have n1_ : Aside0 (((w21.setCell ⟨gb166, 0, none⟩ (.int .i64 ((rd_T59 l0_0 x20_2).f0))).setCell ⟨gb166, 1, none⟩ (.int .i64 ((rd_T59 l0_0 x20_2).f1))).heap[gb166]? = some (.cells #[.int .i64 ((rd_T59 l0_0 x20_2).f0), .int .i64 ((rd_T59 l0_0 x20_2).f1)] 59 (0, 0))) := ⟨by (with_reducible repeat (first | refine blk_drewN ?_ _ | refine blk_drew ?_ | refine blk_alloc ?_ _)); refine blk_put (cs := #[.int .i64 ((rd_T59 l0_0 x20_2).f0), .int .i64 0]) ?_ 1 _ rfl; (with_reducible repeat (first | refine blk_drewN ?_ _ | refine blk_drew ?_ | refine blk_alloc ?_ _)); refine blk_put (cs := #[.int .i64 0, .int .i64 0]) ?_ 0 _ rfl; (with_reducible repeat (first | refine blk_drewN ?_ _ | refine blk_drew ?_ | refine blk_alloc ?_ _)); exact BK166.out⟩
               have n2_ : Aside0 (Below w.heap.size w ((w21.setCell ⟨gb166, 0, none⟩ (.int .i64 ((rd_T59 l0_0 x20_2).f0))).setCell ⟨gb166, 1, none⟩ (.int .i64 ((rd_T59 l0_0 x20_2).f1)))) := ⟨by repeat (first | (with_reducible first | exact HB.out | apply below_alloc | apply pw_below_drewN | apply below_drew1 | refine below_set ?_ GE164.out | refine below_set ?_ GE166.out) | exact HB.out)⟩
               (try clear BK164)
               (try clear BK166)
               (try clear HB)
               generalize ((w21.setCell ⟨gb166, 0, none⟩ (.int .i64 ((rd_T59 l0_0 x20_2).f0))).setCell ⟨gb166, 1, none⟩ (.int .i64 ((rd_T59 l0_0 x20_2).f1))) = w24 at n0_ n1_ n2_ ⊢
               have BK164 := n0_
               have BK166 := n1_
               have HB := n2_
               clear n0_ n1_ n2_
               have n0_ := Aside0.mk (blk_drew BK164.out)
               have n1_ := Aside0.mk (blk_drew BK166.out)
               have n2_ := Aside0.mk (below_drew1 HB.out)
               clear BK164
               clear BK166
               clear HB
               have BK164 := n0_
               have BK166 := n1_
               have HB := n2_
               clear n0_ n1_ n2_
               have p169 : 0 ≤ ((ji17) : Int) := of_decide_eq_true (by first | (with_reducible assumption) | assumption)
               have q169 : (ji17) < (l0_0.length : Int) := of_decide_eq_true (by first | (with_reducible assumption) | assumption)
               obtain ⟨ad169, e169, hx169_0, hx169_1⟩ := at_T59 HR0_0.out (ji17) p169 q169
               have hw169_1 := hx169_1
               have hw169_0 := hx169_0
               obtain rfl : ad165 = ad169 := (by injection e169)
               replace hx169_0 := (HB.out.cell (World.block_lt_of_cell? w _ hx169_0)).trans hx169_0
               replace hx169_1 := (HB.out.cell (World.block_lt_of_cell? w _ hx169_1)).trans hx169_1
               replace p169 := eq_true p169
               replace q169 := eq_true q169
               refine start_ (n := 26) (S := fun w' => w'.cell? ⟨gb166, 0, none⟩ = some (.int .i64 ((rd_T59 l0_0 x20_2).f0)) ∧ w'.cell? ⟨gb166, 1, none⟩ = some (.int .i64 ((rd_T59 l0_0 x20_2).f1)) ∧ w'.cell? ⟨gb164, 0, none⟩ = some (.slice (some ad165) l0_0.length c0_0) ∧ w'.cell? ⟨gb164, 1, none⟩ = some (.slice A0_1 l0_1.length c0_1) ∧ w'.cell? (ad165.add (((ji17)).toNat * 2)) = some (.int .i64 ((rd_T59 l0_0 (ji17)).f0)) ∧ w'.cell? ⟨(ad165.add (((ji17)).toNat * 2)).block, (ad165.add (((ji17)).toNat * 2)).off + 1, none⟩ = some (.int .i64 ((rd_T59 l0_0 (ji17)).f1))) (ds := []) #[false, false, false, false, false, false, false, false, false, false, false, false, false, false, false, false, false, false, false, false, false, false, false, false, false, false] (by kernel_rfl) rfl rfl ⟨(blk_cell BK166.out 0).trans rfl, (blk_cell BK166.out 1).trans rfl, (blk_cell BK164.out 0).trans rfl, (blk_cell BK164.out 1).trans rfl, ((HB.out.cell (World.block_lt_of_cell? w _ hw169_0)).trans hw169_0), ((HB.out.cell (World.block_lt_of_cell? w _ hw169_1)).trans hw169_1)⟩ (fun hHeld => ?_); refine with_tabW impl_IsValidRecord.tab6 impl_IsValidRecord.bits6 (fun HT_ HW_ => ?_)
               generalize w24.drew = w25 at BK164 BK166 HB hx169_0 hx169_1 hHeld ⊢
               refine pA_ 0 (some 25) (bl 1 26) HT_.out (h := ?_)
               refine tA_ 1 (some 26) (bl 2 26) HT_.out HW_.out hHeld (h := ?_)
               refine one_ (i := 2) (N := some 27) (bl 3 26) rfl rfl (one_of HT_.out (by kernel_rfl)) (by decide) (fun K hK => ?_)
               refine goes_ Try.func57 (by kernel_rfl) rfl #[.int .i64 ((rd_T59 l0_0 x20_2).f0)] (by rfl) rfl rfl (by (try simp only [List.map_toArray, List.map_cons, List.map_nil]); first | done | rfl | (simp only [List.length_drop, List.length_take]; rfl)) ?_
               with_reducible refine (impl_isNumber.calls ((rd_T59 l0_0 x20_2).f0) true _ A12.out).mono ?_
               rintro e w' ⟨rfl, ⟨nd, rfl⟩⟩
               refine ⟨_, rfl, ?_⟩
               refine hK.out _ _ ⟨(blk_cell BK166.out 0).trans rfl, (blk_cell BK166.out 1).trans rfl, (blk_cell BK164.out 0).trans rfl, (blk_cell BK164.out 1).trans rfl, ((HB.out.cell (World.block_lt_of_cell? w _ hw169_0)).trans hw169_0), ((HB.out.cell (World.block_lt_of_cell? w _ hw169_1)).trans hw169_1)⟩ (fun hHeld => ?_)
               clear hK K
               refine norm_ (a' := ?_) ?_ ?_
               rotate_left
               ·show Act.put _ (some 27) _ = _
                simp only [Act.put, List.setIfInBounds_toArray, List.set_cons_zero, List.set_cons_succ, i64_w, i32_w]
                rfl
               refine pA_ 3 (some 28) (bl 4 26) HT_.out (h := ?_)
               refine pA_ 4 (some 29) (bl 5 26) HT_.out (h := ?_)
               refine pA_ 5 (some 30) (bl 6 26) HT_.out (h := ?_)
               refine tA_ 6 (some 31) (bl 7 26) HT_.out HW_.out hHeld (h := ?_)
               refine one_ (i := 7) (N := some 32) (bl 8 26) rfl rfl (one_of HT_.out (by kernel_rfl)) (by decide) (fun K hK => ?_)
               refine goes_ Try.func58 (by kernel_rfl) rfl #[.int .i64 ((rd_T59 l0_0 x20_2).f1)] (by rfl) rfl rfl (by (try simp only [List.map_toArray, List.map_cons, List.map_nil]); first | done | rfl | (simp only [List.length_drop, List.length_take]; rfl)) ?_
               with_reducible refine (impl_isKind.calls ((rd_T59 l0_0 x20_2).f1) true _ A14.out).mono ?_
               rintro e w' ⟨rfl, ⟨nd, rfl⟩⟩
               refine ⟨_, rfl, ?_⟩
               refine hK.out _ _ ⟨(blk_cell BK166.out 0).trans rfl, (blk_cell BK166.out 1).trans rfl, (blk_cell BK164.out 0).trans rfl, (blk_cell BK164.out 1).trans rfl, ((HB.out.cell (World.block_lt_of_cell? w _ hw169_0)).trans hw169_0), ((HB.out.cell (World.block_lt_of_cell? w _ hw169_1)).trans hw169_1)⟩ (fun hHeld => ?_)
               clear hK K
               refine norm_ (a' := ?_) ?_ ?_
               rotate_left
               ·show Act.put _ (some 32) _ = _
                simp only [Act.put, List.setIfInBounds_toArray, List.set_cons_zero, List.set_cons_succ, i64_w, i32_w]
                rfl
               refine pA_ 8 (some 33) (bl 9 26) HT_.out (h := ?_)
               refine pA_ 9 (some 34) (bl 10 26) HT_.out (h := ?_)
               refine pA_ 10 (some 35) (bl 11 26) HT_.out (h := ?_)
               refine pA_ 11 (some 36) (bl 12 26) HT_.out (h := ?_)
               refine pA_ 12 (some 37) (bl 13 26) HT_.out (h := ?_)
               refine pA_ 13 (some 38) (bl 14 26) HT_.out (h := ?_)
               refine pA_ 14 (some 39) (bl 15 26) HT_.out (h := ?_)
               refine pA_ 16 (some 41) #[true, true, true, true, true, true, true, true, true, true, true, true, true, true, true, false, true, false, false, false, false, false, false, false, false, false] HT_.out (h := ?_)
               refine pA_ 18 (some 43) #[true, true, true, true, true, true, true, true, true, true, true, true, true, true, true, false, true, false, true, false, false, false, false, false, false, false] HT_.out (h := ?_)
               refine pA_ 19 (some 44) #[true, true, true, true, true, true, true, true, true, true, true, true, true, true, true, false, true, false, true, true, false, false, false, false, false, false] HT_.out (h := ?_)
               refine tA_ 15 (some 40) #[true, true, true, true, true, true, true, true, true, true, true, true, true, true, true, true, true, false, true, true, false, false, false, false, false, false] HT_.out HW_.out hHeld (h := ?_)
               refine tA_ 17 (some 42) (bl 20 26) HT_.out HW_.out hHeld (h := ?_)
               refine pA_ 20 (some 45) (bl 21 26) HT_.out (h := ?_)
               refine pA_ 21 (some 46) (bl 22 26) HT_.out (h := ?_)
               refine tA_ 22 (some 47) (bl 23 26) HT_.out HW_.out hHeld (h := ?_)
               refine pA_ 23 (some 48) (bl 24 26) HT_.out (h := ?_)
               refine pA_ 24 (some 49) (bl 25 26) HT_.out (h := ?_)
               refine pA_ 25 (some 50) (bl 26 26) HT_.out (h := ?_)
               refine done_ (done_of HT_.out (by kernel_rfl)) ?_
               try go_wp2
               go_ret
               exact ⟨by first | rfl | (simp [errW_none, errW_some] <;> rfl) | (simp only [← hji17]; first | rfl | (simp [errW_none, errW_some] <;> rfl)) | (simp [*, errW_none, errW_some] <;> rfl), by repeat (first | (with_reducible first | exact HB.out | apply below_alloc | apply pw_below_drewN | apply below_drew1 | refine below_set ?_ GE164.out | refine below_set ?_ GE166.out) | exact HB.out)⟩
              ·rw [if_neg c20] at H
               have c20b0 : decide (((rd_T59 l0_0 x20_2).f0) ≤ ((rd_T59 l0_0 (ji17)).f0)) = false := decide_eq_false c20
               clear c20
               have H' := Aside0.mk H
               clear H
               have p165 : 0 ≤ (x20_2 : Int) := of_decide_eq_true (by first | (with_reducible assumption) | assumption)
               have q165 : x20_2 < (l0_0.length : Int) := of_decide_eq_true (by first | (with_reducible assumption) | assumption)
               obtain ⟨ad165, e165, hx165_0, hx165_1⟩ := at_T59 HR0_0.out x20_2 p165 q165
               cases e165
               replace hx165_0 := (HB.out.cell (World.block_lt_of_cell? w _ hx165_0)).trans hx165_0
               replace hx165_1 := (HB.out.cell (World.block_lt_of_cell? w _ hx165_1)).trans hx165_1
               replace p165 := eq_true p165
               replace q165 := eq_true q165
               try go_wp2_with (first | ((with_reducible refine gate_dst (N := 4) rfl ?_); (try (refine gate_guard (by rfl) ?_; dsimp only)); refine box_event ?hg (N := 4) ?hd (cs := #[.int .i64 0, .int .i64 0]) (t := 59) ?hr ?_; (case hd => rfl); (case hg => rfl); (case hr => first | (go_simp; done) | (go_simp; rfl)); intro gb166 hg w26 hbox hb; have n0_ := Aside0.mk (blk_below (g := gb164) (o := .cells #[.slice (some ad165) l0_0.length c0_0, .slice A0_1 l0_1.length c0_1] 31 (0, 0)) (by (with_reducible repeat (first | refine blk_drewN ?_ _ | refine blk_drew ?_ | refine blk_alloc ?_ _)); exact BK164.out) hb); have n1_ := Aside0.mk (below_step (by repeat (first | (with_reducible first | exact HB.out | apply below_alloc | apply pw_below_drewN | apply below_drew1 | refine below_set ?_ GE164.out) | exact HB.out)) hb); have n2_ := Aside0.mk (hbox); have n3_ := Aside0.mk ((by rw [hg]; exact (below_size (by repeat (first | (with_reducible first | exact HB.out | apply below_alloc | apply pw_below_drewN | apply below_drew1 | refine below_set ?_ GE164.out) | exact HB.out))) : w.heap.size ≤ gb166)); have n4_ := Aside0.mk ((by rw [hg]; exact (below_size (by repeat (first | (with_reducible first | exact HB.out | apply below_alloc | apply pw_below_drewN | apply below_drew1 | refine below_set ?_ GE164.out) | exact HB.out))) : w.heap.size ≤ gb166)); have n5_ := Aside0.mk ((by rw [hg]; exact Nat.ne_of_lt (blk_lt (g := gb164) (o := .cells #[.slice (some ad165) l0_0.length c0_0, .slice A0_1 l0_1.length c0_1] 31 (0, 0)) (by (with_reducible repeat (first | refine blk_drewN ?_ _ | refine blk_drew ?_ | refine blk_alloc ?_ _)); exact BK164.out)) : gb164 ≠ gb166)); have n6_ := Aside0.mk ((by rw [hg]; exact Nat.ne_of_gt (blk_lt (g := gb164) (o := .cells #[.slice (some ad165) l0_0.length c0_0, .slice A0_1 l0_1.length c0_1] 31 (0, 0)) (by (with_reducible repeat (first | refine blk_drewN ?_ _ | refine blk_drew ?_ | refine blk_alloc ?_ _)); exact BK164.out)) : gb166 ≠ gb164)); clear BK164; clear HB; have BK164 := n0_; have HB := n1_; have BK166 := n2_; have GW166 := n3_; have GE166 := n4_; have NB164_166 := n5_; have NB166_164 := n6_; clear n0_ n1_ n2_ n3_ n4_ n5_ n6_; clear hb hbox hg; have hnb27 := NB166_164.out; have hnc27 := NB164_166.out; have hcz28_0 : w26.cell? ⟨gb166, 0, none⟩ = some (.int .i64 0) := (blk_cell BK166.out 0).trans rfl; have hcz28_1 : w26.cell? ⟨gb166, 1, none⟩ = some (.int .i64 0) := (blk_cell BK166.out 1).trans rfl; have hfz28_0 := blk_frozen BK166.out 0; have hfz28_1 := blk_frozen BK166.out 1))
               have n0_ : Aside0 (((w26.setCell ⟨gb166, 0, none⟩ (.int .i64 ((rd_T59 l0_0 x20_2).f0))).setCell ⟨gb166, 1, none⟩ (.int .i64 ((rd_T59 l0_0 x20_2).f1))).heap[gb164]? = some (.cells #[.slice (some ad165) l0_0.length c0_0, .slice A0_1 l0_1.length c0_1] 31 (0, 0))) := ⟨by (with_reducible repeat (first | refine blk_drewN ?_ _ | refine blk_drew ?_ | refine blk_alloc ?_ _)); refine blk_far ?_ NB164_166.out _; (with_reducible repeat (first | refine blk_drewN ?_ _ | refine blk_drew ?_ | refine blk_alloc ?_ _)); refine blk_far ?_ NB164_166.out _; (with_reducible repeat (first | refine blk_drewN ?_ _ | refine blk_drew ?_ | refine blk_alloc ?_ _)); exact BK164.out⟩
               have n1_ : Aside0 (((w26.setCell ⟨gb166, 0, none⟩ (.int .i64 ((rd_T59 l0_0 x20_2).f0))).setCell ⟨gb166, 1, none⟩ (.int .i64 ((rd_T59 l0_0 x20_2).f1))).heap[gb166]? = some (.cells #[.int .i64 ((rd_T59 l0_0 x20_2).f0), .int .i64 ((rd_T59 l0_0 x20_2).f1)] 59 (0, 0))) := ⟨by (with_reducible repeat (first | refine blk_drewN ?_ _ | refine blk_drew ?_ | refine blk_alloc ?_ _)); refine blk_put (cs := #[.int .i64 ((rd_T59 l0_0 x20_2).f0), .int .i64 0]) ?_ 1 _ rfl; (with_reducible repeat (first | refine blk_drewN ?_ _ | refine blk_drew ?_ | refine blk_alloc ?_ _)); refine blk_put (cs := #[.int .i64 0, .int .i64 0]) ?_ 0 _ rfl; (with_reducible repeat (first | refine blk_drewN ?_ _ | refine blk_drew ?_ | refine blk_alloc ?_ _)); exact BK166.out⟩
               have n2_ : Aside0 (Below w.heap.size w ((w26.setCell ⟨gb166, 0, none⟩ (.int .i64 ((rd_T59 l0_0 x20_2).f0))).setCell ⟨gb166, 1, none⟩ (.int .i64 ((rd_T59 l0_0 x20_2).f1)))) := ⟨by repeat (first | (with_reducible first | exact HB.out | apply below_alloc | apply pw_below_drewN | apply below_drew1 | refine below_set ?_ GE164.out | refine below_set ?_ GE166.out) | exact HB.out)⟩
               (try clear BK164)
               (try clear BK166)
               (try clear HB)
               generalize ((w26.setCell ⟨gb166, 0, none⟩ (.int .i64 ((rd_T59 l0_0 x20_2).f0))).setCell ⟨gb166, 1, none⟩ (.int .i64 ((rd_T59 l0_0 x20_2).f1))) = w29 at n0_ n1_ n2_ ⊢
               have BK164 := n0_
               have BK166 := n1_
               have HB := n2_
               clear n0_ n1_ n2_
               have n0_ := Aside0.mk (blk_drew BK164.out)
               have n1_ := Aside0.mk (blk_drew BK166.out)
               have n2_ := Aside0.mk (below_drew1 HB.out)
               clear BK164
               clear BK166
               clear HB
               have BK164 := n0_
               have BK166 := n1_
               have HB := n2_
               clear n0_ n1_ n2_
               have p169 : 0 ≤ ((ji17) : Int) := of_decide_eq_true (by first | (with_reducible assumption) | assumption)
               have q169 : (ji17) < (l0_0.length : Int) := of_decide_eq_true (by first | (with_reducible assumption) | assumption)
               obtain ⟨ad169, e169, hx169_0, hx169_1⟩ := at_T59 HR0_0.out (ji17) p169 q169
               have hw169_1 := hx169_1
               have hw169_0 := hx169_0
               obtain rfl : ad165 = ad169 := (by injection e169)
               replace hx169_0 := (HB.out.cell (World.block_lt_of_cell? w _ hx169_0)).trans hx169_0
               replace hx169_1 := (HB.out.cell (World.block_lt_of_cell? w _ hx169_1)).trans hx169_1
               replace p169 := eq_true p169
               replace q169 := eq_true q169
               refine start_ (n := 26) (S := fun w' => w'.cell? ⟨gb166, 0, none⟩ = some (.int .i64 ((rd_T59 l0_0 x20_2).f0)) ∧ w'.cell? ⟨gb166, 1, none⟩ = some (.int .i64 ((rd_T59 l0_0 x20_2).f1)) ∧ w'.cell? ⟨gb164, 0, none⟩ = some (.slice (some ad165) l0_0.length c0_0) ∧ w'.cell? ⟨gb164, 1, none⟩ = some (.slice A0_1 l0_1.length c0_1) ∧ w'.cell? (ad165.add (((ji17)).toNat * 2)) = some (.int .i64 ((rd_T59 l0_0 (ji17)).f0)) ∧ w'.cell? ⟨(ad165.add (((ji17)).toNat * 2)).block, (ad165.add (((ji17)).toNat * 2)).off + 1, none⟩ = some (.int .i64 ((rd_T59 l0_0 (ji17)).f1))) (ds := []) #[false, false, false, false, false, false, false, false, false, false, false, false, false, false, false, false, false, false, false, false, false, false, false, false, false, false] (by kernel_rfl) rfl rfl ⟨(blk_cell BK166.out 0).trans rfl, (blk_cell BK166.out 1).trans rfl, (blk_cell BK164.out 0).trans rfl, (blk_cell BK164.out 1).trans rfl, ((HB.out.cell (World.block_lt_of_cell? w _ hw169_0)).trans hw169_0), ((HB.out.cell (World.block_lt_of_cell? w _ hw169_1)).trans hw169_1)⟩ (fun hHeld => ?_); refine with_tabW impl_IsValidRecord.tab6 impl_IsValidRecord.bits6 (fun HT_ HW_ => ?_)
               generalize w29.drew = w30 at BK164 BK166 HB hx169_0 hx169_1 hHeld ⊢
               refine pA_ 0 (some 25) (bl 1 26) HT_.out (h := ?_)
               refine tA_ 1 (some 26) (bl 2 26) HT_.out HW_.out hHeld (h := ?_)
               refine one_ (i := 2) (N := some 27) (bl 3 26) rfl rfl (one_of HT_.out (by kernel_rfl)) (by decide) (fun K hK => ?_)
               refine goes_ Try.func57 (by kernel_rfl) rfl #[.int .i64 ((rd_T59 l0_0 x20_2).f0)] (by rfl) rfl rfl (by (try simp only [List.map_toArray, List.map_cons, List.map_nil]); first | done | rfl | (simp only [List.length_drop, List.length_take]; rfl)) ?_
               with_reducible refine (impl_isNumber.calls ((rd_T59 l0_0 x20_2).f0) true _ A12.out).mono ?_
               rintro e w' ⟨rfl, ⟨nd, rfl⟩⟩
               refine ⟨_, rfl, ?_⟩
               refine hK.out _ _ ⟨(blk_cell BK166.out 0).trans rfl, (blk_cell BK166.out 1).trans rfl, (blk_cell BK164.out 0).trans rfl, (blk_cell BK164.out 1).trans rfl, ((HB.out.cell (World.block_lt_of_cell? w _ hw169_0)).trans hw169_0), ((HB.out.cell (World.block_lt_of_cell? w _ hw169_1)).trans hw169_1)⟩ (fun hHeld => ?_)
               clear hK K
               refine norm_ (a' := ?_) ?_ ?_
               rotate_left
               ·show Act.put _ (some 27) _ = _
                simp only [Act.put, List.setIfInBounds_toArray, List.set_cons_zero, List.set_cons_succ, i64_w, i32_w]
                rfl
               refine pA_ 3 (some 28) (bl 4 26) HT_.out (h := ?_)
               refine pA_ 4 (some 29) (bl 5 26) HT_.out (h := ?_)
               refine pA_ 5 (some 30) (bl 6 26) HT_.out (h := ?_)
               refine tA_ 6 (some 31) (bl 7 26) HT_.out HW_.out hHeld (h := ?_)
               refine one_ (i := 7) (N := some 32) (bl 8 26) rfl rfl (one_of HT_.out (by kernel_rfl)) (by decide) (fun K hK => ?_)
               refine goes_ Try.func58 (by kernel_rfl) rfl #[.int .i64 ((rd_T59 l0_0 x20_2).f1)] (by rfl) rfl rfl (by (try simp only [List.map_toArray, List.map_cons, List.map_nil]); first | done | rfl | (simp only [List.length_drop, List.length_take]; rfl)) ?_
               with_reducible refine (impl_isKind.calls ((rd_T59 l0_0 x20_2).f1) true _ A14.out).mono ?_
               rintro e w' ⟨rfl, ⟨nd, rfl⟩⟩
               refine ⟨_, rfl, ?_⟩
               refine hK.out _ _ ⟨(blk_cell BK166.out 0).trans rfl, (blk_cell BK166.out 1).trans rfl, (blk_cell BK164.out 0).trans rfl, (blk_cell BK164.out 1).trans rfl, ((HB.out.cell (World.block_lt_of_cell? w _ hw169_0)).trans hw169_0), ((HB.out.cell (World.block_lt_of_cell? w _ hw169_1)).trans hw169_1)⟩ (fun hHeld => ?_)
               clear hK K
               refine norm_ (a' := ?_) ?_ ?_
               rotate_left
               ·show Act.put _ (some 32) _ = _
                simp only [Act.put, List.setIfInBounds_toArray, List.set_cons_zero, List.set_cons_succ, i64_w, i32_w]
                rfl
               refine pA_ 8 (some 33) (bl 9 26) HT_.out (h := ?_)
               refine pA_ 9 (some 34) (bl 10 26) HT_.out (h := ?_)
               refine pA_ 10 (some 35) (bl 11 26) HT_.out (h := ?_)
               refine pA_ 11 (some 36) (bl 12 26) HT_.out (h := ?_)
               refine pA_ 12 (some 37) (bl 13 26) HT_.out (h := ?_)
               refine pA_ 13 (some 38) (bl 14 26) HT_.out (h := ?_)
               refine pA_ 14 (some 39) (bl 15 26) HT_.out (h := ?_)
               refine pA_ 16 (some 41) #[true, true, true, true, true, true, true, true, true, true, true, true, true, true, true, false, true, false, false, false, false, false, false, false, false, false] HT_.out (h := ?_)
               refine pA_ 18 (some 43) #[true, true, true, true, true, true, true, true, true, true, true, true, true, true, true, false, true, false, true, false, false, false, false, false, false, false] HT_.out (h := ?_)
               refine pA_ 19 (some 44) #[true, true, true, true, true, true, true, true, true, true, true, true, true, true, true, false, true, false, true, true, false, false, false, false, false, false] HT_.out (h := ?_)
               refine tA_ 15 (some 40) #[true, true, true, true, true, true, true, true, true, true, true, true, true, true, true, true, true, false, true, true, false, false, false, false, false, false] HT_.out HW_.out hHeld (h := ?_)
               refine tA_ 17 (some 42) (bl 20 26) HT_.out HW_.out hHeld (h := ?_)
               refine pA_ 20 (some 45) (bl 21 26) HT_.out (h := ?_)
               refine pA_ 21 (some 46) (bl 22 26) HT_.out (h := ?_)
               refine tA_ 22 (some 47) (bl 23 26) HT_.out HW_.out hHeld (h := ?_)
               refine pA_ 23 (some 48) (bl 24 26) HT_.out (h := ?_)
               refine pA_ 24 (some 49) (bl 25 26) HT_.out (h := ?_)
               refine pA_ 25 (some 50) (bl 26 26) HT_.out (h := ?_)
               refine done_ (done_of HT_.out (by kernel_rfl)) ?_
               try go_wp2
               go_roundg k2
               case measure => have := HJ1.out; have := HK2.out; omega
               case rel => exact ⟨(wrap64 (x20_2 + 1)), (by first | rfl | (simp; done) | (simp [*]; done)), H', ⟨by have := HJ1.out; have := HK2.out; omega⟩, ⟨by (with_reducible repeat (first | refine blk_drewN ?_ _ | refine blk_drew ?_ | refine blk_alloc ?_ _)); exact BK164.out⟩, ⟨by repeat (first | (with_reducible first | exact HB.out | apply below_alloc | apply pw_below_drewN | apply below_drew1 | refine below_set ?_ GE164.out | refine below_set ?_ GE166.out) | exact HB.out)⟩⟩
             ·rw [if_neg c19] at H
              exact absurd H (by simp)
            ·rw [if_neg c18] at H
             exact absurd H (by simp)
           ·rw [if_neg c16] at H
            have c16b0 : decide (0 < x20_2) = false := decide_eq_false c16
            clear c16
            have H' := Aside0.mk H
            clear H
            have p165 : 0 ≤ (x20_2 : Int) := of_decide_eq_true (by first | (with_reducible assumption) | assumption)
            have q165 : x20_2 < (l0_0.length : Int) := of_decide_eq_true (by first | (with_reducible assumption) | assumption)
            obtain ⟨ad165, e165, hx165_0, hx165_1⟩ := at_T59 HR0_0.out x20_2 p165 q165
            cases e165
            replace hx165_0 := (HB.out.cell (World.block_lt_of_cell? w _ hx165_0)).trans hx165_0
            replace hx165_1 := (HB.out.cell (World.block_lt_of_cell? w _ hx165_1)).trans hx165_1
            replace p165 := eq_true p165
            replace q165 := eq_true q165
            try go_wp2_with (first | ((with_reducible refine gate_dst (N := 4) rfl ?_); (try (refine gate_guard (by rfl) ?_; dsimp only)); refine box_event ?hg (N := 4) ?hd (cs := #[.int .i64 0, .int .i64 0]) (t := 59) ?hr ?_; (case hd => rfl); (case hg => rfl); (case hr => first | (go_simp; done) | (go_simp; rfl)); intro gb166 hg w31 hbox hb; have n0_ := Aside0.mk (blk_below (g := gb164) (o := .cells #[.slice (some ad165) l0_0.length c0_0, .slice A0_1 l0_1.length c0_1] 31 (0, 0)) (by (with_reducible repeat (first | refine blk_drewN ?_ _ | refine blk_drew ?_ | refine blk_alloc ?_ _)); exact BK164.out) hb); have n1_ := Aside0.mk (below_step (by repeat (first | (with_reducible first | exact HB.out | apply below_alloc | apply pw_below_drewN | apply below_drew1 | refine below_set ?_ GE164.out) | exact HB.out)) hb); have n2_ := Aside0.mk (hbox); have n3_ := Aside0.mk ((by rw [hg]; exact (below_size (by repeat (first | (with_reducible first | exact HB.out | apply below_alloc | apply pw_below_drewN | apply below_drew1 | refine below_set ?_ GE164.out) | exact HB.out))) : w.heap.size ≤ gb166)); have n4_ := Aside0.mk ((by rw [hg]; exact (below_size (by repeat (first | (with_reducible first | exact HB.out | apply below_alloc | apply pw_below_drewN | apply below_drew1 | refine below_set ?_ GE164.out) | exact HB.out))) : w.heap.size ≤ gb166)); have n5_ := Aside0.mk ((by rw [hg]; exact Nat.ne_of_lt (blk_lt (g := gb164) (o := .cells #[.slice (some ad165) l0_0.length c0_0, .slice A0_1 l0_1.length c0_1] 31 (0, 0)) (by (with_reducible repeat (first | refine blk_drewN ?_ _ | refine blk_drew ?_ | refine blk_alloc ?_ _)); exact BK164.out)) : gb164 ≠ gb166)); have n6_ := Aside0.mk ((by rw [hg]; exact Nat.ne_of_gt (blk_lt (g := gb164) (o := .cells #[.slice (some ad165) l0_0.length c0_0, .slice A0_1 l0_1.length c0_1] 31 (0, 0)) (by (with_reducible repeat (first | refine blk_drewN ?_ _ | refine blk_drew ?_ | refine blk_alloc ?_ _)); exact BK164.out)) : gb166 ≠ gb164)); clear BK164; clear HB; have BK164 := n0_; have HB := n1_; have BK166 := n2_; have GW166 := n3_; have GE166 := n4_; have NB164_166 := n5_; have NB166_164 := n6_; clear n0_ n1_ n2_ n3_ n4_ n5_ n6_; clear hb hbox hg; have hnb32 := NB166_164.out; have hnc32 := NB164_166.out; have hcz33_0 : w31.cell? ⟨gb166, 0, none⟩ = some (.int .i64 0) := (blk_cell BK166.out 0).trans rfl; have hcz33_1 : w31.cell? ⟨gb166, 1, none⟩ = some (.int .i64 0) := (blk_cell BK166.out 1).trans rfl; have hfz33_0 := blk_frozen BK166.out 0; have hfz33_1 := blk_frozen BK166.out 1))
            have n0_ : Aside0 (((w31.setCell ⟨gb166, 0, none⟩ (.int .i64 ((rd_T59 l0_0 x20_2).f0))).setCell ⟨gb166, 1, none⟩ (.int .i64 ((rd_T59 l0_0 x20_2).f1))).heap[gb164]? = some (.cells #[.slice (some ad165) l0_0.length c0_0, .slice A0_1 l0_1.length c0_1] 31 (0, 0))) := ⟨by (with_reducible repeat (first | refine blk_drewN ?_ _ | refine blk_drew ?_ | refine blk_alloc ?_ _)); refine blk_far ?_ NB164_166.out _; (with_reducible repeat (first | refine blk_drewN ?_ _ | refine blk_drew ?_ | refine blk_alloc ?_ _)); refine blk_far ?_ NB164_166.out _; (with_reducible repeat (first | refine blk_drewN ?_ _ | refine blk_drew ?_ | refine blk_alloc ?_ _)); exact BK164.out⟩
            have n1_ : Aside0 (((w31.setCell ⟨gb166, 0, none⟩ (.int .i64 ((rd_T59 l0_0 x20_2).f0))).setCell ⟨gb166, 1, none⟩ (.int .i64 ((rd_T59 l0_0 x20_2).f1))).heap[gb166]? = some (.cells #[.int .i64 ((rd_T59 l0_0 x20_2).f0), .int .i64 ((rd_T59 l0_0 x20_2).f1)] 59 (0, 0))) := ⟨by (with_reducible repeat (first | refine blk_drewN ?_ _ | refine blk_drew ?_ | refine blk_alloc ?_ _)); refine blk_put (cs := #[.int .i64 ((rd_T59 l0_0 x20_2).f0), .int .i64 0]) ?_ 1 _ rfl; (with_reducible repeat (first | refine blk_drewN ?_ _ | refine blk_drew ?_ | refine blk_alloc ?_ _)); refine blk_put (cs := #[.int .i64 0, .int .i64 0]) ?_ 0 _ rfl; (with_reducible repeat (first | refine blk_drewN ?_ _ | refine blk_drew ?_ | refine blk_alloc ?_ _)); exact BK166.out⟩
            have n2_ : Aside0 (Below w.heap.size w ((w31.setCell ⟨gb166, 0, none⟩ (.int .i64 ((rd_T59 l0_0 x20_2).f0))).setCell ⟨gb166, 1, none⟩ (.int .i64 ((rd_T59 l0_0 x20_2).f1)))) := ⟨by repeat (first | (with_reducible first | exact HB.out | apply below_alloc | apply pw_below_drewN | apply below_drew1 | refine below_set ?_ GE164.out | refine below_set ?_ GE166.out) | exact HB.out)⟩
            (try clear BK164)
            (try clear BK166)
            (try clear HB)
            generalize ((w31.setCell ⟨gb166, 0, none⟩ (.int .i64 ((rd_T59 l0_0 x20_2).f0))).setCell ⟨gb166, 1, none⟩ (.int .i64 ((rd_T59 l0_0 x20_2).f1))) = w34 at n0_ n1_ n2_ ⊢
            have BK164 := n0_
            have BK166 := n1_
            have HB := n2_
            clear n0_ n1_ n2_
            have n0_ := Aside0.mk (blk_drew BK164.out)
            have n1_ := Aside0.mk (blk_drew BK166.out)
            have n2_ := Aside0.mk (below_drew1 HB.out)
            clear BK164
            clear BK166
            clear HB
            have BK164 := n0_
            have BK166 := n1_
            have HB := n2_
            clear n0_ n1_ n2_
            refine start_ (n := 26) (S := fun w' => w'.cell? ⟨gb166, 0, none⟩ = some (.int .i64 ((rd_T59 l0_0 x20_2).f0)) ∧ w'.cell? ⟨gb166, 1, none⟩ = some (.int .i64 ((rd_T59 l0_0 x20_2).f1))) (ds := []) #[false, false, false, false, false, false, false, false, false, false, false, false, false, false, false, false, false, false, false, false, false, false, false, false, false, false] (by kernel_rfl) rfl rfl ⟨(blk_cell BK166.out 0).trans rfl, (blk_cell BK166.out 1).trans rfl⟩ (fun hHeld => ?_); refine with_tabW impl_IsValidRecord.tab6 impl_IsValidRecord.bits6 (fun HT_ HW_ => ?_)
            generalize w34.drew = w35 at BK164 BK166 HB hHeld ⊢
            refine pA_ 0 (some 25) (bl 1 26) HT_.out (h := ?_)
            refine tA_ 1 (some 26) (bl 2 26) HT_.out HW_.out hHeld (h := ?_)
            refine one_ (i := 2) (N := some 27) (bl 3 26) rfl rfl (one_of HT_.out (by kernel_rfl)) (by decide) (fun K hK => ?_)
            refine goes_ Try.func57 (by kernel_rfl) rfl #[.int .i64 ((rd_T59 l0_0 x20_2).f0)] (by rfl) rfl rfl (by (try simp only [List.map_toArray, List.map_cons, List.map_nil]); first | done | rfl | (simp only [List.length_drop, List.length_take]; rfl)) ?_
            with_reducible refine (impl_isNumber.calls ((rd_T59 l0_0 x20_2).f0) true _ A12.out).mono ?_
            rintro e w' ⟨rfl, ⟨nd, rfl⟩⟩
            refine ⟨_, rfl, ?_⟩
            refine hK.out _ _ ⟨(blk_cell BK166.out 0).trans rfl, (blk_cell BK166.out 1).trans rfl⟩ (fun hHeld => ?_)
            clear hK K
            refine norm_ (a' := ?_) ?_ ?_
            rotate_left
            ·show Act.put _ (some 27) _ = _
             simp only [Act.put, List.setIfInBounds_toArray, List.set_cons_zero, List.set_cons_succ, i64_w, i32_w]
             rfl
            refine pA_ 3 (some 28) (bl 4 26) HT_.out (h := ?_)
            refine pA_ 4 (some 29) (bl 5 26) HT_.out (h := ?_)
            refine pA_ 5 (some 30) (bl 6 26) HT_.out (h := ?_)
            refine tA_ 6 (some 31) (bl 7 26) HT_.out HW_.out hHeld (h := ?_)
            refine one_ (i := 7) (N := some 32) (bl 8 26) rfl rfl (one_of HT_.out (by kernel_rfl)) (by decide) (fun K hK => ?_)
            refine goes_ Try.func58 (by kernel_rfl) rfl #[.int .i64 ((rd_T59 l0_0 x20_2).f1)] (by rfl) rfl rfl (by (try simp only [List.map_toArray, List.map_cons, List.map_nil]); first | done | rfl | (simp only [List.length_drop, List.length_take]; rfl)) ?_
            with_reducible refine (impl_isKind.calls ((rd_T59 l0_0 x20_2).f1) true _ A14.out).mono ?_
            rintro e w' ⟨rfl, ⟨nd, rfl⟩⟩
            refine ⟨_, rfl, ?_⟩
            refine hK.out _ _ ⟨(blk_cell BK166.out 0).trans rfl, (blk_cell BK166.out 1).trans rfl⟩ (fun hHeld => ?_)
            clear hK K
            refine norm_ (a' := ?_) ?_ ?_
            rotate_left
            ·show Act.put _ (some 32) _ = _
             simp only [Act.put, List.setIfInBounds_toArray, List.set_cons_zero, List.set_cons_succ, i64_w, i32_w]
             rfl
            refine pA_ 8 (some 33) (bl 9 26) HT_.out (h := ?_)
            refine pA_ 9 (some 34) (bl 10 26) HT_.out (h := ?_)
            refine pA_ 10 (some 35) (bl 11 26) HT_.out (h := ?_)
            refine pA_ 11 (some 36) (bl 12 26) HT_.out (h := ?_)
            refine pA_ 12 (some 37) (bl 13 26) HT_.out (h := ?_)
            refine pA_ 13 (some 38) (bl 14 26) HT_.out (h := ?_)
            refine pO_ 14 (some 39) (bl 15 26) HT_.out (h := ?_)
            refine pO_ 15 (some 40) (bl 16 26) HT_.out (h := ?_)
            refine pO_ 16 (some 41) (bl 17 26) HT_.out (h := ?_)
            refine pO_ 17 (some 42) (bl 18 26) HT_.out (h := ?_)
            refine pO_ 18 (some 43) (bl 19 26) HT_.out (h := ?_)
            refine pO_ 19 (some 44) (bl 20 26) HT_.out (h := ?_)
            refine pO_ 20 (some 45) (bl 21 26) HT_.out (h := ?_)
            refine pO_ 21 (some 46) (bl 22 26) HT_.out (h := ?_)
            refine pO_ 22 (some 47) (bl 23 26) HT_.out (h := ?_)
            refine pO_ 23 (some 48) (bl 24 26) HT_.out (h := ?_)
            refine pA_ 24 (some 49) (bl 25 26) HT_.out (h := ?_)
            refine pA_ 25 (some 50) (bl 26 26) HT_.out (h := ?_)
            refine done_ (done_of HT_.out (by kernel_rfl)) ?_
            try go_wp2
            go_roundg k2
            case measure => have := HJ1.out; have := HK2.out; omega
            case rel => exact ⟨(wrap64 (x20_2 + 1)), (by first | rfl | (simp; done) | (simp [*]; done)), H', ⟨by have := HJ1.out; have := HK2.out; omega⟩, ⟨by (with_reducible repeat (first | refine blk_drewN ?_ _ | refine blk_drew ?_ | refine blk_alloc ?_ _)); exact BK164.out⟩, ⟨by repeat (first | (with_reducible first | exact HB.out | apply below_alloc | apply pw_below_drewN | apply below_drew1 | refine below_set ?_ GE164.out | refine below_set ?_ GE166.out) | exact HB.out)⟩⟩
          ·replace c15 := Bool.eq_false_iff.mpr c15
           subst c15
           have H1 : (some false) = some r := by rw [if_neg (show ¬ (false = true) by decide)] at H; exact H
           clear H
           have H := H1
           clear H1
           obtain rfl := Option.some.inj H
           have p165 : 0 ≤ (x20_2 : Int) := of_decide_eq_true (by first | (with_reducible assumption) | assumption)
           have q165 : x20_2 < (l0_0.length : Int) := of_decide_eq_true (by first | (with_reducible assumption) | assumption)
           obtain ⟨ad165, e165, hx165_0, hx165_1⟩ := at_T59 HR0_0.out x20_2 p165 q165
           cases e165
           replace hx165_0 := (HB.out.cell (World.block_lt_of_cell? w _ hx165_0)).trans hx165_0
           replace hx165_1 := (HB.out.cell (World.block_lt_of_cell? w _ hx165_1)).trans hx165_1
           replace p165 := eq_true p165
           replace q165 := eq_true q165
           try go_wp2_with (first | ((with_reducible refine gate_dst (N := 4) rfl ?_); (try (refine gate_guard (by rfl) ?_; dsimp only)); refine box_event ?hg (N := 4) ?hd (cs := #[.int .i64 0, .int .i64 0]) (t := 59) ?hr ?_; (case hd => rfl); (case hg => rfl); (case hr => first | (go_simp; done) | (go_simp; rfl)); intro gb166 hg w36 hbox hb; have n0_ := Aside0.mk (blk_below (g := gb164) (o := .cells #[.slice (some ad165) l0_0.length c0_0, .slice A0_1 l0_1.length c0_1] 31 (0, 0)) (by (with_reducible repeat (first | refine blk_drewN ?_ _ | refine blk_drew ?_ | refine blk_alloc ?_ _)); exact BK164.out) hb); have n1_ := Aside0.mk (below_step (by repeat (first | (with_reducible first | exact HB.out | apply below_alloc | apply pw_below_drewN | apply below_drew1 | refine below_set ?_ GE164.out) | exact HB.out)) hb); have n2_ := Aside0.mk (hbox); have n3_ := Aside0.mk ((by rw [hg]; exact (below_size (by repeat (first | (with_reducible first | exact HB.out | apply below_alloc | apply pw_below_drewN | apply below_drew1 | refine below_set ?_ GE164.out) | exact HB.out))) : w.heap.size ≤ gb166)); have n4_ := Aside0.mk ((by rw [hg]; exact (below_size (by repeat (first | (with_reducible first | exact HB.out | apply below_alloc | apply pw_below_drewN | apply below_drew1 | refine below_set ?_ GE164.out) | exact HB.out))) : w.heap.size ≤ gb166)); have n5_ := Aside0.mk ((by rw [hg]; exact Nat.ne_of_lt (blk_lt (g := gb164) (o := .cells #[.slice (some ad165) l0_0.length c0_0, .slice A0_1 l0_1.length c0_1] 31 (0, 0)) (by (with_reducible repeat (first | refine blk_drewN ?_ _ | refine blk_drew ?_ | refine blk_alloc ?_ _)); exact BK164.out)) : gb164 ≠ gb166)); have n6_ := Aside0.mk ((by rw [hg]; exact Nat.ne_of_gt (blk_lt (g := gb164) (o := .cells #[.slice (some ad165) l0_0.length c0_0, .slice A0_1 l0_1.length c0_1] 31 (0, 0)) (by (with_reducible repeat (first | refine blk_drewN ?_ _ | refine blk_drew ?_ | refine blk_alloc ?_ _)); exact BK164.out)) : gb166 ≠ gb164)); clear BK164; clear HB; have BK164 := n0_; have HB := n1_; have BK166 := n2_; have GW166 := n3_; have GE166 := n4_; have NB164_166 := n5_; have NB166_164 := n6_; clear n0_ n1_ n2_ n3_ n4_ n5_ n6_; clear hb hbox hg; have hnb37 := NB166_164.out; have hnc37 := NB164_166.out; have hcz38_0 : w36.cell? ⟨gb166, 0, none⟩ = some (.int .i64 0) := (blk_cell BK166.out 0).trans rfl; have hcz38_1 : w36.cell? ⟨gb166, 1, none⟩ = some (.int .i64 0) := (blk_cell BK166.out 1).trans rfl; have hfz38_0 := blk_frozen BK166.out 0; have hfz38_1 := blk_frozen BK166.out 1))
           have n0_ : Aside0 (((w36.setCell ⟨gb166, 0, none⟩ (.int .i64 ((rd_T59 l0_0 x20_2).f0))).setCell ⟨gb166, 1, none⟩ (.int .i64 ((rd_T59 l0_0 x20_2).f1))).heap[gb164]? = some (.cells #[.slice (some ad165) l0_0.length c0_0, .slice A0_1 l0_1.length c0_1] 31 (0, 0))) := ⟨by (with_reducible repeat (first | refine blk_drewN ?_ _ | refine blk_drew ?_ | refine blk_alloc ?_ _)); refine blk_far ?_ NB164_166.out _; (with_reducible repeat (first | refine blk_drewN ?_ _ | refine blk_drew ?_ | refine blk_alloc ?_ _)); refine blk_far ?_ NB164_166.out _; (with_reducible repeat (first | refine blk_drewN ?_ _ | refine blk_drew ?_ | refine blk_alloc ?_ _)); exact BK164.out⟩
           have n1_ : Aside0 (((w36.setCell ⟨gb166, 0, none⟩ (.int .i64 ((rd_T59 l0_0 x20_2).f0))).setCell ⟨gb166, 1, none⟩ (.int .i64 ((rd_T59 l0_0 x20_2).f1))).heap[gb166]? = some (.cells #[.int .i64 ((rd_T59 l0_0 x20_2).f0), .int .i64 ((rd_T59 l0_0 x20_2).f1)] 59 (0, 0))) := ⟨by (with_reducible repeat (first | refine blk_drewN ?_ _ | refine blk_drew ?_ | refine blk_alloc ?_ _)); refine blk_put (cs := #[.int .i64 ((rd_T59 l0_0 x20_2).f0), .int .i64 0]) ?_ 1 _ rfl; (with_reducible repeat (first | refine blk_drewN ?_ _ | refine blk_drew ?_ | refine blk_alloc ?_ _)); refine blk_put (cs := #[.int .i64 0, .int .i64 0]) ?_ 0 _ rfl; (with_reducible repeat (first | refine blk_drewN ?_ _ | refine blk_drew ?_ | refine blk_alloc ?_ _)); exact BK166.out⟩
           have n2_ : Aside0 (Below w.heap.size w ((w36.setCell ⟨gb166, 0, none⟩ (.int .i64 ((rd_T59 l0_0 x20_2).f0))).setCell ⟨gb166, 1, none⟩ (.int .i64 ((rd_T59 l0_0 x20_2).f1)))) := ⟨by repeat (first | (with_reducible first | exact HB.out | apply below_alloc | apply pw_below_drewN | apply below_drew1 | refine below_set ?_ GE164.out | refine below_set ?_ GE166.out) | exact HB.out)⟩
           (try clear BK164)
           (try clear BK166)
           (try clear HB)
           generalize ((w36.setCell ⟨gb166, 0, none⟩ (.int .i64 ((rd_T59 l0_0 x20_2).f0))).setCell ⟨gb166, 1, none⟩ (.int .i64 ((rd_T59 l0_0 x20_2).f1))) = w39 at n0_ n1_ n2_ ⊢
           have BK164 := n0_
           have BK166 := n1_
           have HB := n2_
           clear n0_ n1_ n2_
           have n0_ := Aside0.mk (blk_drew BK164.out)
           have n1_ := Aside0.mk (blk_drew BK166.out)
           have n2_ := Aside0.mk (below_drew1 HB.out)
           clear BK164
           clear BK166
           clear HB
           have BK164 := n0_
           have BK166 := n1_
           have HB := n2_
           clear n0_ n1_ n2_
           refine start_ (n := 26) (S := fun w' => w'.cell? ⟨gb166, 0, none⟩ = some (.int .i64 ((rd_T59 l0_0 x20_2).f0)) ∧ w'.cell? ⟨gb166, 1, none⟩ = some (.int .i64 ((rd_T59 l0_0 x20_2).f1))) (ds := []) #[false, false, false, false, false, false, false, false, false, false, false, false, false, false, false, false, false, false, false, false, false, false, false, false, false, false] (by kernel_rfl) rfl rfl ⟨(blk_cell BK166.out 0).trans rfl, (blk_cell BK166.out 1).trans rfl⟩ (fun hHeld => ?_); refine with_tabW impl_IsValidRecord.tab6 impl_IsValidRecord.bits6 (fun HT_ HW_ => ?_)
           generalize w39.drew = w40 at BK164 BK166 HB hHeld ⊢
           refine pA_ 0 (some 25) (bl 1 26) HT_.out (h := ?_)
           refine tA_ 1 (some 26) (bl 2 26) HT_.out HW_.out hHeld (h := ?_)
           refine one_ (i := 2) (N := some 27) (bl 3 26) rfl rfl (one_of HT_.out (by kernel_rfl)) (by decide) (fun K hK => ?_)
           refine goes_ Try.func57 (by kernel_rfl) rfl #[.int .i64 ((rd_T59 l0_0 x20_2).f0)] (by rfl) rfl rfl (by (try simp only [List.map_toArray, List.map_cons, List.map_nil]); first | done | rfl | (simp only [List.length_drop, List.length_take]; rfl)) ?_
           with_reducible refine (impl_isNumber.calls ((rd_T59 l0_0 x20_2).f0) true _ A12.out).mono ?_
           rintro e w' ⟨rfl, ⟨nd, rfl⟩⟩
           refine ⟨_, rfl, ?_⟩
           refine hK.out _ _ ⟨(blk_cell BK166.out 0).trans rfl, (blk_cell BK166.out 1).trans rfl⟩ (fun hHeld => ?_)
           clear hK K
           refine norm_ (a' := ?_) ?_ ?_
           rotate_left
           ·show Act.put _ (some 27) _ = _
            simp only [Act.put, List.setIfInBounds_toArray, List.set_cons_zero, List.set_cons_succ, i64_w, i32_w]
            rfl
           refine pA_ 3 (some 28) (bl 4 26) HT_.out (h := ?_)
           refine pA_ 4 (some 29) (bl 5 26) HT_.out (h := ?_)
           refine pA_ 5 (some 30) (bl 6 26) HT_.out (h := ?_)
           refine tA_ 6 (some 31) (bl 7 26) HT_.out HW_.out hHeld (h := ?_)
           refine one_ (i := 7) (N := some 32) (bl 8 26) rfl rfl (one_of HT_.out (by kernel_rfl)) (by decide) (fun K hK => ?_)
           refine goes_ Try.func58 (by kernel_rfl) rfl #[.int .i64 ((rd_T59 l0_0 x20_2).f1)] (by rfl) rfl rfl (by (try simp only [List.map_toArray, List.map_cons, List.map_nil]); first | done | rfl | (simp only [List.length_drop, List.length_take]; rfl)) ?_
           with_reducible refine (impl_isKind.calls ((rd_T59 l0_0 x20_2).f1) false _ A14.out).mono ?_
           rintro e w' ⟨rfl, ⟨nd, rfl⟩⟩
           refine ⟨_, rfl, ?_⟩
           refine hK.out _ _ ⟨(blk_cell BK166.out 0).trans rfl, (blk_cell BK166.out 1).trans rfl⟩ (fun hHeld => ?_)
           clear hK K
           refine norm_ (a' := ?_) ?_ ?_
           rotate_left
           ·show Act.put _ (some 32) _ = _
            simp only [Act.put, List.setIfInBounds_toArray, List.set_cons_zero, List.set_cons_succ, i64_w, i32_w]
            rfl
           refine pA_ 8 (some 33) (bl 9 26) HT_.out (h := ?_)
           refine pA_ 9 (some 34) (bl 10 26) HT_.out (h := ?_)
           refine pA_ 10 (some 35) (bl 11 26) HT_.out (h := ?_)
           refine pO_ 11 (some 36) (bl 12 26) HT_.out (h := ?_)
           refine pO_ 12 (some 37) (bl 13 26) HT_.out (h := ?_)
           refine pO_ 13 (some 38) (bl 14 26) HT_.out (h := ?_)
           refine pO_ 14 (some 39) (bl 15 26) HT_.out (h := ?_)
           refine pO_ 15 (some 40) (bl 16 26) HT_.out (h := ?_)
           refine pO_ 16 (some 41) (bl 17 26) HT_.out (h := ?_)
           refine pO_ 17 (some 42) (bl 18 26) HT_.out (h := ?_)
           refine pO_ 18 (some 43) (bl 19 26) HT_.out (h := ?_)
           refine pO_ 19 (some 44) (bl 20 26) HT_.out (h := ?_)
           refine pO_ 20 (some 45) (bl 21 26) HT_.out (h := ?_)
           refine pO_ 21 (some 46) (bl 22 26) HT_.out (h := ?_)
           refine pO_ 22 (some 47) (bl 23 26) HT_.out (h := ?_)
           refine pO_ 23 (some 48) (bl 24 26) HT_.out (h := ?_)
           refine pO_ 24 (some 49) (bl 25 26) HT_.out (h := ?_)
           refine pA_ 25 (some 50) (bl 26 26) HT_.out (h := ?_)
           refine done_ (done_of HT_.out (by kernel_rfl)) ?_
           try go_wp2
           go_ret
           exact ⟨by first | rfl | (simp [errW_none, errW_some] <;> rfl) | (simp [*, errW_none, errW_some] <;> rfl), by repeat (first | (with_reducible first | exact HB.out | apply below_alloc | apply pw_below_drewN | apply below_drew1 | refine below_set ?_ GE164.out | refine below_set ?_ GE166.out) | exact HB.out)⟩
         ·replace c13 := Bool.eq_false_iff.mpr c13
          subst c13
          have H1 : (some false) = some r := by rw [if_neg (show ¬ (false = true) by decide)] at H; exact H
          clear H
          have H := H1
          clear H1
          obtain rfl := Option.some.inj H
          have p165 : 0 ≤ (x20_2 : Int) := of_decide_eq_true (by first | (with_reducible assumption) | assumption)
          have q165 : x20_2 < (l0_0.length : Int) := of_decide_eq_true (by first | (with_reducible assumption) | assumption)
          obtain ⟨ad165, e165, hx165_0, hx165_1⟩ := at_T59 HR0_0.out x20_2 p165 q165
          cases e165
          replace hx165_0 := (HB.out.cell (World.block_lt_of_cell? w _ hx165_0)).trans hx165_0
          replace hx165_1 := (HB.out.cell (World.block_lt_of_cell? w _ hx165_1)).trans hx165_1
          replace p165 := eq_true p165
          replace q165 := eq_true q165
          try go_wp2_with (first | ((with_reducible refine gate_dst (N := 4) rfl ?_); (try (refine gate_guard (by rfl) ?_; dsimp only)); refine box_event ?hg (N := 4) ?hd (cs := #[.int .i64 0, .int .i64 0]) (t := 59) ?hr ?_; (case hd => rfl); (case hg => rfl); (case hr => first | (go_simp; done) | (go_simp; rfl)); intro gb166 hg w41 hbox hb; have n0_ := Aside0.mk (blk_below (g := gb164) (o := .cells #[.slice (some ad165) l0_0.length c0_0, .slice A0_1 l0_1.length c0_1] 31 (0, 0)) (by (with_reducible repeat (first | refine blk_drewN ?_ _ | refine blk_drew ?_ | refine blk_alloc ?_ _)); exact BK164.out) hb); have n1_ := Aside0.mk (below_step (by repeat (first | (with_reducible first | exact HB.out | apply below_alloc | apply pw_below_drewN | apply below_drew1 | refine below_set ?_ GE164.out) | exact HB.out)) hb); have n2_ := Aside0.mk (hbox); have n3_ := Aside0.mk ((by rw [hg]; exact (below_size (by repeat (first | (with_reducible first | exact HB.out | apply below_alloc | apply pw_below_drewN | apply below_drew1 | refine below_set ?_ GE164.out) | exact HB.out))) : w.heap.size ≤ gb166)); have n4_ := Aside0.mk ((by rw [hg]; exact (below_size (by repeat (first | (with_reducible first | exact HB.out | apply below_alloc | apply pw_below_drewN | apply below_drew1 | refine below_set ?_ GE164.out) | exact HB.out))) : w.heap.size ≤ gb166)); have n5_ := Aside0.mk ((by rw [hg]; exact Nat.ne_of_lt (blk_lt (g := gb164) (o := .cells #[.slice (some ad165) l0_0.length c0_0, .slice A0_1 l0_1.length c0_1] 31 (0, 0)) (by (with_reducible repeat (first | refine blk_drewN ?_ _ | refine blk_drew ?_ | refine blk_alloc ?_ _)); exact BK164.out)) : gb164 ≠ gb166)); have n6_ := Aside0.mk ((by rw [hg]; exact Nat.ne_of_gt (blk_lt (g := gb164) (o := .cells #[.slice (some ad165) l0_0.length c0_0, .slice A0_1 l0_1.length c0_1] 31 (0, 0)) (by (with_reducible repeat (first | refine blk_drewN ?_ _ | refine blk_drew ?_ | refine blk_alloc ?_ _)); exact BK164.out)) : gb166 ≠ gb164)); clear BK164; clear HB; have BK164 := n0_; have HB := n1_; have BK166 := n2_; have GW166 := n3_; have GE166 := n4_; have NB164_166 := n5_; have NB166_164 := n6_; clear n0_ n1_ n2_ n3_ n4_ n5_ n6_; clear hb hbox hg; have hnb42 := NB166_164.out; have hnc42 := NB164_166.out; have hcz43_0 : w41.cell? ⟨gb166, 0, none⟩ = some (.int .i64 0) := (blk_cell BK166.out 0).trans rfl; have hcz43_1 : w41.cell? ⟨gb166, 1, none⟩ = some (.int .i64 0) := (blk_cell BK166.out 1).trans rfl; have hfz43_0 := blk_frozen BK166.out 0; have hfz43_1 := blk_frozen BK166.out 1))
          have n0_ : Aside0 (((w41.setCell ⟨gb166, 0, none⟩ (.int .i64 ((rd_T59 l0_0 x20_2).f0))).setCell ⟨gb166, 1, none⟩ (.int .i64 ((rd_T59 l0_0 x20_2).f1))).heap[gb164]? = some (.cells #[.slice (some ad165) l0_0.length c0_0, .slice A0_1 l0_1.length c0_1] 31 (0, 0))) := ⟨by (with_reducible repeat (first | refine blk_drewN ?_ _ | refine blk_drew ?_ | refine blk_alloc ?_ _)); refine blk_far ?_ NB164_166.out _; (with_reducible repeat (first | refine blk_drewN ?_ _ | refine blk_drew ?_ | refine blk_alloc ?_ _)); refine blk_far ?_ NB164_166.out _; (with_reducible repeat (first | refine blk_drewN ?_ _ | refine blk_drew ?_ | refine blk_alloc ?_ _)); exact BK164.out⟩
          have n1_ : Aside0 (((w41.setCell ⟨gb166, 0, none⟩ (.int .i64 ((rd_T59 l0_0 x20_2).f0))).setCell ⟨gb166, 1, none⟩ (.int .i64 ((rd_T59 l0_0 x20_2).f1))).heap[gb166]? = some (.cells #[.int .i64 ((rd_T59 l0_0 x20_2).f0), .int .i64 ((rd_T59 l0_0 x20_2).f1)] 59 (0, 0))) := ⟨by (with_reducible repeat (first | refine blk_drewN ?_ _ | refine blk_drew ?_ | refine blk_alloc ?_ _)); refine blk_put (cs := #[.int .i64 ((rd_T59 l0_0 x20_2).f0), .int .i64 0]) ?_ 1 _ rfl; (with_reducible repeat (first | refine blk_drewN ?_ _ | refine blk_drew ?_ | refine blk_alloc ?_ _)); refine blk_put (cs := #[.int .i64 0, .int .i64 0]) ?_ 0 _ rfl; (with_reducible repeat (first | refine blk_drewN ?_ _ | refine blk_drew ?_ | refine blk_alloc ?_ _)); exact BK166.out⟩
          have n2_ : Aside0 (Below w.heap.size w ((w41.setCell ⟨gb166, 0, none⟩ (.int .i64 ((rd_T59 l0_0 x20_2).f0))).setCell ⟨gb166, 1, none⟩ (.int .i64 ((rd_T59 l0_0 x20_2).f1)))) := ⟨by repeat (first | (with_reducible first | exact HB.out | apply below_alloc | apply pw_below_drewN | apply below_drew1 | refine below_set ?_ GE164.out | refine below_set ?_ GE166.out) | exact HB.out)⟩
          (try clear BK164)
          (try clear BK166)
          (try clear HB)
          generalize ((w41.setCell ⟨gb166, 0, none⟩ (.int .i64 ((rd_T59 l0_0 x20_2).f0))).setCell ⟨gb166, 1, none⟩ (.int .i64 ((rd_T59 l0_0 x20_2).f1))) = w44 at n0_ n1_ n2_ ⊢
          have BK164 := n0_
          have BK166 := n1_
          have HB := n2_
          clear n0_ n1_ n2_
          have n0_ := Aside0.mk (blk_drew BK164.out)
          have n1_ := Aside0.mk (blk_drew BK166.out)
          have n2_ := Aside0.mk (below_drew1 HB.out)
          clear BK164
          clear BK166
          clear HB
          have BK164 := n0_
          have BK166 := n1_
          have HB := n2_
          clear n0_ n1_ n2_
          refine start_ (n := 26) (S := fun w' => w'.cell? ⟨gb166, 0, none⟩ = some (.int .i64 ((rd_T59 l0_0 x20_2).f0)) ∧ w'.cell? ⟨gb166, 1, none⟩ = some (.int .i64 ((rd_T59 l0_0 x20_2).f1))) (ds := []) #[false, false, false, false, false, false, false, false, false, false, false, false, false, false, false, false, false, false, false, false, false, false, false, false, false, false] (by kernel_rfl) rfl rfl ⟨(blk_cell BK166.out 0).trans rfl, (blk_cell BK166.out 1).trans rfl⟩ (fun hHeld => ?_); refine with_tabW impl_IsValidRecord.tab6 impl_IsValidRecord.bits6 (fun HT_ HW_ => ?_)
          generalize w44.drew = w45 at BK164 BK166 HB hHeld ⊢
          refine pA_ 0 (some 25) (bl 1 26) HT_.out (h := ?_)
          refine tA_ 1 (some 26) (bl 2 26) HT_.out HW_.out hHeld (h := ?_)
          refine one_ (i := 2) (N := some 27) (bl 3 26) rfl rfl (one_of HT_.out (by kernel_rfl)) (by decide) (fun K hK => ?_)
          refine goes_ Try.func57 (by kernel_rfl) rfl #[.int .i64 ((rd_T59 l0_0 x20_2).f0)] (by rfl) rfl rfl (by (try simp only [List.map_toArray, List.map_cons, List.map_nil]); first | done | rfl | (simp only [List.length_drop, List.length_take]; rfl)) ?_
          with_reducible refine (impl_isNumber.calls ((rd_T59 l0_0 x20_2).f0) false _ A12.out).mono ?_
          rintro e w' ⟨rfl, ⟨nd, rfl⟩⟩
          refine ⟨_, rfl, ?_⟩
          refine hK.out _ _ ⟨(blk_cell BK166.out 0).trans rfl, (blk_cell BK166.out 1).trans rfl⟩ (fun hHeld => ?_)
          clear hK K
          refine norm_ (a' := ?_) ?_ ?_
          rotate_left
          ·show Act.put _ (some 27) _ = _
           simp only [Act.put, List.setIfInBounds_toArray, List.set_cons_zero, List.set_cons_succ, i64_w, i32_w]
           rfl
          refine pA_ 3 (some 28) (bl 4 26) HT_.out (h := ?_)
          refine pA_ 4 (some 29) (bl 5 26) HT_.out (h := ?_)
          refine pO_ 5 (some 30) (bl 6 26) HT_.out (h := ?_)
          refine pO_ 6 (some 31) (bl 7 26) HT_.out (h := ?_)
          refine pO_ 7 (some 32) (bl 8 26) HT_.out (h := ?_)
          refine pO_ 8 (some 33) (bl 9 26) HT_.out (h := ?_)
          refine pA_ 9 (some 34) (bl 10 26) HT_.out (h := ?_)
          refine pA_ 10 (some 35) (bl 11 26) HT_.out (h := ?_)
          refine pO_ 11 (some 36) (bl 12 26) HT_.out (h := ?_)
          refine pO_ 12 (some 37) (bl 13 26) HT_.out (h := ?_)
          refine pO_ 13 (some 38) (bl 14 26) HT_.out (h := ?_)
          refine pO_ 14 (some 39) (bl 15 26) HT_.out (h := ?_)
          refine pO_ 15 (some 40) (bl 16 26) HT_.out (h := ?_)
          refine pO_ 16 (some 41) (bl 17 26) HT_.out (h := ?_)
          refine pO_ 17 (some 42) (bl 18 26) HT_.out (h := ?_)
          refine pO_ 18 (some 43) (bl 19 26) HT_.out (h := ?_)
          refine pO_ 19 (some 44) (bl 20 26) HT_.out (h := ?_)
          refine pO_ 20 (some 45) (bl 21 26) HT_.out (h := ?_)
          refine pO_ 21 (some 46) (bl 22 26) HT_.out (h := ?_)
          refine pO_ 22 (some 47) (bl 23 26) HT_.out (h := ?_)
          refine pO_ 23 (some 48) (bl 24 26) HT_.out (h := ?_)
          refine pO_ 24 (some 49) (bl 25 26) HT_.out (h := ?_)
          refine pA_ 25 (some 50) (bl 26 26) HT_.out (h := ?_)
          refine done_ (done_of HT_.out (by kernel_rfl)) ?_
          try go_wp2
          go_ret
          exact ⟨by first | rfl | (simp [errW_none, errW_some] <;> rfl) | (simp [*, errW_none, errW_some] <;> rfl), by repeat (first | (with_reducible first | exact HB.out | apply below_alloc | apply pw_below_drewN | apply below_drew1 | refine below_set ?_ GE164.out | refine below_set ?_ GE166.out) | exact HB.out)⟩
        ·rw [if_neg c11] at H
         exact absurd H (by simp)
       ·rw [if_neg c10] at H
        exact absurd H (by simp)
      ·rw [if_neg c9] at H
       have c9b0 : decide (x20_2 < (l0_0.length : Int)) = false := decide_eq_false c9
       clear c9
       have H' := Aside0.mk H
       clear H
       have hcz46_0 : wr.cell? ⟨gb164, 0, none⟩ = some (.slice A0_0 l0_0.length c0_0) := (blk_cell BK164.out 0).trans rfl
       have hcz46_1 : wr.cell? ⟨gb164, 1, none⟩ = some (.slice A0_1 l0_1.length c0_1) := (blk_cell BK164.out 1).trans rfl
       have hfz46_0 := blk_frozen BK164.out 0
       have hfz46_1 := blk_frozen BK164.out 1
       go_wp2
       go_loopg [55] k2 (fun kq v55 w' => ∃ (x55_3 : Int), v55 = .int .i64 x55_3 ∧ Aside0 (impl_IsValidRecord.l1 kq l0_1 (l0_1.length : Int) x55_3 l0_0 l0_1 = some r) ∧ Aside0 (kq ≤ k2) ∧ Aside0 (w'.heap[gb164]? = some (.cells #[(.slice A0_0 l0_0.length c0_0), (.slice A0_1 l0_1.length c0_1)] 31 (0, 0))) ∧ Aside0 (Below w.heap.size w w'))
       case atStart => exact ⟨(0), (by first | rfl | (simp; done) | (simp [*]; done)), H', ⟨Nat.le_refl _⟩, ⟨by (with_reducible repeat (first | refine blk_drewN ?_ _ | refine blk_drew ?_ | refine blk_alloc ?_ _)); exact BK164.out⟩, ⟨by repeat (first | (with_reducible first | exact HB.out | apply below_alloc | apply pw_below_drewN | apply below_drew1 | refine below_set ?_ GE164.out) | exact HB.out)⟩⟩
       case round =>
        clear H'
        try clear c1
        try clear p1
        try clear q1
        try clear hx1
        try clear c2
        try clear p2
        try clear c3
        try clear c4
        try clear c4b0
        try clear c4b1
        try clear c5
        try clear p6
        try clear c7
        try clear c9
        try clear c9b0
        try clear c10
        try clear c10b0
        try clear c11
        try clear c11b0
        try clear c13
        try clear c15
        try clear c16
        try clear c16b0
        try clear p16
        try clear q16
        try clear hx16
        try clear c18
        try clear c18b0
        try clear c19
        try clear c19b0
        try clear c20
        try clear c20b0
        try clear c22
        try clear c27
        try clear c32
        try clear c37
        try clear c42
        try clear hcz23_0
        try clear hcz23_1
        try clear hcz28_0
        try clear hcz28_1
        try clear hcz33_0
        try clear hcz33_1
        try clear hcz38_0
        try clear hcz38_1
        try clear hcz43_0
        try clear hcz43_1
        try clear hcz46_0
        try clear hcz46_1
        try clear hcz5_0
        try clear hcz5_1
        try clear hcz6_0
        try clear hcz6_1
        try clear hcz8_0
        try clear hcz8_1
        try clear hfz23_0
        try clear hfz23_1
        try clear hfz28_0
        try clear hfz28_1
        try clear hfz33_0
        try clear hfz33_1
        try clear hfz38_0
        try clear hfz38_1
        try clear hfz43_0
        try clear hfz43_1
        try clear hfz46_0
        try clear hfz46_1
        try clear hfz5_0
        try clear hfz5_1
        try clear hfz6_0
        try clear hfz6_1
        try clear hfz8_0
        try clear hfz8_1
        try clear hx165_0
        try clear hx165_1
        try clear hx169_0
        try clear hx169_1
        try clear p165
        try clear p169
        try clear p2
        try clear q165
        try clear q169
        obtain ⟨x55_3, rfl, HA, HK3, BK164, HB⟩ := hrel
        cases gk with
        | zero => exact absurd HA.out (by simp [impl_IsValidRecord.l1])
        | succ k3 =>
         have H := HA.out
         clear HA
         simp only [impl_IsValidRecord.l1] at H
         by_cases c47 : x55_3 < (l0_1.length : Int)
         ·rw [if_pos c47] at H
          have c47b0 : decide (x55_3 < (l0_1.length : Int)) = true := decide_eq_true c47
          clear c47
          by_cases c48 : 0 ≤ x55_3
          ·rw [if_pos c48] at H
           have c48b0 : decide (0 ≤ x55_3) = true := decide_eq_true c48
           clear c48
           by_cases c49 : x55_3 < (l0_1.length : Int)
           ·rw [if_pos c49] at H
            have c49b0 : decide (x55_3 < (l0_1.length : Int)) = true := decide_eq_true c49
            clear c49
            have HC50 := Aside0.mk H
            clear H
            have p170 : 0 ≤ (x55_3 : Int) := of_decide_eq_true (by first | (with_reducible assumption) | assumption)
            have q170 : x55_3 < (l0_1.length : Int) := of_decide_eq_true (by first | (with_reducible assumption) | assumption)
            obtain ⟨ad170, e170, hx170_0, hx170_1⟩ := at_T53 HR0_1.out x55_3 p170 q170
            cases e170
            replace hx170_0 := (HB.out.cell (World.block_lt_of_cell? w _ hx170_0)).trans hx170_0
            replace hx170_1 := (HB.out.cell (World.block_lt_of_cell? w _ hx170_1)).trans hx170_1
            replace p170 := eq_true p170
            replace q170 := eq_true q170
            go_upto_region 12 with (first | ((with_reducible refine gate_dst (N := 6) rfl ?_); (try (refine gate_guard (by rfl) ?_; dsimp only)); refine box_event ?hg (N := 6) ?hd (cs := #[.int .i64 0, .int .i64 0]) (t := 53) ?hr ?_; (case hd => rfl); (case hg => rfl); (case hr => first | (go_simp; done) | (go_simp; rfl)); intro gb171 hg w51 hbox hb; have n0_ := Aside0.mk (blk_below (g := gb164) (o := .cells #[.slice A0_0 l0_0.length c0_0, .slice (some ad170) l0_1.length c0_1] 31 (0, 0)) (by (with_reducible repeat (first | refine blk_drewN ?_ _ | refine blk_drew ?_ | refine blk_alloc ?_ _)); exact BK164.out) hb); have n1_ := Aside0.mk (below_step (by repeat (first | (with_reducible first | exact HB.out | apply below_alloc | apply pw_below_drewN | apply below_drew1 | refine below_set ?_ GE164.out) | exact HB.out)) hb); have n2_ := Aside0.mk (hbox); have n3_ := Aside0.mk ((by rw [hg]; exact (below_size (by repeat (first | (with_reducible first | exact HB.out | apply below_alloc | apply pw_below_drewN | apply below_drew1 | refine below_set ?_ GE164.out) | exact HB.out))) : w.heap.size ≤ gb171)); have n4_ := Aside0.mk ((by rw [hg]; exact (below_size (by repeat (first | (with_reducible first | exact HB.out | apply below_alloc | apply pw_below_drewN | apply below_drew1 | refine below_set ?_ GE164.out) | exact HB.out))) : w.heap.size ≤ gb171)); have n5_ := Aside0.mk ((by rw [hg]; exact Nat.ne_of_lt (blk_lt (g := gb164) (o := .cells #[.slice A0_0 l0_0.length c0_0, .slice (some ad170) l0_1.length c0_1] 31 (0, 0)) (by (with_reducible repeat (first | refine blk_drewN ?_ _ | refine blk_drew ?_ | refine blk_alloc ?_ _)); exact BK164.out)) : gb164 ≠ gb171)); have n6_ := Aside0.mk ((by rw [hg]; exact Nat.ne_of_gt (blk_lt (g := gb164) (o := .cells #[.slice A0_0 l0_0.length c0_0, .slice (some ad170) l0_1.length c0_1] 31 (0, 0)) (by (with_reducible repeat (first | refine blk_drewN ?_ _ | refine blk_drew ?_ | refine blk_alloc ?_ _)); exact BK164.out)) : gb171 ≠ gb164)); clear BK164; clear HB; have BK164 := n0_; have HB := n1_; have BK171 := n2_; have GW171 := n3_; have GE171 := n4_; have NB164_171 := n5_; have NB171_164 := n6_; clear n0_ n1_ n2_ n3_ n4_ n5_ n6_; clear hb hbox hg; have hnb52 := NB171_164.out; have hnc52 := NB164_171.out; have hcz53_0 : w51.cell? ⟨gb171, 0, none⟩ = some (.int .i64 0) := (blk_cell BK171.out 0).trans rfl; have hcz53_1 : w51.cell? ⟨gb171, 1, none⟩ = some (.int .i64 0) := (blk_cell BK171.out 1).trans rfl; have hfz53_0 := blk_frozen BK171.out 0; have hfz53_1 := blk_frozen BK171.out 1))
            (try simp only [Act.put, List.setIfInBounds_toArray, List.set_cons_zero, List.set_cons_succ])
            go_cut [78] (fun v78 wc => ∃ (kq : Nat) (x78_49 : Bool), v78 = .bool x78_49 ∧ Aside0 (impl_IsValidRecord.j3 kq x55_3 l0_1 (l0_1.length : Int) x55_3 x78_49 l0_0 l0_1 ((rd_T53 l0_1 x55_3).f0) ((rd_T53 l0_1 x55_3).f1) = some r) ∧ Aside0 (kq ≤ k3) ∧ Aside0 (wc.heap[gb164]? = some (.cells #[(.slice A0_0 l0_0.length c0_0), (.slice (some ad170) l0_1.length c0_1)] 31 (0, 0))) ∧ Aside0 (wc.heap[gb171]? = some (.cells #[.int .i64 ((rd_T53 l0_1 x55_3).f0), .int .i64 ((rd_T53 l0_1 x55_3).f1)] 53 (0, 0))) ∧ Aside0 (Below w.heap.size w wc))
            case first =>
             have H := HC50.out
             clear HC50
             by_cases c54 : ((rd_T53 l0_1 x55_3).f0) = ((rd_T53 l0_1 x55_3).f1)
             ·rw [if_pos c54] at H
              have c54b0 : (((rd_T53 l0_1 x55_3).f0) == ((rd_T53 l0_1 x55_3).f1)) = true := beq_iff_eq.mpr c54
              have c54b1 : (((rd_T53 l0_1 x55_3).f0) != ((rd_T53 l0_1 x55_3).f1)) = false := bne_eq_false_iff_eq.mpr c54
              clear c54
              (first | rw [c54b0] | (simp only [i64_w, i32_w]; rw [c54b0]) | skip)
              have H' := Aside0.mk H
              clear H
              have hnb55 := NB171_164.out
              have hnc55 := NB164_171.out
              have hcz56_0 : w51.cell? ⟨gb171, 0, none⟩ = some (.int .i64 0) := (blk_cell BK171.out 0).trans rfl
              have hcz56_1 : w51.cell? ⟨gb171, 1, none⟩ = some (.int .i64 0) := (blk_cell BK171.out 1).trans rfl
              have hfz56_0 := blk_frozen BK171.out 0
              have hfz56_1 := blk_frozen BK171.out 1
              go_wp2
              go_meet
              case rel => exact ⟨_, (true), (by first | rfl | (simp; done) | (simp [*]; done)), H', ⟨by have := HJ1.out; have := HK2.out; have := HK3.out; first | omega | exact Nat.le_refl _⟩, ⟨by (with_reducible repeat (first | refine blk_drewN ?_ _ | refine blk_drew ?_ | refine blk_alloc ?_ _)); refine blk_far ?_ NB164_171.out _; (with_reducible repeat (first | refine blk_drewN ?_ _ | refine blk_drew ?_ | refine blk_alloc ?_ _)); refine blk_far ?_ NB164_171.out _; (with_reducible repeat (first | refine blk_drewN ?_ _ | refine blk_drew ?_ | refine blk_alloc ?_ _)); exact BK164.out⟩, ⟨by (with_reducible repeat (first | refine blk_drewN ?_ _ | refine blk_drew ?_ | refine blk_alloc ?_ _)); refine blk_put (cs := #[.int .i64 ((rd_T53 l0_1 x55_3).f0), .int .i64 0]) ?_ 1 _ rfl; (with_reducible repeat (first | refine blk_drewN ?_ _ | refine blk_drew ?_ | refine blk_alloc ?_ _)); refine blk_put (cs := #[.int .i64 0, .int .i64 0]) ?_ 0 _ rfl; (with_reducible repeat (first | refine blk_drewN ?_ _ | refine blk_drew ?_ | refine blk_alloc ?_ _)); exact BK171.out⟩, ⟨by repeat (first | (with_reducible first | exact HB.out | apply below_alloc | apply pw_below_drewN | apply below_drew1 | refine below_set ?_ GE164.out | refine below_set ?_ GE171.out) | exact HB.out)⟩⟩
             ·rw [if_neg c54] at H
              have c54b0 : (((rd_T53 l0_1 x55_3).f0) == ((rd_T53 l0_1 x55_3).f1)) = false := beq_eq_false_iff_ne.mpr c54
              have c54b1 : (((rd_T53 l0_1 x55_3).f0) != ((rd_T53 l0_1 x55_3).f1)) = true := bne_iff_ne.mpr c54
              (first | rw [c54b0] | (simp only [i64_w, i32_w]; rw [c54b0]) | skip)
              replace H := Option.bind_eq_some_iff.mp H
              obtain ⟨t172, A570, H⟩ := H
              replace H : (if t172 < 0 then (impl_IsValidRecord.j3 k3 x55_3 l0_1 (l0_1.length : Int) x55_3 true l0_0 l0_1 ((rd_T53 l0_1 x55_3).f0) ((rd_T53 l0_1 x55_3).f1)) else ((impl_indexOf.f l0_0 l0_1 ((rd_T53 l0_1 x55_3).f1)).bind fun t173 => (impl_IsValidRecord.j3 k3 x55_3 l0_1 (l0_1.length : Int) x55_3 (decide (t173 < 0)) l0_0 l0_1 ((rd_T53 l0_1 x55_3).f0) ((rd_T53 l0_1 x55_3).f1)))) = some r := H
              have A57 := Aside0.mk A570
              clear A570
              by_cases c58 : t172 < 0
              ·rw [if_pos c58] at H
               have c58b0 : decide (t172 < 0) = true := decide_eq_true c58
               clear c58
               have H' := Aside0.mk H
               clear H
               have hnb59 := NB171_164.out
               have hnc59 := NB164_171.out
               have hcz60_0 : w51.cell? ⟨gb171, 0, none⟩ = some (.int .i64 0) := (blk_cell BK171.out 0).trans rfl
               have hcz60_1 : w51.cell? ⟨gb171, 1, none⟩ = some (.int .i64 0) := (blk_cell BK171.out 1).trans rfl
               have hfz60_0 := blk_frozen BK171.out 0
               have hfz60_1 := blk_frozen BK171.out 1
               have hcz61_0 : w51.cell? ⟨gb164, 0, none⟩ = some (.slice A0_0 l0_0.length c0_0) := (blk_cell BK164.out 0).trans rfl
               have hcz61_1 : w51.cell? ⟨gb164, 1, none⟩ = some (.slice (some ad170) l0_1.length c0_1) := (blk_cell BK164.out 1).trans rfl
               have hfz61_0 := blk_frozen BK164.out 0
               have hfz61_1 := blk_frozen BK164.out 1
               go_wp2_with (first | (go_at_call 59; (with_reducible refine (impl_indexOf.calls _ _ l0_0 _ _ l0_1 ((rd_T53 l0_1 x55_3).f0) t172 _ ?side1 ?side2 ?side3 ?side4 A57.out).mono ?_); (case side1 => exact Kd.C_below HR0_0.out (by repeat (first | (with_reducible first | exact HB.out | apply below_alloc | apply pw_below_drewN | apply below_drew1 | refine below_set ?_ GE164.out | refine below_set ?_ GE171.out) | exact HB.out))); (case side2 => exact HC0_0.out); (case side3 => exact Kd.C_below HR0_1.out (by repeat (first | (with_reducible first | exact HB.out | apply below_alloc | apply pw_below_drewN | apply below_drew1 | refine below_set ?_ GE164.out | refine below_set ?_ GE171.out) | exact HB.out))); (case side4 => exact HC0_1.out); rintro e w62 ⟨rfl, hb⟩; have n0_ := Aside0.mk (blk_below (g := gb164) (o := .cells #[.slice A0_0 l0_0.length c0_0, .slice (some ad170) l0_1.length c0_1] 31 (0, 0)) (by (with_reducible repeat (first | refine blk_drewN ?_ _ | refine blk_drew ?_ | refine blk_alloc ?_ _)); refine blk_far ?_ NB164_171.out _; (with_reducible repeat (first | refine blk_drewN ?_ _ | refine blk_drew ?_ | refine blk_alloc ?_ _)); refine blk_far ?_ NB164_171.out _; (with_reducible repeat (first | refine blk_drewN ?_ _ | refine blk_drew ?_ | refine blk_alloc ?_ _)); exact BK164.out) hb); have n1_ := Aside0.mk (blk_below (g := gb171) (o := .cells #[.int .i64 ((rd_T53 l0_1 x55_3).f0), .int .i64 ((rd_T53 l0_1 x55_3).f1)] 53 (0, 0)) (by (with_reducible repeat (first | refine blk_drewN ?_ _ | refine blk_drew ?_ | refine blk_alloc ?_ _)); refine blk_put (cs := #[.int .i64 ((rd_T53 l0_1 x55_3).f0), .int .i64 0]) ?_ 1 _ rfl; (with_reducible repeat (first | refine blk_drewN ?_ _ | refine blk_drew ?_ | refine blk_alloc ?_ _)); refine blk_put (cs := #[.int .i64 0, .int .i64 0]) ?_ 0 _ rfl; (with_reducible repeat (first | refine blk_drewN ?_ _ | refine blk_drew ?_ | refine blk_alloc ?_ _)); exact BK171.out) hb); have n2_ := Aside0.mk (below_step (by repeat (first | (with_reducible first | exact HB.out | apply below_alloc | apply pw_below_drewN | apply below_drew1 | refine below_set ?_ GE164.out | refine below_set ?_ GE171.out) | exact HB.out)) hb); clear BK164; clear BK171; clear HB; have BK164 := n0_; have BK171 := n1_; have HB := n2_; clear n0_ n1_ n2_; (try clear hb); (try clear hb2); (try clear hk); (try clear hi)))
               go_meet
               case rel => exact ⟨_, (true), (by first | rfl | (simp; done) | (simp [*]; done)), H', ⟨by have := HJ1.out; have := HK2.out; have := HK3.out; first | omega | exact Nat.le_refl _⟩, ⟨by (with_reducible repeat (first | refine blk_drewN ?_ _ | refine blk_drew ?_ | refine blk_alloc ?_ _)); exact BK164.out⟩, ⟨by (with_reducible repeat (first | refine blk_drewN ?_ _ | refine blk_drew ?_ | refine blk_alloc ?_ _)); exact BK171.out⟩, ⟨by repeat (first | (with_reducible first | exact HB.out | apply below_alloc | apply pw_below_drewN | apply below_drew1 | refine below_set ?_ GE164.out | refine below_set ?_ GE171.out) | exact HB.out)⟩⟩
              ·rw [if_neg c58] at H
               have c58b0 : decide (t172 < 0) = false := decide_eq_false c58
               clear c58
               replace H := Option.bind_eq_some_iff.mp H
               obtain ⟨t173, A630, H⟩ := H
               replace H : (impl_IsValidRecord.j3 k3 x55_3 l0_1 (l0_1.length : Int) x55_3 (decide (t173 < 0)) l0_0 l0_1 ((rd_T53 l0_1 x55_3).f0) ((rd_T53 l0_1 x55_3).f1)) = some r := H
               have A63 := Aside0.mk A630
               clear A630
               have H' := Aside0.mk H
               clear H
               have hnb64 := NB171_164.out
               have hnc64 := NB164_171.out
               have hcz65_0 : w51.cell? ⟨gb171, 0, none⟩ = some (.int .i64 0) := (blk_cell BK171.out 0).trans rfl
               have hcz65_1 : w51.cell? ⟨gb171, 1, none⟩ = some (.int .i64 0) := (blk_cell BK171.out 1).trans rfl
               have hfz65_0 := blk_frozen BK171.out 0
               have hfz65_1 := blk_frozen BK171.out 1
               have hcz66_0 : w51.cell? ⟨gb164, 0, none⟩ = some (.slice A0_0 l0_0.length c0_0) := (blk_cell BK164.out 0).trans rfl
               have hcz66_1 : w51.cell? ⟨gb164, 1, none⟩ = some (.slice (some ad170) l0_1.length c0_1) := (blk_cell BK164.out 1).trans rfl
               have hfz66_0 := blk_frozen BK164.out 0
               have hfz66_1 := blk_frozen BK164.out 1
               go_wp2_with (first | (go_at_call 59; (with_reducible refine (impl_indexOf.calls _ _ l0_0 _ _ l0_1 ((rd_T53 l0_1 x55_3).f0) t172 _ ?side1 ?side2 ?side3 ?side4 A57.out).mono ?_); (case side1 => exact Kd.C_below HR0_0.out (by repeat (first | (with_reducible first | exact HB.out | apply below_alloc | apply pw_below_drewN | apply below_drew1 | refine below_set ?_ GE164.out | refine below_set ?_ GE171.out) | exact HB.out))); (case side2 => exact HC0_0.out); (case side3 => exact Kd.C_below HR0_1.out (by repeat (first | (with_reducible first | exact HB.out | apply below_alloc | apply pw_below_drewN | apply below_drew1 | refine below_set ?_ GE164.out | refine below_set ?_ GE171.out) | exact HB.out))); (case side4 => exact HC0_1.out); rintro e w67 ⟨rfl, hb⟩; have n0_ := Aside0.mk (blk_below (g := gb164) (o := .cells #[.slice A0_0 l0_0.length c0_0, .slice (some ad170) l0_1.length c0_1] 31 (0, 0)) (by (with_reducible repeat (first | refine blk_drewN ?_ _ | refine blk_drew ?_ | refine blk_alloc ?_ _)); refine blk_far ?_ NB164_171.out _; (with_reducible repeat (first | refine blk_drewN ?_ _ | refine blk_drew ?_ | refine blk_alloc ?_ _)); refine blk_far ?_ NB164_171.out _; (with_reducible repeat (first | refine blk_drewN ?_ _ | refine blk_drew ?_ | refine blk_alloc ?_ _)); exact BK164.out) hb); have n1_ := Aside0.mk (blk_below (g := gb171) (o := .cells #[.int .i64 ((rd_T53 l0_1 x55_3).f0), .int .i64 ((rd_T53 l0_1 x55_3).f1)] 53 (0, 0)) (by (with_reducible repeat (first | refine blk_drewN ?_ _ | refine blk_drew ?_ | refine blk_alloc ?_ _)); refine blk_put (cs := #[.int .i64 ((rd_T53 l0_1 x55_3).f0), .int .i64 0]) ?_ 1 _ rfl; (with_reducible repeat (first | refine blk_drewN ?_ _ | refine blk_drew ?_ | refine blk_alloc ?_ _)); refine blk_put (cs := #[.int .i64 0, .int .i64 0]) ?_ 0 _ rfl; (with_reducible repeat (first | refine blk_drewN ?_ _ | refine blk_drew ?_ | refine blk_alloc ?_ _)); exact BK171.out) hb); have n2_ := Aside0.mk (below_step (by repeat (first | (with_reducible first | exact HB.out | apply below_alloc | apply pw_below_drewN | apply below_drew1 | refine below_set ?_ GE164.out | refine below_set ?_ GE171.out) | exact HB.out)) hb); clear BK164; clear BK171; clear HB; have BK164 := n0_; have BK171 := n1_; have HB := n2_; clear n0_ n1_ n2_; (try clear hb); (try clear hb2); (try clear hk); (try clear hi); have hcz68_0 : w67.cell? ⟨gb164, 0, none⟩ = some (.slice A0_0 l0_0.length c0_0) := (blk_cell BK164.out 0).trans rfl; have hcz68_1 : w67.cell? ⟨gb164, 1, none⟩ = some (.slice (some ad170) l0_1.length c0_1) := (blk_cell BK164.out 1).trans rfl; have hfz68_0 := blk_frozen BK164.out 0; have hfz68_1 := blk_frozen BK164.out 1; have hcz69_0 : w67.cell? ⟨gb171, 0, none⟩ = some (.int .i64 ((rd_T53 l0_1 x55_3).f0)) := (blk_cell BK171.out 0).trans rfl; have hcz69_1 : w67.cell? ⟨gb171, 1, none⟩ = some (.int .i64 ((rd_T53 l0_1 x55_3).f1)) := (blk_cell BK171.out 1).trans rfl; have hfz69_0 := blk_frozen BK171.out 0; have hfz69_1 := blk_frozen BK171.out 1) | (go_at_call 59; (with_reducible refine (impl_indexOf.calls _ _ l0_0 _ _ l0_1 ((rd_T53 l0_1 x55_3).f1) t173 _ ?side1 ?side2 ?side3 ?side4 A63.out).mono ?_); (case side1 => repeat (first | exact (Kd.C_below HR0_0.out HB.out) | (with_reducible refine Kd.C_alloc ?_ _) | (with_reducible refine Kd.C_drewN ?_ _) | (with_reducible refine Kd.C_drew ?_))); (case side2 => exact HC0_0.out); (case side3 => repeat (first | exact (Kd.C_below HR0_1.out HB.out) | (with_reducible refine Kd.C_alloc ?_ _) | (with_reducible refine Kd.C_drewN ?_ _) | (with_reducible refine Kd.C_drew ?_))); (case side4 => exact HC0_1.out); rintro e w70 ⟨rfl, hb⟩; have n0_ := Aside0.mk (blk_below (g := gb164) (o := .cells #[.slice A0_0 l0_0.length c0_0, .slice (some ad170) l0_1.length c0_1] 31 (0, 0)) (by (with_reducible repeat (first | refine blk_drewN ?_ _ | refine blk_drew ?_ | refine blk_alloc ?_ _)); exact BK164.out) hb); have n1_ := Aside0.mk (blk_below (g := gb171) (o := .cells #[.int .i64 ((rd_T53 l0_1 x55_3).f0), .int .i64 ((rd_T53 l0_1 x55_3).f1)] 53 (0, 0)) (by (with_reducible repeat (first | refine blk_drewN ?_ _ | refine blk_drew ?_ | refine blk_alloc ?_ _)); exact BK171.out) hb); have n2_ := Aside0.mk (below_step (by repeat (first | (with_reducible first | exact HB.out | apply below_alloc | apply pw_below_drewN | apply below_drew1 | refine below_set ?_ GE164.out | refine below_set ?_ GE171.out) | exact HB.out)) hb); clear BK164; clear BK171; clear HB; have BK164 := n0_; have BK171 := n1_; have HB := n2_; clear n0_ n1_ n2_; (try clear hb); (try clear hb2); (try clear hk); (try clear hi)))
               go_meet
               case rel => exact ⟨_, (decide (t173 < 0)), (by first | rfl | (simp; done) | (simp [*]; done)), H', ⟨by have := HJ1.out; have := HK2.out; have := HK3.out; first | omega | exact Nat.le_refl _⟩, ⟨by (with_reducible repeat (first | refine blk_drewN ?_ _ | refine blk_drew ?_ | refine blk_alloc ?_ _)); exact BK164.out⟩, ⟨by (with_reducible repeat (first | refine blk_drewN ?_ _ | refine blk_drew ?_ | refine blk_alloc ?_ _)); exact BK171.out⟩, ⟨by repeat (first | (with_reducible first | exact HB.out | apply below_alloc | apply pw_below_drewN | apply below_drew1 | refine below_set ?_ GE164.out | refine below_set ?_ GE171.out) | exact HB.out)⟩⟩
            case rest =>
             clear HC50
             try clear c1
             try clear p1
             try clear q1
             try clear hx1
             try clear c2
             try clear p2
             try clear c3
             try clear c4
             try clear c4b0
             try clear c4b1
             try clear c5
             try clear c6
             try clear p6
             try clear c7
             try clear c9
             try clear c9b0
             try clear c10
             try clear c10b0
             try clear c11
             try clear c11b0
             try clear c13
             try clear c15
             try clear c16
             try clear c16b0
             try clear p16
             try clear q16
             try clear hx16
             try clear p17
             try clear q17
             try clear hx17
             try clear c18
             try clear c18b0
             try clear c19
             try clear c19b0
             try clear c20
             try clear c20b0
             try clear c22
             try clear c27
             try clear c32
             try clear c37
             try clear c42
             try clear c47
             try clear c47b0
             try clear c48
             try clear c48b0
             try clear c49
             try clear c49b0
             try clear c52
             try clear c54
             try clear c54b0
             try clear c54b1
             try clear c55
             try clear c57
             try clear c58
             try clear c58b0
             try clear c59
             try clear c64
             try clear p64
             try clear hcz23_0
             try clear hcz23_1
             try clear hcz28_0
             try clear hcz28_1
             try clear hcz33_0
             try clear hcz33_1
             try clear hcz38_0
             try clear hcz38_1
             try clear hcz43_0
             try clear hcz43_1
             try clear hcz46_0
             try clear hcz46_1
             try clear hcz53_0
             try clear hcz53_1
             try clear hcz56_0
             try clear hcz56_1
             try clear hcz5_0
             try clear hcz5_1
             try clear hcz60_0
             try clear hcz60_1
             try clear hcz61_0
             try clear hcz61_1
             try clear hcz65_0
             try clear hcz65_1
             try clear hcz66_0
             try clear hcz66_1
             try clear hcz68_0
             try clear hcz68_1
             try clear hcz69_0
             try clear hcz69_1
             try clear hcz6_0
             try clear hcz6_1
             try clear hcz8_0
             try clear hcz8_1
             try clear hfz23_0
             try clear hfz23_1
             try clear hfz28_0
             try clear hfz28_1
             try clear hfz33_0
             try clear hfz33_1
             try clear hfz38_0
             try clear hfz38_1
             try clear hfz43_0
             try clear hfz43_1
             try clear hfz46_0
             try clear hfz46_1
             try clear hfz53_0
             try clear hfz53_1
             try clear hfz56_0
             try clear hfz56_1
             try clear hfz5_0
             try clear hfz5_1
             try clear hfz60_0
             try clear hfz60_1
             try clear hfz61_0
             try clear hfz61_1
             try clear hfz65_0
             try clear hfz65_1
             try clear hfz66_0
             try clear hfz66_1
             try clear hfz68_0
             try clear hfz68_1
             try clear hfz69_0
             try clear hfz69_1
             try clear hfz6_0
             try clear hfz6_1
             try clear hfz8_0
             try clear hfz8_1
             try clear hx165_0
             try clear hx165_1
             try clear hx169_0
             try clear hx169_1
             try clear hx170_0
             try clear hx170_1
             try clear p1
             try clear p16
             try clear p165
             try clear p169
             try clear p170
             try clear p2
             try clear p6
             try clear q1
             try clear q16
             try clear q165
             try clear q169
             try clear q170
             obtain ⟨kq, x78_49, rfl, HA, HJ49, BK164, BK171, HB⟩ := hcut
             cases kq with
             | zero => exact absurd HA.out (by simp [impl_IsValidRecord.j3])
             | succ kj49 =>
              have H := HA.out
              clear HA
              simp only [impl_IsValidRecord.j3] at H
              by_cases c71 : x78_49 = true
              ·subst c71
               have H1 : (some false) = some r := by rw [if_pos rfl] at H; exact H
               clear H
               have H := H1
               clear H1
               obtain rfl := Option.some.inj H
               go_wp2
               go_ret
               exact ⟨by first | rfl | (simp [errW_none, errW_some] <;> rfl) | (simp [*, errW_none, errW_some] <;> rfl), by repeat (first | (with_reducible first | exact HB.out | apply below_alloc | apply pw_below_drewN | apply below_drew1 | refine below_set ?_ GE164.out | refine below_set ?_ GE171.out) | exact HB.out)⟩
              ·replace c71 := Bool.eq_false_iff.mpr c71
               subst c71
               have H1 : (if x55_3 > 0 then (if 0 ≤ (wrap64 (x55_3 - 1)) then (if (wrap64 (x55_3 - 1)) < (l0_1.length : Int) then ((impl_compareRelations.f kj49 ((rd_T53 l0_1 (wrap64 (x55_3 - 1))).f0) ((rd_T53 l0_1 (wrap64 (x55_3 - 1))).f1) ((rd_T53 l0_1 x55_3).f0) ((rd_T53 l0_1 x55_3).f1)).bind fun t175 => (if t175 ≥ 0 then (some false) else (impl_IsValidRecord.l1 kj49 l0_1 (l0_1.length : Int) (wrap64 (x55_3 + 1)) l0_0 l0_1))) else (none)) else (none)) else (impl_IsValidRecord.l1 kj49 l0_1 (l0_1.length : Int) (wrap64 (x55_3 + 1)) l0_0 l0_1)) = some r := by rw [if_neg (show ¬ (false = true) by decide)] at H; exact H
               clear H
               have H := H1
               clear H1
               by_cases c72 : x55_3 > 0
               ·rw [if_pos c72] at H
                have c72b0 : decide (0 < x55_3) = true := decide_eq_true c72
                clear c72
                obtain ⟨ji73, hji73⟩ : ∃ j_ : Int, (wrap64 (x55_3 - 1)) = j_ := ⟨_, rfl⟩
                replace H : (if 0 ≤ (ji73) then (if (ji73) < (l0_1.length : Int) then ((impl_compareRelations.f kj49 ((rd_T53 l0_1 (ji73)).f0) ((rd_T53 l0_1 (ji73)).f1) ((rd_T53 l0_1 x55_3).f0) ((rd_T53 l0_1 x55_3).f1)).bind fun t175 => (if t175 ≥ 0 then (some false) else (impl_IsValidRecord.l1 kj49 l0_1 (l0_1.length : Int) (wrap64 (x55_3 + 1)) l0_0 l0_1))) else (none)) else (none)) = some r := by first | (rw [hji73] at H; exact H) | (simp only [hji73] at H ⊢; exact H)
                have hji73w : (IntKind.i64.wrap (x55_3 - 1)) = ji73 := (i64_w _).trans hji73
                by_cases c74 : 0 ≤ (ji73)
                ·rw [if_pos c74] at H
                 have c74b0 : decide (0 ≤ (ji73)) = true := decide_eq_true c74
                 clear c74
                 by_cases c75 : (ji73) < (l0_1.length : Int)
                 ·rw [if_pos c75] at H
                  have c75b0 : decide ((ji73) < (l0_1.length : Int)) = true := decide_eq_true c75
                  clear c75
                  replace H := Option.bind_eq_some_iff.mp H
                  obtain ⟨t175, A760, H⟩ := H
                  replace H : (if t175 ≥ 0 then (some false) else (impl_IsValidRecord.l1 kj49 l0_1 (l0_1.length : Int) (wrap64 (x55_3 + 1)) l0_0 l0_1)) = some r := H
                  have A76 := Aside0.mk A760
                  clear A760
                  by_cases c77 : t175 ≥ 0
                  ·rw [if_pos c77] at H
                   have c77b0 : decide (0 ≤ t175) = true := decide_eq_true c77
                   clear c77
                   obtain rfl := Option.some.inj H
                   try go_wp2
                   have n0_ := Aside0.mk (blk_drew BK164.out)
                   have n1_ := Aside0.mk (blk_drew BK171.out)
                   have n2_ := Aside0.mk (below_drew1 HB.out)
                   clear BK164
                   clear BK171
                   clear HB
                   have BK164 := n0_
                   have BK171 := n1_
                   have HB := n2_
                   clear n0_ n1_ n2_
                   have p174 : 0 ≤ ((ji73) : Int) := of_decide_eq_true (by first | (with_reducible assumption) | assumption)
                   have q174 : (ji73) < (l0_1.length : Int) := of_decide_eq_true (by first | (with_reducible assumption) | assumption)
                   obtain ⟨ad174, e174, hx174_0, hx174_1⟩ := at_T53 HR0_1.out (ji73) p174 q174
                   have hw174_1 := hx174_1
                   have hw174_0 := hx174_0
                   obtain rfl : ad170 = ad174 := (by injection e174)
                   replace hx174_0 := (HB.out.cell (World.block_lt_of_cell? w _ hx174_0)).trans hx174_0
                   replace hx174_1 := (HB.out.cell (World.block_lt_of_cell? w _ hx174_1)).trans hx174_1
                   replace p174 := eq_true p174
                   replace q174 := eq_true q174
                   refine start_ (n := 13) (S := fun w' => w'.cell? ⟨gb164, 0, none⟩ = some (.slice A0_0 l0_0.length c0_0) ∧ w'.cell? ⟨gb164, 1, none⟩ = some (.slice (some ad170) l0_1.length c0_1) ∧ w'.cell? ⟨gb171, 0, none⟩ = some (.int .i64 ((rd_T53 l0_1 x55_3).f0)) ∧ w'.cell? ⟨gb171, 1, none⟩ = some (.int .i64 ((rd_T53 l0_1 x55_3).f1)) ∧ w'.cell? (ad170.add (((ji73)).toNat * 2)) = some (.int .i64 ((rd_T53 l0_1 (ji73)).f0)) ∧ w'.cell? ⟨(ad170.add (((ji73)).toNat * 2)).block, (ad170.add (((ji73)).toNat * 2)).off + 1, none⟩ = some (.int .i64 ((rd_T53 l0_1 (ji73)).f1))) (ds := []) #[false, false, false, false, false, false, false, false, false, false, false, false, false] (by kernel_rfl) rfl rfl ⟨(blk_cell BK164.out 0).trans rfl, (blk_cell BK164.out 1).trans rfl, (blk_cell BK171.out 0).trans rfl, (blk_cell BK171.out 1).trans rfl, ((HB.out.cell (World.block_lt_of_cell? w _ hw174_0)).trans hw174_0), ((HB.out.cell (World.block_lt_of_cell? w _ hw174_1)).trans hw174_1)⟩ (fun hHeld => ?_); refine with_tabW impl_IsValidRecord.tab14 impl_IsValidRecord.bits14 (fun HT_ HW_ => ?_)
                   generalize wc.drew = w78 at BK164 BK171 HB hx174_0 hx174_1 hHeld ⊢
                   refine pA_ 0 (some 79) (bl 1 13) HT_.out (h := ?_)
                   refine pA_ 1 (some 80) (bl 2 13) HT_.out (h := ?_)
                   refine pA_ 2 (some 81) (bl 3 13) HT_.out (h := ?_)
                   refine pA_ 3 (some 82) (bl 4 13) HT_.out (h := ?_)
                   refine pA_ 5 (some 84) #[true, true, true, true, false, true, false, false, false, false, false, false, false] HT_.out (h := ?_)
                   refine pA_ 6 (some 85) #[true, true, true, true, false, true, true, false, false, false, false, false, false] HT_.out (h := ?_)
                   refine tA_ 4 (some 83) (bl 7 13) HT_.out HW_.out hHeld (h := ?_)
                   refine pA_ 7 (some 86) (bl 8 13) HT_.out (h := ?_)
                   refine tA_ 8 (some 87) (bl 9 13) HT_.out HW_.out hHeld (h := ?_)
                   refine tA_ 9 (some 88) (bl 10 13) HT_.out HW_.out hHeld (h := ?_)
                   refine one_ (i := 10) (N := some 89) (bl 11 13) rfl rfl (one_of HT_.out (by kernel_rfl)) (by decide) (fun K hK => ?_)
                   refine goes_ Try.func60 (by kernel_rfl) rfl #[.agg #[.int .i64 ((rd_T53 l0_1 (ji73)).f0), .int .i64 ((rd_T53 l0_1 (ji73)).f1)], .agg #[.int .i64 ((rd_T53 l0_1 x55_3).f0), .int .i64 ((rd_T53 l0_1 x55_3).f1)]] (by rfl) rfl rfl (by (try simp only [List.map_toArray, List.map_cons, List.map_nil]); first | done | (simp only [hji73]; rfl) | rfl | (simp only [List.length_drop, List.length_take]; rfl)) ?_
                   with_reducible refine (impl_compareRelations.calls kj49 ((rd_T53 l0_1 (ji73)).f0) ((rd_T53 l0_1 (ji73)).f1) ((rd_T53 l0_1 x55_3).f0) ((rd_T53 l0_1 x55_3).f1) t175 _ A76.out).mono ?_
                   rintro e w79 ⟨rfl, hb⟩
                   refine ⟨_, rfl, ?_⟩
                   have n0_ := Aside0.mk (blk_below (g := gb164) (o := .cells #[.slice A0_0 l0_0.length c0_0, .slice (some ad170) l0_1.length c0_1] 31 (0, 0)) (by (with_reducible repeat (first | refine blk_drewN ?_ _ | refine blk_drew ?_ | refine blk_alloc ?_ _)); exact BK164.out) hb)
                   have n1_ := Aside0.mk (blk_below (g := gb171) (o := .cells #[.int .i64 ((rd_T53 l0_1 x55_3).f0), .int .i64 ((rd_T53 l0_1 x55_3).f1)] 53 (0, 0)) (by (with_reducible repeat (first | refine blk_drewN ?_ _ | refine blk_drew ?_ | refine blk_alloc ?_ _)); exact BK171.out) hb)
                   have n2_ := Aside0.mk (below_step (by repeat (first | (with_reducible first | exact HB.out | apply below_alloc | apply pw_below_drewN | apply below_drew1 | refine below_set ?_ GE164.out | refine below_set ?_ GE171.out) | exact HB.out)) hb)
                   clear BK164
                   clear BK171
                   clear HB
                   have BK164 := n0_
                   have BK171 := n1_
                   have HB := n2_
                   clear n0_ n1_ n2_
                   (try clear hb)
                   (try clear hb2)
                   (try clear hk)
                   (try clear hi)
                   refine hK.out _ _ ⟨(blk_cell BK164.out 0).trans rfl, (blk_cell BK164.out 1).trans rfl, (blk_cell BK171.out 0).trans rfl, (blk_cell BK171.out 1).trans rfl, ((HB.out.cell (World.block_lt_of_cell? w _ hw174_0)).trans hw174_0), ((HB.out.cell (World.block_lt_of_cell? w _ hw174_1)).trans hw174_1)⟩ (fun hHeld => ?_)
                   clear hK K
                   refine norm_ (a' := ?_) ?_ ?_
                   rotate_left
                   ·show Act.put _ (some 89) _ = _
                    simp only [Act.put, List.setIfInBounds_toArray, List.set_cons_zero, List.set_cons_succ, i64_w, i32_w]
                    rfl
                   refine pA_ 11 (some 90) (bl 12 13) HT_.out (h := ?_)
                   refine pA_ 12 (some 91) (bl 13 13) HT_.out (h := ?_)
                   refine done_ (done_of HT_.out (by kernel_rfl)) ?_
                   try go_wp2
                   go_ret
                   exact ⟨by first | rfl | (simp [errW_none, errW_some] <;> rfl) | (simp only [← hji73]; first | rfl | (simp [errW_none, errW_some] <;> rfl)) | (simp [*, errW_none, errW_some] <;> rfl), by repeat (first | (with_reducible first | exact HB.out | apply below_alloc | apply pw_below_drewN | apply below_drew1 | refine below_set ?_ GE164.out | refine below_set ?_ GE171.out) | exact HB.out)⟩
                  ·rw [if_neg c77] at H
                   have c77b0 : decide (0 ≤ t175) = false := decide_eq_false c77
                   clear c77
                   have H' := Aside0.mk H
                   clear H
                   try go_wp2
                   have n0_ := Aside0.mk (blk_drew BK164.out)
                   have n1_ := Aside0.mk (blk_drew BK171.out)
                   have n2_ := Aside0.mk (below_drew1 HB.out)
                   clear BK164
                   clear BK171
                   clear HB
                   have BK164 := n0_
                   have BK171 := n1_
                   have HB := n2_
                   clear n0_ n1_ n2_
                   have p174 : 0 ≤ ((ji73) : Int) := of_decide_eq_true (by first | (with_reducible assumption) | assumption)
                   have q174 : (ji73) < (l0_1.length : Int) := of_decide_eq_true (by first | (with_reducible assumption) | assumption)
                   obtain ⟨ad174, e174, hx174_0, hx174_1⟩ := at_T53 HR0_1.out (ji73) p174 q174
                   have hw174_1 := hx174_1
                   have hw174_0 := hx174_0
                   obtain rfl : ad170 = ad174 := (by injection e174)
                   replace hx174_0 := (HB.out.cell (World.block_lt_of_cell? w _ hx174_0)).trans hx174_0
                   replace hx174_1 := (HB.out.cell (World.block_lt_of_cell? w _ hx174_1)).trans hx174_1
                   replace p174 := eq_true p174
                   replace q174 := eq_true q174
                   refine start_ (n := 13) (S := fun w' => w'.cell? ⟨gb164, 0, none⟩ = some (.slice A0_0 l0_0.length c0_0) ∧ w'.cell? ⟨gb164, 1, none⟩ = some (.slice (some ad170) l0_1.length c0_1) ∧ w'.cell? ⟨gb171, 0, none⟩ = some (.int .i64 ((rd_T53 l0_1 x55_3).f0)) ∧ w'.cell? ⟨gb171, 1, none⟩ = some (.int .i64 ((rd_T53 l0_1 x55_3).f1)) ∧ w'.cell? (ad170.add (((ji73)).toNat * 2)) = some (.int .i64 ((rd_T53 l0_1 (ji73)).f0)) ∧ w'.cell? ⟨(ad170.add (((ji73)).toNat * 2)).block, (ad170.add (((ji73)).toNat * 2)).off + 1, none⟩ = some (.int .i64 ((rd_T53 l0_1 (ji73)).f1))) (ds := []) #[false, false, false, false, false, false, false, false, false, false, false, false, false] (by kernel_rfl) rfl rfl ⟨(blk_cell BK164.out 0).trans rfl, (blk_cell BK164.out 1).trans rfl, (blk_cell BK171.out 0).trans rfl, (blk_cell BK171.out 1).trans rfl, ((HB.out.cell (World.block_lt_of_cell? w _ hw174_0)).trans hw174_0), ((HB.out.cell (World.block_lt_of_cell? w _ hw174_1)).trans hw174_1)⟩ (fun hHeld => ?_); refine with_tabW impl_IsValidRecord.tab14 impl_IsValidRecord.bits14 (fun HT_ HW_ => ?_)
                   generalize wc.drew = w80 at BK164 BK171 HB hx174_0 hx174_1 hHeld ⊢
                   refine pA_ 0 (some 79) (bl 1 13) HT_.out (h := ?_)
                   refine pA_ 1 (some 80) (bl 2 13) HT_.out (h := ?_)
                   refine pA_ 2 (some 81) (bl 3 13) HT_.out (h := ?_)
                   refine pA_ 3 (some 82) (bl 4 13) HT_.out (h := ?_)
                   refine pA_ 5 (some 84) #[true, true, true, true, false, true, false, false, false, false, false, false, false] HT_.out (h := ?_)
                   refine pA_ 6 (some 85) #[true, true, true, true, false, true, true, false, false, false, false, false, false] HT_.out (h := ?_)
                   refine tA_ 4 (some 83) (bl 7 13) HT_.out HW_.out hHeld (h := ?_)
                   refine pA_ 7 (some 86) (bl 8 13) HT_.out (h := ?_)
                   refine tA_ 8 (some 87) (bl 9 13) HT_.out HW_.out hHeld (h := ?_)
                   refine tA_ 9 (some 88) (bl 10 13) HT_.out HW_.out hHeld (h := ?_)
                   refine one_ (i := 10) (N := some 89) (bl 11 13) rfl rfl (one_of HT_.out (by kernel_rfl)) (by decide) (fun K hK => ?_)
                   refine goes_ Try.func60 (by kernel_rfl) rfl #[.agg #[.int .i64 ((rd_T53 l0_1 (ji73)).f0), .int .i64 ((rd_T53 l0_1 (ji73)).f1)], .agg #[.int .i64 ((rd_T53 l0_1 x55_3).f0), .int .i64 ((rd_T53 l0_1 x55_3).f1)]] (by rfl) rfl rfl (by (try simp only [List.map_toArray, List.map_cons, List.map_nil]); first | done | (simp only [hji73]; rfl) | rfl | (simp only [List.length_drop, List.length_take]; rfl)) ?_
                   with_reducible refine (impl_compareRelations.calls kj49 ((rd_T53 l0_1 (ji73)).f0) ((rd_T53 l0_1 (ji73)).f1) ((rd_T53 l0_1 x55_3).f0) ((rd_T53 l0_1 x55_3).f1) t175 _ A76.out).mono ?_
                   rintro e w81 ⟨rfl, hb⟩
                   refine ⟨_, rfl, ?_⟩
                   have n0_ := Aside0.mk (blk_below (g := gb164) (o := .cells #[.slice A0_0 l0_0.length c0_0, .slice (some ad170) l0_1.length c0_1] 31 (0, 0)) (by (with_reducible repeat (first | refine blk_drewN ?_ _ | refine blk_drew ?_ | refine blk_alloc ?_ _)); exact BK164.out) hb)
                   have n1_ := Aside0.mk (blk_below (g := gb171) (o := .cells #[.int .i64 ((rd_T53 l0_1 x55_3).f0), .int .i64 ((rd_T53 l0_1 x55_3).f1)] 53 (0, 0)) (by (with_reducible repeat (first | refine blk_drewN ?_ _ | refine blk_drew ?_ | refine blk_alloc ?_ _)); exact BK171.out) hb)
                   have n2_ := Aside0.mk (below_step (by repeat (first | (with_reducible first | exact HB.out | apply below_alloc | apply pw_below_drewN | apply below_drew1 | refine below_set ?_ GE164.out | refine below_set ?_ GE171.out) | exact HB.out)) hb)
                   clear BK164
                   clear BK171
                   clear HB
                   have BK164 := n0_
                   have BK171 := n1_
                   have HB := n2_
                   clear n0_ n1_ n2_
                   (try clear hb)
                   (try clear hb2)
                   (try clear hk)
                   (try clear hi)
                   refine hK.out _ _ ⟨(blk_cell BK164.out 0).trans rfl, (blk_cell BK164.out 1).trans rfl, (blk_cell BK171.out 0).trans rfl, (blk_cell BK171.out 1).trans rfl, ((HB.out.cell (World.block_lt_of_cell? w _ hw174_0)).trans hw174_0), ((HB.out.cell (World.block_lt_of_cell? w _ hw174_1)).trans hw174_1)⟩ (fun hHeld => ?_)
                   clear hK K
                   refine norm_ (a' := ?_) ?_ ?_
                   rotate_left
                   ·show Act.put _ (some 89) _ = _
                    simp only [Act.put, List.setIfInBounds_toArray, List.set_cons_zero, List.set_cons_succ, i64_w, i32_w]
                    rfl
                   refine pA_ 11 (some 90) (bl 12 13) HT_.out (h := ?_)
                   refine pA_ 12 (some 91) (bl 13 13) HT_.out (h := ?_)
                   refine done_ (done_of HT_.out (by kernel_rfl)) ?_
                   try go_wp2
                   go_roundg kj49
                   case measure => have := HJ1.out; have := HK2.out; have := HK3.out; have := HJ49.out; omega
                   case rel => exact ⟨(wrap64 (x55_3 + 1)), (by first | rfl | (simp; done) | (simp [*]; done)), H', ⟨by have := HJ1.out; have := HK2.out; have := HK3.out; have := HJ49.out; omega⟩, ⟨by (with_reducible repeat (first | refine blk_drewN ?_ _ | refine blk_drew ?_ | refine blk_alloc ?_ _)); exact BK164.out⟩, ⟨by repeat (first | (with_reducible first | exact HB.out | apply below_alloc | apply pw_below_drewN | apply below_drew1 | refine below_set ?_ GE164.out | refine below_set ?_ GE171.out) | exact HB.out)⟩⟩
                 ·rw [if_neg c75] at H
                  exact absurd H (by simp)
                ·rw [if_neg c74] at H
                 exact absurd H (by simp)
               ·rw [if_neg c72] at H
                have c72b0 : decide (0 < x55_3) = false := decide_eq_false c72
                clear c72
                have H' := Aside0.mk H
                clear H
                try go_wp2
                have n0_ := Aside0.mk (blk_drew BK164.out)
                have n1_ := Aside0.mk (blk_drew BK171.out)
                have n2_ := Aside0.mk (below_drew1 HB.out)
                clear BK164
                clear BK171
                clear HB
                have BK164 := n0_
                have BK171 := n1_
                have HB := n2_
                clear n0_ n1_ n2_
                refine start_ (n := 13) (S := fun w' => True) (ds := []) #[false, false, false, false, false, false, false, false, false, false, false, false, false] (by kernel_rfl) rfl rfl trivial (fun hHeld => ?_); refine with_tabW impl_IsValidRecord.tab14 impl_IsValidRecord.bits14 (fun HT_ HW_ => ?_)
                generalize wc.drew = w82 at BK164 BK171 HB hHeld ⊢
                refine pA_ 0 (some 79) (bl 1 13) HT_.out (h := ?_)
                refine pA_ 1 (some 80) (bl 2 13) HT_.out (h := ?_)
                refine pA_ 2 (some 81) (bl 3 13) HT_.out (h := ?_)
                refine pO_ 3 (some 82) (bl 4 13) HT_.out (h := ?_)
                refine pO_ 4 (some 83) (bl 5 13) HT_.out (h := ?_)
                refine pO_ 5 (some 84) (bl 6 13) HT_.out (h := ?_)
                refine pO_ 6 (some 85) (bl 7 13) HT_.out (h := ?_)
                refine pO_ 7 (some 86) (bl 8 13) HT_.out (h := ?_)
                refine pO_ 8 (some 87) (bl 9 13) HT_.out (h := ?_)
                refine pO_ 9 (some 88) (bl 10 13) HT_.out (h := ?_)
                refine pO_ 10 (some 89) (bl 11 13) HT_.out (h := ?_)
                refine pO_ 11 (some 90) (bl 12 13) HT_.out (h := ?_)
                refine pA_ 12 (some 91) (bl 13 13) HT_.out (h := ?_)
                refine done_ (done_of HT_.out (by kernel_rfl)) ?_
                try go_wp2
                go_roundg kj49
                case measure => have := HJ1.out; have := HK2.out; have := HK3.out; have := HJ49.out; omega
                case rel => exact ⟨(wrap64 (x55_3 + 1)), (by first | rfl | (simp; done) | (simp [*]; done)), H', ⟨by have := HJ1.out; have := HK2.out; have := HK3.out; have := HJ49.out; omega⟩, ⟨by (with_reducible repeat (first | refine blk_drewN ?_ _ | refine blk_drew ?_ | refine blk_alloc ?_ _)); exact BK164.out⟩, ⟨by repeat (first | (with_reducible first | exact HB.out | apply below_alloc | apply pw_below_drewN | apply below_drew1 | refine below_set ?_ GE164.out | refine below_set ?_ GE171.out) | exact HB.out)⟩⟩
           ·rw [if_neg c49] at H
            exact absurd H (by simp)
          ·rw [if_neg c48] at H
           exact absurd H (by simp)
         ·rw [if_neg c47] at H
          have c47b0 : decide (x55_3 < (l0_1.length : Int)) = false := decide_eq_false c47
          clear c47
          obtain rfl := Option.some.inj H
          go_wp2
          go_ret
          exact ⟨by first | rfl | (simp [errW_none, errW_some] <;> rfl) | (simp [*, errW_none, errW_some] <;> rfl), by repeat (first | (with_reducible first | exact HB.out | apply below_alloc | apply pw_below_drewN | apply below_drew1 | refine below_set ?_ GE164.out) | exact HB.out)⟩

end Go.Proofs.Ytojdchmkhhpmiaa.Q

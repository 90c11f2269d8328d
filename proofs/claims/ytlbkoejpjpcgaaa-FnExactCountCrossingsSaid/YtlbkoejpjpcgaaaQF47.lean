-- Written by a program of this session (wip/xprint.py over the kit's printer).
import Derived.Test.YtlbkoejpjpcgaaaQ0
import Derived.Test.YtlbkoejpjpcgaaaQF88
import Derived.Test.YtlbkoejpjpcgaaaQF90
import Derived.Test.YtlbkoejpjpcgaaaQF91
namespace Go.Proofs.Ytlbkoejpjpcgaaa.Q
open Go.RowKit Go.Proofs.YtlbkoejpjpcgaaaW.PrintWords Go.Proofs.YtlbkoejpjpcgaaaW.PrintLast
set_option linter.unusedVariables false
set_option linter.unusedSimpArgs false

/-! ### spec_l5Links: function 47 -/
def spec_l5Links.l0 : Nat → List Int → List (S100) → Int → List (S108) → List (S100) → Option ((List (S100)))
 | 0, _, _, _, _, _ => none
 | k + 1, x3, x4, x5, x152000, x152001 => if x5 < (x152001.length : Int) then (if 0 ≤ x5 then ((spec_l2Find.f x152000 x152001 ((rd_T100 x152001 x5).f1)).bind fun t160 => (if 0 ≤ t160 then (if t160 < (x3.length : Int) then ((spec_l2Find.f x152000 x152001 ((rd_T100 x152001 x5).f0)).bind fun t162 => (if 0 ≤ t162 then (if t162 < (x3.length : Int) then (if (rd x3 t160) = (wrap64 ((rd x3 t162) + 1)) then ((spec_l5Redundant.f k x152000 x152001 ((rd_T100 x152001 x5).f0) ((rd_T100 x152001 x5).f1)).bind fun t164 => (if t164 = true then (spec_l5Links.l0 k x3 x4 (wrap64 (x5 + 1)) x152000 x152001) else (if x4.length < 8796093022208 then (spec_l5Links.l0 k x3 (x4 ++ [(⟨(rd_T100 x152001 x5).f0, (rd_T100 x152001 x5).f1⟩ : S100)]) (wrap64 (x5 + 1)) x152000 x152001) else (none)))) else (spec_l5Links.l0 k x3 x4 (wrap64 (x5 + 1)) x152000 x152001)) else (none)) else (none))) else (none)) else (none))) else (none)) else (some x4)
def spec_l5Links.f (k : Nat) (l0_0 : List (S108)) (l0_1 : List (S100)) : Option ((List (S100))) := (spec_l5Depths.f k l0_0 l0_1).bind fun t152 => (spec_l5Links.l0 k t152 (([] : List (S100))) 0 l0_0 l0_1)
theorem spec_l5Links.mono_l : ∀ k, (∀ y0 y1 y2 y3 y4, LeO (spec_l5Links.l0 k y0 y1 y2 y3 y4) (spec_l5Links.l0 (k + 1) y0 y1 y2 y3 y4))
 | 0 => fun _ _ _ _ _ r h => by simp [spec_l5Links.l0] at h
 | k + 1 => by
  have ih0 := spec_l5Links.mono_l k
  ·intro y0 y1 y2 y3 y4
   unfold spec_l5Links.l0
   repeat' first
   | (with_reducible exact ih0 _ _ _ _ _)
   | (with_reducible exact spec_l5Depths.mono _ _ _)
   | (with_reducible exact spec_l5Redundant.mono _ _ _ _ _)
   | (with_reducible exact LeO.refl _)
   | (with_reducible exact LeO.none _)
   | (with_reducible refine LeO.ite ?_ ?_)
   | (with_reducible refine LeO.bind ?_ (fun _ => ?_))
   | exact ih0 _ _ _ _ _
   | exact spec_l5Depths.mono _ _ _
   | exact spec_l5Redundant.mono _ _ _ _ _
   | exact LeO.none _
   | refine LeO.ite ?_ ?_
   | refine LeO.bind ?_ (fun _ => ?_)
theorem spec_l5Links.mono : ∀ a0 a1 k, LeO (spec_l5Links.f k a0 a1) (spec_l5Links.f (k + 1) a0 a1) := by
 intro a0 a1 k
 have ih0 := spec_l5Links.mono_l k
 unfold spec_l5Links.f
 repeat' first
   | (with_reducible exact ih0 _ _ _ _ _)
   | (with_reducible exact spec_l5Depths.mono _ _ _)
   | (with_reducible exact spec_l5Redundant.mono _ _ _ _ _)
   | (with_reducible exact LeO.refl _)
   | (with_reducible exact LeO.none _)
   | (with_reducible refine LeO.ite ?_ ?_)
   | (with_reducible refine LeO.bind ?_ (fun _ => ?_))
   | exact ih0 _ _ _ _ _
   | exact spec_l5Depths.mono _ _ _
   | exact spec_l5Redundant.mono _ _ _ _ _
   | exact LeO.none _
   | refine LeO.ite ?_ ?_
   | refine LeO.bind ?_ (fun _ => ?_)
def spec_l5Links.T7 : Bool × List (List Nat × List Nat) := (true, [([], []), ([], []), ([], []), ([2], [2]), ([1, 3], [1, 3]), ([0, 4], [0, 4]), ([5], [5]), ([], []), ([], []), ([], []), ([9], [9]), ([8, 10, 4], [8, 10]), ([7, 11], [7, 11]), ([12], [12]), ([13], [13]), ([6, 14], [6, 14]), ([15, 11], [15]), ([16], [16]), ([16], [16]), ([17, 18, 16, 16], [16, 17, 18]), ([19, 16], [16, 19]), ([16, 20], [16, 20])])
def spec_l5Links.B7 : List Nat := [0, 0, 0, 4, 14, 31, 63, 0, 0, 0, 512, 1822, 3998, 8094, 16286, 32767, 65535, 131071, 131071, 524287, 1048575, 2097151]
theorem spec_l5Links.tab7 : rtab .any (opsOf Try.f47 7) = spec_l5Links.T7 := by kernel_rfl
theorem spec_l5Links.bits7 : waitsOk spec_l5Links.T7.2 spec_l5Links.B7 = true := by kernel_rfl
set_option maxHeartbeats 8000000 in
set_option maxRecDepth 100000 in
theorem spec_l5Links.calls (k : Nat) (A0_0 : Option Addr) (c0_0 : Nat) (l0_0 : List (S108)) (A0_1 : Option Addr) (c0_1 : Nat) (l0_1 : List (S100)) (r : List (S100)) (w : World) (hr0_0 : Kd.C k108 w A0_0 l0_0.length l0_0) (hc0_0 : l0_0.length ≤ c0_0) (hr0_1 : Kd.C k100 w A0_1 l0_1.length l0_1) (hc0_1 : l0_1.length ≤ c0_1) (h : spec_l5Links.f k l0_0 l0_1 = some r) :
  Calls Try.prog 47 #[.agg #[.slice A0_0 l0_0.length c0_0, .slice A0_1 l0_1.length c0_1]] w fun e w' => ∃ v0_ : Value, e = .returned (v0_) ∧ Kd.R k100 100 w' w.heap.size (fun _ => True) v0_ r ∧ Below w.heap.size w w' := by
 have hu33 := Try.underlying33
 have hu100 := Try.underlying100
 have HR0_0 := Aside0.mk hr0_0
 have HC0_0 := Aside0.mk hc0_0
 clear hr0_0 hc0_0
 have HR0_1 := Aside0.mk hr0_1
 have HC0_1 := Aside0.mk hc0_1
 clear hr0_1 hc0_1
 have HB := Aside0.mk (Below.refl w.heap.size w)
 have H : ((spec_l5Depths.f k l0_0 l0_1).bind fun t152 => (spec_l5Links.l0 k t152 (([] : List (S100))) 0 l0_0 l0_1)) = some r := h
 clear h
 replace H := Option.bind_eq_some_iff.mp H
 obtain ⟨t152, A20, H⟩ := H
 replace H : (spec_l5Links.l0 k t152 (([] : List (S100))) 0 l0_0 l0_1) = some r := H
 have A2 := Aside0.mk A20
 clear A20
 obtain ⟨y155, hy155⟩ : ∃ y_ : List (S100), y_ = (([] : List (S100))) := ⟨_, rfl⟩
 replace H : (spec_l5Links.l0 k t152 y155 0 l0_0 l0_1) = some r := by first | (rw [hy155]; with_reducible exact H) | (have H2_ := (Option.bind_some _ _).symm.trans H; rw [hy155]; with_reducible exact H2_) | (have H2_ := (Option.bind_some _ _).symm.trans H; with_reducible exact H2_) | with_reducible exact H | (rw [hy155]; exact H) | exact H
 have Ny155 := Aside0.mk hy155
 clear hy155
 have H' := Aside0.mk H
 clear H
 go_enter Try.func47, Try.ntmps47
 go_wp2_with (first | ((with_reducible refine gate_dst (N := 1) rfl ?_); refine box_event ?hg (N := 1) ?hd (cs := #[.slice A0_0 l0_0.length c0_0, .slice A0_1 l0_1.length c0_1]) (t := 33) ?hr ?_; (case hd => rfl); (case hg => rfl); (case hr => first | (go_simp; done) | (go_simp; rfl)); intro gb151 hg w3 hbox hb; have n0_ := Aside0.mk (below_step (wz_ HB.out) hb); have n1_ := Aside0.mk (hbox); have n2_ := Aside0.mk ((by rw [hg]; exact (below_size (wz_ HB.out)) : w.heap.size ≤ gb151)); have n3_ := Aside0.mk ((by rw [hg]; exact (below_size (wz_ HB.out)) : w.heap.size ≤ gb151)); clear HB; have HB := n0_; have BK151 := n1_; have GW151 := n2_; have GE151 := n3_; clear n0_ n1_ n2_ n3_; clear hb hbox hg; have hcz4_0 : w3.cell? ⟨gb151, 0, none⟩ = some (.slice A0_0 l0_0.length c0_0) := (blk_cell BK151.out 0).trans rfl; have hcz4_1 : w3.cell? ⟨gb151, 1, none⟩ = some (.slice A0_1 l0_1.length c0_1) := (blk_cell BK151.out 1).trans rfl; have hfz4_0 := blk_frozen BK151.out 0; have hfz4_1 := blk_frozen BK151.out 1) | ((with_reducible refine gate_callee (f := 88) rfl ?_); refine goesL_ (some 8) rfl rfl Try.func88 (by kernel_rfl) rfl #[.agg #[.slice A0_0 l0_0.length c0_0, .slice A0_1 l0_1.length c0_1]] rfl (by (try simp only [List.map_toArray, List.map_cons, List.map_nil]); first | done | rfl | (simp only [List.length_drop, List.length_take]; rfl)) ?_; (with_reducible refine (spec_l5Depths.calls k _ _ l0_0 _ _ l0_1 t152 _ ?side1 ?side2 ?side3 ?side4 A2.out).mono ?_); (case side1 => exact cz_ (Kd.C_below HR0_0.out HB.out)); (case side2 => exact HC0_0.out); (case side3 => exact cz_ (Kd.C_below HR0_1.out HB.out)); (case side4 => exact HC0_1.out); rintro e w5 ⟨v153, rfl, ho0, hb⟩; refine ⟨_, rfl, ?_⟩; obtain ⟨Aq_, cq_, eq_⟩ := Kd.R_slice ho0; subst eq_; have n0_ := Aside0.mk (Kd.R_lower ho0 (below_size (by repeat (first | (with_reducible first | exact HB.out | apply below_alloc | apply pw_below_drewN | apply below_drew1 | refine below_set ?_ GE151.out) | exact HB.out)))); have n1_ := Aside0.mk (blk_below (bz_ BK151.out) hb); have n2_ := Aside0.mk (below_step (by repeat (first | (with_reducible first | exact HB.out | apply below_alloc | apply pw_below_drewN | apply below_drew1 | refine below_set ?_ GE151.out) | exact HB.out)) hb); clear BK151; clear HB; have HO154 := n0_; have BK151 := n1_; have HB := n2_; clear n0_ n1_ n2_; (try clear hb); (try clear hb2); (try clear hk); (try clear hi); (try clear ho0)) | ((with_reducible refine gate_dst (N := 9) rfl ?_); refine Kd.R_lit k100 _ 100 ?hg (N := 9) ?hd (xs := ([] : List (S100))) (inner := []) (ok := fun _ => True) (okp := fun _ => True) ?hr ?hp (fun _ hk => hk) trivial (Below.refl _ _) (Nat.le_refl _) (by simp) ?_; (case hd => rfl); (case hg => rfl); (case hr => first | (go_simp; done) | (go_simp; rfl)); (case hp => exact (Reps.none _ _)); intro v156 w6 ho7 hb hg_ hnew_; clear hg_ hnew_; (first | rw [← Ny155.out] at ho7 | (simp only [Int.reduceToNat] at ho7; rw [← Ny155.out] at ho7)); have n0_ := Aside0.mk (Kd.R_below (rz_ HO154.out) hb); have n1_ := Aside0.mk (Kd.R_lower ho7 (below_size (by repeat (first | (with_reducible first | exact HB.out | apply below_alloc | apply pw_below_drewN | apply below_drew1 | refine below_set ?_ GE151.out) | exact HB.out)))); have n2_ := Aside0.mk (blk_below (bz_ BK151.out) hb); have n3_ := Aside0.mk (below_step (by repeat (first | (with_reducible first | exact HB.out | apply below_alloc | apply pw_below_drewN | apply below_drew1 | refine below_set ?_ GE151.out) | exact HB.out)) hb); clear HO154; clear BK151; clear HB; have HO154 := n0_; have HO157 := n1_; have BK151 := n2_; have HB := n3_; clear n0_ n1_ n2_ n3_; clear hb ho7))
 go_loopg [4, 5] k (fun kq v4 v5 w' => ∃ (x4_1 : List (S100)) (x5_1 : Int), v5 = .int .i64 x5_1 ∧ Aside0 (spec_l5Links.l0 kq t152 x4_1 x5_1 l0_0 l0_1 = some r) ∧ Aside0 (kq ≤ k) ∧ Aside0 (Kd.R (Kd.int .i64) 3 w' w.heap.size (fun _ => True) (.slice Aq_ t152.length cq_ : Value) t152) ∧ Aside0 (Kd.R k100 100 w' w.heap.size (fun _ => True) v4 x4_1) ∧ Aside0 (w'.heap[gb151]? = some (.cells #[(.slice A0_0 l0_0.length c0_0), (.slice A0_1 l0_1.length c0_1)] 33 (0, 0))) ∧ Aside0 (Below w.heap.size w w'))
 case atStart => exact ⟨(y155), (0), (by first | rfl | (simp; done) | (simp [*]; done)), H', ⟨Nat.le_refl _⟩, ⟨rz_ HO154.out⟩, ⟨rz_ HO157.out⟩, ⟨bz_ BK151.out⟩, ⟨by repeat (first | (with_reducible first | exact HB.out | apply below_alloc | apply pw_below_drewN | apply below_drew1 | refine below_set ?_ GE151.out) | exact HB.out)⟩⟩
 case round =>
  clear H'
  try clear p2
  try clear c4
  try clear hcz4_0
  try clear hcz4_1
  try clear hfz4_0
  try clear hfz4_1
  obtain ⟨x4_1, x5_1, rfl, HA, HK1, HO_3, HO_4, BK151, HB⟩ := hrel
  cases gk with
  | zero => exact absurd HA.out (by simp [spec_l5Links.l0])
  | succ k1 =>
   have H := HA.out
   clear HA
   simp only [spec_l5Links.l0] at H
   by_cases c8 : x5_1 < (l0_1.length : Int)
   ·rw [if_pos c8] at H
    have c8b0 : decide (x5_1 < (l0_1.length : Int)) = true := decide_eq_true c8
    clear c8
    by_cases c9 : 0 ≤ x5_1
    ·rw [if_pos c9] at H
     have c9b0 : decide (0 ≤ x5_1) = true := decide_eq_true c9
     clear c9
     replace H := Option.bind_eq_some_iff.mp H
     obtain ⟨t160, A100, H⟩ := H
     replace H : (if 0 ≤ t160 then (if t160 < (t152.length : Int) then ((spec_l2Find.f l0_0 l0_1 ((rd_T100 l0_1 x5_1).f0)).bind fun t162 => (if 0 ≤ t162 then (if t162 < (t152.length : Int) then (if (rd t152 t160) = (wrap64 ((rd t152 t162) + 1)) then ((spec_l5Redundant.f k1 l0_0 l0_1 ((rd_T100 l0_1 x5_1).f0) ((rd_T100 l0_1 x5_1).f1)).bind fun t164 => (if t164 = true then (spec_l5Links.l0 k1 t152 x4_1 (wrap64 (x5_1 + 1)) l0_0 l0_1) else (if x4_1.length < 8796093022208 then (spec_l5Links.l0 k1 t152 (x4_1 ++ [(⟨(rd_T100 l0_1 x5_1).f0, (rd_T100 l0_1 x5_1).f1⟩ : S100)]) (wrap64 (x5_1 + 1)) l0_0 l0_1) else (none)))) else (spec_l5Links.l0 k1 t152 x4_1 (wrap64 (x5_1 + 1)) l0_0 l0_1)) else (none)) else (none))) else (none)) else (none)) = some r := H
     have A10 := Aside0.mk A100
     clear A100
     by_cases c11 : 0 ≤ t160
     ·rw [if_pos c11] at H
      have c11b0 : decide (0 ≤ t160) = true := decide_eq_true c11
      clear c11
      by_cases c12 : t160 < (t152.length : Int)
      ·rw [if_pos c12] at H
       have c12b0 : decide (t160 < (t152.length : Int)) = true := decide_eq_true c12
       clear c12
       replace H := Option.bind_eq_some_iff.mp H
       obtain ⟨t162, A130, H⟩ := H
       replace H : (if 0 ≤ t162 then (if t162 < (t152.length : Int) then (if (rd t152 t160) = (wrap64 ((rd t152 t162) + 1)) then ((spec_l5Redundant.f k1 l0_0 l0_1 ((rd_T100 l0_1 x5_1).f0) ((rd_T100 l0_1 x5_1).f1)).bind fun t164 => (if t164 = true then (spec_l5Links.l0 k1 t152 x4_1 (wrap64 (x5_1 + 1)) l0_0 l0_1) else (if x4_1.length < 8796093022208 then (spec_l5Links.l0 k1 t152 (x4_1 ++ [(⟨(rd_T100 l0_1 x5_1).f0, (rd_T100 l0_1 x5_1).f1⟩ : S100)]) (wrap64 (x5_1 + 1)) l0_0 l0_1) else (none)))) else (spec_l5Links.l0 k1 t152 x4_1 (wrap64 (x5_1 + 1)) l0_0 l0_1)) else (none)) else (none)) = some r := H
       have A13 := Aside0.mk A130
       clear A130
       by_cases c14 : 0 ≤ t162
       ·rw [if_pos c14] at H
        have c14b0 : decide (0 ≤ t162) = true := decide_eq_true c14
        clear c14
        by_cases c15 : t162 < (t152.length : Int)
        ·rw [if_pos c15] at H
         have c15b0 : decide (t162 < (t152.length : Int)) = true := decide_eq_true c15
         clear c15
         by_cases c16 : (rd t152 t160) = (wrap64 ((rd t152 t162) + 1))
         ·rw [if_pos c16] at H
          have c16b0 : ((rd t152 t160) == (wrap64 ((rd t152 t162) + 1))) = true := beq_iff_eq.mpr c16
          have c16b1 : ((rd t152 t160) != (wrap64 ((rd t152 t162) + 1))) = false := bne_eq_false_iff_eq.mpr c16
          clear c16
          replace H := Option.bind_eq_some_iff.mp H
          obtain ⟨t164, A170, H⟩ := H
          replace H : (if t164 = true then (spec_l5Links.l0 k1 t152 x4_1 (wrap64 (x5_1 + 1)) l0_0 l0_1) else (if x4_1.length < 8796093022208 then (spec_l5Links.l0 k1 t152 (x4_1 ++ [(⟨(rd_T100 l0_1 x5_1).f0, (rd_T100 l0_1 x5_1).f1⟩ : S100)]) (wrap64 (x5_1 + 1)) l0_0 l0_1) else (none))) = some r := H
          have A17 := Aside0.mk A170
          clear A170
          by_cases c18 : t164 = true
          ·subst c18
           have H1 : (spec_l5Links.l0 k1 t152 x4_1 (wrap64 (x5_1 + 1)) l0_0 l0_1) = some r := by rw [if_pos rfl] at H; exact H
           clear H
           have H := H1
           clear H1
           have H' := Aside0.mk H
           clear H
           have hcz19_0 : wr.cell? ⟨gb151, 0, none⟩ = some (.slice A0_0 l0_0.length c0_0) := (blk_cell BK151.out 0).trans rfl
           have hcz19_1 : wr.cell? ⟨gb151, 1, none⟩ = some (.slice A0_1 l0_1.length c0_1) := (blk_cell BK151.out 1).trans rfl
           have hfz19_0 := blk_frozen BK151.out 0
           have hfz19_1 := blk_frozen BK151.out 1
           have p158 : 0 ≤ (x5_1 : Int) := od_
           have q158 : x5_1 < (l0_1.length : Int) := od_
           obtain ⟨ad158, e158, hx158_0, hx158_1⟩ := at_T100 HR0_1.out x5_1 p158 q158
           cases e158
           replace hx158_0 := lc_ HB.out hx158_0
           replace hx158_1 := lc_ HB.out hx158_1
           replace p158 := eq_true p158
           replace q158 := eq_true q158
           try go_wp2_with (first | ((with_reducible refine gate_dst (N := 6) rfl ?_); refine box_event ?hg (N := 6) ?hd (cs := #[.int .i64 0, .int .i64 0]) (t := 100) ?hr ?_; (case hd => rfl); (case hg => rfl); (case hr => first | (go_simp; done) | (go_simp; rfl)); intro gb159 hg w20 hbox hb; have n0_ := Aside0.mk (Kd.R_below (rz_ HO_3.out) hb); have n1_ := Aside0.mk (Kd.R_below (Kd.R_elderB (rz_ HO_4.out) gb159 (Nat.le_of_eq hg.symm)) hb); have n2_ := Aside0.mk (blk_below (bz_ BK151.out) hb); have n3_ := Aside0.mk (below_step (by repeat (first | (with_reducible first | exact HB.out | apply below_alloc | apply pw_below_drewN | apply below_drew1 | refine below_set ?_ GE151.out) | exact HB.out)) hb); have n4_ := Aside0.mk (hbox); have n5_ := Aside0.mk ((by rw [hg]; exact (below_size (by repeat (first | (with_reducible first | exact HB.out | apply below_alloc | apply pw_below_drewN | apply below_drew1 | refine below_set ?_ GE151.out) | exact HB.out))) : w.heap.size ≤ gb159)); have n6_ := Aside0.mk ((by rw [hg]; exact (below_size (by repeat (first | (with_reducible first | exact HB.out | apply below_alloc | apply pw_below_drewN | apply below_drew1 | refine below_set ?_ GE151.out) | exact HB.out))) : w.heap.size ≤ gb159)); have n7_ := Aside0.mk ((by rw [hg]; exact Nat.ne_of_lt (blk_lt (g := gb151) (o := .cells #[.slice A0_0 l0_0.length c0_0, .slice (some ad158) l0_1.length c0_1] 33 (0, 0)) (bz_ BK151.out)) : gb151 ≠ gb159)); have n8_ := Aside0.mk ((by rw [hg]; exact Nat.ne_of_gt (blk_lt (g := gb151) (o := .cells #[.slice A0_0 l0_0.length c0_0, .slice (some ad158) l0_1.length c0_1] 33 (0, 0)) (bz_ BK151.out)) : gb159 ≠ gb151)); clear HO_3; clear HO_4; clear BK151; clear HB; have HO_3 := n0_; have HO_4 := n1_; have BK151 := n2_; have HB := n3_; have BK159 := n4_; have GW159 := n5_; have GE159 := n6_; have NB151_159 := n7_; have NB159_151 := n8_; clear n0_ n1_ n2_ n3_ n4_ n5_ n6_ n7_ n8_; clear hb hbox hg; have hnb21 := NB159_151.out; have hnc21 := NB151_159.out; have hcz22_0 : w20.cell? ⟨gb159, 0, none⟩ = some (.int .i64 0) := (blk_cell BK159.out 0).trans rfl; have hcz22_1 : w20.cell? ⟨gb159, 1, none⟩ = some (.int .i64 0) := (blk_cell BK159.out 1).trans rfl; have hfz22_0 := blk_frozen BK159.out 0; have hfz22_1 := blk_frozen BK159.out 1))
           have n0_ : Aside0 (Kd.R (Kd.int .i64) 3 ((w20.setCell ⟨gb159, 0, none⟩ (.int .i64 ((rd_T100 l0_1 x5_1).f0))).setCell ⟨gb159, 1, none⟩ (.int .i64 ((rd_T100 l0_1 x5_1).f1))) w.heap.size (fun _ => True) (.slice Aq_ t152.length cq_ : Value) t152) := ⟨rz_ (Kd.R_mono (Kd.R_far (p := ⟨gb159, 1, none⟩) (Kd.R_far (p := ⟨gb159, 0, none⟩) (Kd.R_types HO_3.out BK159.out (by decide)) (fun _ hk => hk.2) (.int .i64 ((rd_T100 l0_1 x5_1).f0))) (fun _ hk => hk.2) (.int .i64 ((rd_T100 l0_1 x5_1).f1))) (fun _ hk => trivial))⟩
           have n1_ : Aside0 (Kd.R k100 100 ((w20.setCell ⟨gb159, 0, none⟩ (.int .i64 ((rd_T100 l0_1 x5_1).f0))).setCell ⟨gb159, 1, none⟩ (.int .i64 ((rd_T100 l0_1 x5_1).f1))) w.heap.size (fun k_ => k_ ≠ gb159) u4 x4_1) := ⟨rz_ (Kd.R_mono (Kd.R_far (p := ⟨gb159, 1, none⟩) (Kd.R_far (p := ⟨gb159, 0, none⟩) (Kd.R_mono HO_4.out (fun k_ hk => (⟨hk, hk.2⟩ : _ ∧ k_ ≠ gb159))) (fun _ hk => hk.2) (.int .i64 ((rd_T100 l0_1 x5_1).f0))) (fun _ hk => hk.2) (.int .i64 ((rd_T100 l0_1 x5_1).f1))) (fun _ hk => hk.1.2))⟩
           have n2_ : Aside0 (((w20.setCell ⟨gb159, 0, none⟩ (.int .i64 ((rd_T100 l0_1 x5_1).f0))).setCell ⟨gb159, 1, none⟩ (.int .i64 ((rd_T100 l0_1 x5_1).f1))).heap[gb151]? = some (.cells #[.slice A0_0 l0_0.length c0_0, .slice (some ad158) l0_1.length c0_1] 33 (0, 0))) := ⟨by (with_reducible repeat (first | refine blk_drewN ?_ _ | refine blk_drew ?_ | refine blk_alloc ?_ _)); refine blk_far ?_ NB151_159.out _; (with_reducible repeat (first | refine blk_drewN ?_ _ | refine blk_drew ?_ | refine blk_alloc ?_ _)); refine blk_far ?_ NB151_159.out _; (with_reducible repeat (first | refine blk_drewN ?_ _ | refine blk_drew ?_ | refine blk_alloc ?_ _)); exact BK151.out⟩
           have n3_ : Aside0 (((w20.setCell ⟨gb159, 0, none⟩ (.int .i64 ((rd_T100 l0_1 x5_1).f0))).setCell ⟨gb159, 1, none⟩ (.int .i64 ((rd_T100 l0_1 x5_1).f1))).heap[gb159]? = some (.cells #[.int .i64 ((rd_T100 l0_1 x5_1).f0), .int .i64 ((rd_T100 l0_1 x5_1).f1)] 100 (0, 0))) := ⟨by (with_reducible repeat (first | refine blk_drewN ?_ _ | refine blk_drew ?_ | refine blk_alloc ?_ _)); refine blk_put (cs := #[.int .i64 ((rd_T100 l0_1 x5_1).f0), .int .i64 0]) ?_ 1 _ rfl; (with_reducible repeat (first | refine blk_drewN ?_ _ | refine blk_drew ?_ | refine blk_alloc ?_ _)); refine blk_put (cs := #[.int .i64 0, .int .i64 0]) ?_ 0 _ rfl; (with_reducible repeat (first | refine blk_drewN ?_ _ | refine blk_drew ?_ | refine blk_alloc ?_ _)); exact BK159.out⟩
           have n4_ : Aside0 (Below w.heap.size w ((w20.setCell ⟨gb159, 0, none⟩ (.int .i64 ((rd_T100 l0_1 x5_1).f0))).setCell ⟨gb159, 1, none⟩ (.int .i64 ((rd_T100 l0_1 x5_1).f1)))) := ⟨by repeat (first | (with_reducible first | exact HB.out | apply below_alloc | apply pw_below_drewN | apply below_drew1 | refine below_set ?_ GE151.out | refine below_set ?_ GE159.out) | exact HB.out)⟩
           (try clear HO_3)
           (try clear HO_4)
           (try clear BK151)
           (try clear BK159)
           (try clear HB)
           generalize ((w20.setCell ⟨gb159, 0, none⟩ (.int .i64 ((rd_T100 l0_1 x5_1).f0))).setCell ⟨gb159, 1, none⟩ (.int .i64 ((rd_T100 l0_1 x5_1).f1))) = w23 at n0_ n1_ n2_ n3_ n4_ ⊢
           have HO_3 := n0_
           have HO_4 := n1_
           have BK151 := n2_
           have BK159 := n3_
           have HB := n4_
           clear n0_ n1_ n2_ n3_ n4_
           have n0_ := Aside0.mk (Kd.R_drew HO_3.out)
           have n1_ := Aside0.mk (Kd.R_drew HO_4.out)
           have n2_ := Aside0.mk (blk_drew BK151.out)
           have n3_ := Aside0.mk (blk_drew BK159.out)
           have n4_ := Aside0.mk (below_drew1 HB.out)
           clear HO_3
           clear HO_4
           clear BK151
           clear BK159
           clear HB
           have HO_3 := n0_
           have HO_4 := n1_
           have BK151 := n2_
           have BK159 := n3_
           have HB := n4_
           clear n0_ n1_ n2_ n3_ n4_
           have p161 : 0 ≤ (t160 : Int) := od_
           have q161 : t160 < (t152.length : Int) := od_
           obtain ⟨ad161, e161, hx161_0⟩ := Kd.at_int (Kd.R_reads' HO_3.out).2.2 t160 p161 q161
           cases e161
           replace p161 := eq_true p161
           replace q161 := eq_true q161
           have p163 : 0 ≤ (t162 : Int) := od_
           have q163 : t162 < (t152.length : Int) := od_
           obtain ⟨ad163, e163, hx163_0⟩ := Kd.at_int (Kd.R_reads' HO_3.out).2.2 t162 p163 q163
           obtain rfl : ad161 = ad163 := (by injection e163)
           replace p163 := eq_true p163
           replace q163 := eq_true q163
           refine start_ (n := 22) (S := fun w' => w'.cell? ⟨gb151, 0, none⟩ = some (.slice A0_0 l0_0.length c0_0) ∧ w'.cell? ⟨gb151, 1, none⟩ = some (.slice (some ad158) l0_1.length c0_1) ∧ w'.cell? ⟨gb159, 0, none⟩ = some (.int .i64 ((rd_T100 l0_1 x5_1).f0)) ∧ w'.cell? ⟨gb159, 1, none⟩ = some (.int .i64 ((rd_T100 l0_1 x5_1).f1)) ∧ w'.cell? (ad161.add (t160).toNat) = some (.int .i64 (rd t152 t160)) ∧ w'.cell? (ad161.add (t162).toNat) = some (.int .i64 (rd t152 t162))) (ds := []) #[false, false, false, false, false, false, false, false, false, false, false, false, false, false, false, false, false, false, false, false, false, false] (by kernel_rfl) rfl rfl ⟨(blk_cell BK151.out 0).trans rfl, (blk_cell BK151.out 1).trans rfl, (blk_cell BK159.out 0).trans rfl, (blk_cell BK159.out 1).trans rfl, hx161_0, hx163_0⟩ (fun hHeld => ?_); refine with_tabW spec_l5Links.tab7 spec_l5Links.bits7 (fun HT_ HW_ => ?_)
           generalize w23.drew = w24 at HO_3 HO_4 BK151 BK159 HB hx161_0 hx163_0 hHeld ⊢
           refine pA_ 0 (some 22) (bl 1 22) HT_.out (h := ?_)
           refine pA_ 2 (some 24) #[true, false, true, false, false, false, false, false, false, false, false, false, false, false, false, false, false, false, false, false, false, false] HT_.out (h := ?_)
           refine pA_ 7 (some 29) #[true, false, true, false, false, false, false, true, false, false, false, false, false, false, false, false, false, false, false, false, false, false] HT_.out (h := ?_)
           refine pA_ 9 (some 31) #[true, false, true, false, false, false, false, true, false, true, false, false, false, false, false, false, false, false, false, false, false, false] HT_.out (h := ?_)
           refine tA_ 1 (some 23) #[true, true, true, false, false, false, false, true, false, true, false, false, false, false, false, false, false, false, false, false, false, false] HT_.out HW_.out hHeld (h := ?_)
           refine tA_ 3 (some 25) #[true, true, true, true, false, false, false, true, false, true, false, false, false, false, false, false, false, false, false, false, false, false] HT_.out HW_.out hHeld (h := ?_)
           refine tA_ 8 (some 30) #[true, true, true, true, false, false, false, true, true, true, false, false, false, false, false, false, false, false, false, false, false, false] HT_.out HW_.out hHeld (h := ?_)
           refine tA_ 10 (some 32) #[true, true, true, true, false, false, false, true, true, true, true, false, false, false, false, false, false, false, false, false, false, false] HT_.out HW_.out hHeld (h := ?_)
           refine one_ (i := 4) (N := some 26) #[true, true, true, true, true, false, false, true, true, true, true, false, false, false, false, false, false, false, false, false, false, false] rfl rfl (one_of HT_.out (by kernel_rfl)) (by decide) (fun K hK => ?_)
           refine goes_ Try.func90 (by kernel_rfl) rfl #[.agg #[.slice A0_0 l0_0.length c0_0, .slice (some ad158) l0_1.length c0_1], .int .i64 ((rd_T100 l0_1 x5_1).f1)] (by rfl) rfl rfl (by (try simp only [List.map_toArray, List.map_cons, List.map_nil]); first | done | rfl | (simp only [List.length_drop, List.length_take]; rfl)) ?_
           with_reducible refine (spec_l2Find.calls _ _ l0_0 _ _ l0_1 ((rd_T100 l0_1 x5_1).f1) t160 _ ?side1 ?side2 ?side3 ?side4 A10.out).mono ?_
           (case side1 => exact cz_ (Kd.C_below HR0_0.out HB.out))
           (case side2 => exact HC0_0.out)
           (case side3 => exact cz_ (Kd.C_below HR0_1.out HB.out))
           (case side4 => exact HC0_1.out)
           rintro e w25 ⟨rfl, hb⟩
           have HS4_ := (hb.cell (World.block_lt_of_cell? _ _ (hHeld.2.2.2.2.1))).trans (hHeld.2.2.2.2.1)
           have HS5_ := (hb.cell (World.block_lt_of_cell? _ _ (hHeld.2.2.2.2.2))).trans (hHeld.2.2.2.2.2)
           refine ⟨_, rfl, ?_⟩
           have n0_ := Aside0.mk (Kd.R_below (rz_ HO_3.out) hb)
           have n1_ := Aside0.mk (Kd.R_below (rz_ HO_4.out) hb)
           have n2_ := Aside0.mk (blk_below (bz_ BK151.out) hb)
           have n3_ := Aside0.mk (blk_below (bz_ BK159.out) hb)
           have n4_ := Aside0.mk (below_step (by repeat (first | (with_reducible first | exact HB.out | apply below_alloc | apply pw_below_drewN | apply below_drew1 | refine below_set ?_ GE151.out | refine below_set ?_ GE159.out) | exact HB.out)) hb)
           clear HO_3
           clear HO_4
           clear BK151
           clear BK159
           clear HB
           have HO_3 := n0_
           have HO_4 := n1_
           have BK151 := n2_
           have BK159 := n3_
           have HB := n4_
           clear n0_ n1_ n2_ n3_ n4_
           (try clear hb)
           (try clear hb2)
           (try clear hk)
           (try clear hi)
           obtain ⟨Ao26, co26, eo26⟩ := Kd.R_slice HO_3.out
           (first | subst eo26 | (injection eo26 with f1_ f2_ f3_; have f4_ := f1_.symm; have f5_ := f3_.symm; clear f1_ f2_ f3_; subst f4_; subst f5_))
           refine hK.out _ _ ⟨(blk_cell BK151.out 0).trans rfl, (blk_cell BK151.out 1).trans rfl, (blk_cell BK159.out 0).trans rfl, (blk_cell BK159.out 1).trans rfl, HS4_, HS5_⟩ (fun hHeld => ?_)
           clear hK K
           refine norm_ (a' := ?_) ?_ ?_
           rotate_left
           ·show Act.put _ (some 26) _ = _
            simp only [Act.put, List.setIfInBounds_toArray, List.set_cons_zero, List.set_cons_succ, i64_w, i32_w]
            rfl
           refine pA_ 5 (some 27) #[true, true, true, true, true, true, false, true, true, true, true, false, false, false, false, false, false, false, false, false, false, false] HT_.out (h := ?_)
           refine tA_ 6 (some 28) (bl 11 22) HT_.out HW_.out hHeld (h := ?_)
           refine one_ (i := 11) (N := some 33) (bl 12 22) rfl rfl (one_of HT_.out (by kernel_rfl)) (by decide) (fun K hK => ?_)
           refine goes_ Try.func90 (by kernel_rfl) rfl #[.agg #[.slice A0_0 l0_0.length c0_0, .slice (some ad158) l0_1.length c0_1], .int .i64 ((rd_T100 l0_1 x5_1).f0)] (by rfl) rfl rfl (by (try simp only [List.map_toArray, List.map_cons, List.map_nil]); first | done | rfl | (simp only [List.length_drop, List.length_take]; rfl)) ?_
           with_reducible refine (spec_l2Find.calls _ _ l0_0 _ _ l0_1 ((rd_T100 l0_1 x5_1).f0) t162 _ ?side1 ?side2 ?side3 ?side4 A13.out).mono ?_
           (case side1 => exact cz_ (Kd.C_below HR0_0.out HB.out))
           (case side2 => exact HC0_0.out)
           (case side3 => exact cz_ (Kd.C_below HR0_1.out HB.out))
           (case side4 => exact HC0_1.out)
           rintro e w27 ⟨rfl, hb⟩
           have HS4_ := (hb.cell (World.block_lt_of_cell? _ _ (hHeld.2.2.2.2.1))).trans (hHeld.2.2.2.2.1)
           have HS5_ := (hb.cell (World.block_lt_of_cell? _ _ (hHeld.2.2.2.2.2))).trans (hHeld.2.2.2.2.2)
           refine ⟨_, rfl, ?_⟩
           have n0_ := Aside0.mk (Kd.R_below (rz_ HO_3.out) hb)
           have n1_ := Aside0.mk (Kd.R_below (rz_ HO_4.out) hb)
           have n2_ := Aside0.mk (blk_below (bz_ BK151.out) hb)
           have n3_ := Aside0.mk (blk_below (bz_ BK159.out) hb)
           have n4_ := Aside0.mk (below_step (by repeat (first | (with_reducible first | exact HB.out | apply below_alloc | apply pw_below_drewN | apply below_drew1 | refine below_set ?_ GE151.out | refine below_set ?_ GE159.out) | exact HB.out)) hb)
           clear HO_3
           clear HO_4
           clear BK151
           clear BK159
           clear HB
           have HO_3 := n0_
           have HO_4 := n1_
           have BK151 := n2_
           have BK159 := n3_
           have HB := n4_
           clear n0_ n1_ n2_ n3_ n4_
           (try clear hb)
           (try clear hb2)
           (try clear hk)
           (try clear hi)
           refine hK.out _ _ ⟨(blk_cell BK151.out 0).trans rfl, (blk_cell BK151.out 1).trans rfl, (blk_cell BK159.out 0).trans rfl, (blk_cell BK159.out 1).trans rfl, HS4_, HS5_⟩ (fun hHeld => ?_)
           clear hK K
           refine norm_ (a' := ?_) ?_ ?_
           rotate_left
           ·show Act.put _ (some 33) _ = _
            simp only [Act.put, List.setIfInBounds_toArray, List.set_cons_zero, List.set_cons_succ, i64_w, i32_w]
            rfl
           refine pA_ 12 (some 34) (bl 13 22) HT_.out (h := ?_)
           refine tA_ 13 (some 35) (bl 14 22) HT_.out HW_.out hHeld (h := ?_)
           refine pA_ 14 (some 36) (bl 15 22) HT_.out (h := ?_)
           refine pA_ 15 (some 37) (bl 16 22) HT_.out (h := ?_)
           refine pA_ 16 (some 38) (bl 17 22) HT_.out (h := ?_)
           refine tA_ 17 (some 39) (bl 18 22) HT_.out HW_.out hHeld (h := ?_)
           refine tA_ 18 (some 40) (bl 19 22) HT_.out HW_.out hHeld (h := ?_)
           refine one_ (i := 19) (N := some 41) (bl 20 22) rfl rfl (one_of HT_.out (by kernel_rfl)) (by decide) (fun K hK => ?_)
           refine goes_ Try.func91 (by kernel_rfl) rfl #[.agg #[.slice A0_0 l0_0.length c0_0, .slice (some ad158) l0_1.length c0_1], .agg #[.int .i64 ((rd_T100 l0_1 x5_1).f0), .int .i64 ((rd_T100 l0_1 x5_1).f1)]] (by rfl) rfl rfl (by (try simp only [List.map_toArray, List.map_cons, List.map_nil]); first | done | rfl | (simp only [List.length_drop, List.length_take]; rfl)) ?_
           with_reducible refine (spec_l5Redundant.calls k1 _ _ l0_0 _ _ l0_1 ((rd_T100 l0_1 x5_1).f0) ((rd_T100 l0_1 x5_1).f1) true _ ?side1 ?side2 ?side3 ?side4 A17.out).mono ?_
           (case side1 => exact cz_ (Kd.C_below HR0_0.out HB.out))
           (case side2 => exact HC0_0.out)
           (case side3 => exact cz_ (Kd.C_below HR0_1.out HB.out))
           (case side4 => exact HC0_1.out)
           rintro e w28 ⟨rfl, hb⟩
           have HS4_ := (hb.cell (World.block_lt_of_cell? _ _ (hHeld.2.2.2.2.1))).trans (hHeld.2.2.2.2.1)
           have HS5_ := (hb.cell (World.block_lt_of_cell? _ _ (hHeld.2.2.2.2.2))).trans (hHeld.2.2.2.2.2)
           refine ⟨_, rfl, ?_⟩
           have n0_ := Aside0.mk (Kd.R_below (rz_ HO_3.out) hb)
           have n1_ := Aside0.mk (Kd.R_below (rz_ HO_4.out) hb)
           have n2_ := Aside0.mk (blk_below (bz_ BK151.out) hb)
           have n3_ := Aside0.mk (blk_below (bz_ BK159.out) hb)
           have n4_ := Aside0.mk (below_step (by repeat (first | (with_reducible first | exact HB.out | apply below_alloc | apply pw_below_drewN | apply below_drew1 | refine below_set ?_ GE151.out | refine below_set ?_ GE159.out) | exact HB.out)) hb)
           clear HO_3
           clear HO_4
           clear BK151
           clear BK159
           clear HB
           have HO_3 := n0_
           have HO_4 := n1_
           have BK151 := n2_
           have BK159 := n3_
           have HB := n4_
           clear n0_ n1_ n2_ n3_ n4_
           (try clear hb)
           (try clear hb2)
           (try clear hk)
           (try clear hi)
           refine hK.out _ _ ⟨(blk_cell BK151.out 0).trans rfl, (blk_cell BK151.out 1).trans rfl, (blk_cell BK159.out 0).trans rfl, (blk_cell BK159.out 1).trans rfl, HS4_, HS5_⟩ (fun hHeld => ?_)
           clear hK K
           refine norm_ (a' := ?_) ?_ ?_
           rotate_left
           ·show Act.put _ (some 41) _ = _
            simp only [Act.put, List.setIfInBounds_toArray, List.set_cons_zero, List.set_cons_succ, i64_w, i32_w]
            rfl
           refine pA_ 20 (some 42) (bl 21 22) HT_.out (h := ?_)
           refine pA_ 21 (some 43) (bl 22 22) HT_.out (h := ?_)
           refine done_ (done_of HT_.out (by kernel_rfl)) ?_
           try go_wp2
           go_roundg k1
           case measure => have := HK1.out; omega
           case rel => exact ⟨(x4_1), (wrap64 (x5_1 + 1)), (by first | rfl | (simp; done) | (simp [*]; done)), H', ⟨by have := HK1.out; omega⟩, ⟨rz_ HO_3.out⟩, ⟨rz_ (Kd.R_mono HO_4.out (fun _ hk => trivial))⟩, ⟨bz_ BK151.out⟩, ⟨by repeat (first | (with_reducible first | exact HB.out | apply below_alloc | apply pw_below_drewN | apply below_drew1 | refine below_set ?_ GE151.out | refine below_set ?_ GE159.out) | exact HB.out)⟩⟩
          ·replace c18 := Bool.eq_false_iff.mpr c18
           subst c18
           have H1 : (if x4_1.length < 8796093022208 then (spec_l5Links.l0 k1 t152 (x4_1 ++ [(⟨(rd_T100 l0_1 x5_1).f0, (rd_T100 l0_1 x5_1).f1⟩ : S100)]) (wrap64 (x5_1 + 1)) l0_0 l0_1) else (none)) = some r := by rw [if_neg (show ¬ (false = true) by decide)] at H; exact H
           clear H
           have H := H1
           clear H1
           by_cases c29 : x4_1.length < 8796093022208
           ·rw [if_pos c29] at H
            have LMc29 := Aside0.mk c29
            clear c29
            obtain ⟨y165, hy165⟩ : ∃ y_ : List (S100), y_ = (x4_1 ++ [(⟨(rd_T100 l0_1 x5_1).f0, (rd_T100 l0_1 x5_1).f1⟩ : S100)]) := ⟨_, rfl⟩
            replace H : (spec_l5Links.l0 k1 t152 y165 (wrap64 (x5_1 + 1)) l0_0 l0_1) = some r := by first | (rw [hy165]; with_reducible exact H) | (have H2_ := (Option.bind_some _ _).symm.trans H; rw [hy165]; with_reducible exact H2_) | (have H2_ := (Option.bind_some _ _).symm.trans H; with_reducible exact H2_) | with_reducible exact H | (rw [hy165]; exact H) | exact H
            have Ny165 := Aside0.mk hy165
            clear hy165
            have H' := Aside0.mk H
            clear H
            have hcz30_0 : wr.cell? ⟨gb151, 0, none⟩ = some (.slice A0_0 l0_0.length c0_0) := (blk_cell BK151.out 0).trans rfl
            have hcz30_1 : wr.cell? ⟨gb151, 1, none⟩ = some (.slice A0_1 l0_1.length c0_1) := (blk_cell BK151.out 1).trans rfl
            have hfz30_0 := blk_frozen BK151.out 0
            have hfz30_1 := blk_frozen BK151.out 1
            have p158 : 0 ≤ (x5_1 : Int) := od_
            have q158 : x5_1 < (l0_1.length : Int) := od_
            obtain ⟨ad158, e158, hx158_0, hx158_1⟩ := at_T100 HR0_1.out x5_1 p158 q158
            cases e158
            replace hx158_0 := lc_ HB.out hx158_0
            replace hx158_1 := lc_ HB.out hx158_1
            replace p158 := eq_true p158
            replace q158 := eq_true q158
            try go_wp2_with (first | ((with_reducible refine gate_dst (N := 6) rfl ?_); refine box_event ?hg (N := 6) ?hd (cs := #[.int .i64 0, .int .i64 0]) (t := 100) ?hr ?_; (case hd => rfl); (case hg => rfl); (case hr => first | (go_simp; done) | (go_simp; rfl)); intro gb159 hg w31 hbox hb; have n0_ := Aside0.mk (Kd.R_below (rz_ HO_3.out) hb); have n1_ := Aside0.mk (Kd.R_below (Kd.R_elderB (rz_ HO_4.out) gb159 (Nat.le_of_eq hg.symm)) hb); have n2_ := Aside0.mk (blk_below (bz_ BK151.out) hb); have n3_ := Aside0.mk (below_step (by repeat (first | (with_reducible first | exact HB.out | apply below_alloc | apply pw_below_drewN | apply below_drew1 | refine below_set ?_ GE151.out) | exact HB.out)) hb); have n4_ := Aside0.mk (hbox); have n5_ := Aside0.mk ((by rw [hg]; exact (below_size (by repeat (first | (with_reducible first | exact HB.out | apply below_alloc | apply pw_below_drewN | apply below_drew1 | refine below_set ?_ GE151.out) | exact HB.out))) : w.heap.size ≤ gb159)); have n6_ := Aside0.mk ((by rw [hg]; exact (below_size (by repeat (first | (with_reducible first | exact HB.out | apply below_alloc | apply pw_below_drewN | apply below_drew1 | refine below_set ?_ GE151.out) | exact HB.out))) : w.heap.size ≤ gb159)); have n7_ := Aside0.mk ((by rw [hg]; exact Nat.ne_of_lt (blk_lt (g := gb151) (o := .cells #[.slice A0_0 l0_0.length c0_0, .slice (some ad158) l0_1.length c0_1] 33 (0, 0)) (bz_ BK151.out)) : gb151 ≠ gb159)); have n8_ := Aside0.mk ((by rw [hg]; exact Nat.ne_of_gt (blk_lt (g := gb151) (o := .cells #[.slice A0_0 l0_0.length c0_0, .slice (some ad158) l0_1.length c0_1] 33 (0, 0)) (bz_ BK151.out)) : gb159 ≠ gb151)); clear HO_3; clear HO_4; clear BK151; clear HB; have HO_3 := n0_; have HO_4 := n1_; have BK151 := n2_; have HB := n3_; have BK159 := n4_; have GW159 := n5_; have GE159 := n6_; have NB151_159 := n7_; have NB159_151 := n8_; clear n0_ n1_ n2_ n3_ n4_ n5_ n6_ n7_ n8_; clear hb hbox hg; have hnb32 := NB159_151.out; have hnc32 := NB151_159.out; have hcz33_0 : w31.cell? ⟨gb159, 0, none⟩ = some (.int .i64 0) := (blk_cell BK159.out 0).trans rfl; have hcz33_1 : w31.cell? ⟨gb159, 1, none⟩ = some (.int .i64 0) := (blk_cell BK159.out 1).trans rfl; have hfz33_0 := blk_frozen BK159.out 0; have hfz33_1 := blk_frozen BK159.out 1))
            have n0_ : Aside0 (Kd.R (Kd.int .i64) 3 ((w31.setCell ⟨gb159, 0, none⟩ (.int .i64 ((rd_T100 l0_1 x5_1).f0))).setCell ⟨gb159, 1, none⟩ (.int .i64 ((rd_T100 l0_1 x5_1).f1))) w.heap.size (fun _ => True) (.slice Aq_ t152.length cq_ : Value) t152) := ⟨rz_ (Kd.R_mono (Kd.R_far (p := ⟨gb159, 1, none⟩) (Kd.R_far (p := ⟨gb159, 0, none⟩) (Kd.R_types HO_3.out BK159.out (by decide)) (fun _ hk => hk.2) (.int .i64 ((rd_T100 l0_1 x5_1).f0))) (fun _ hk => hk.2) (.int .i64 ((rd_T100 l0_1 x5_1).f1))) (fun _ hk => trivial))⟩
            have n1_ : Aside0 (Kd.R k100 100 ((w31.setCell ⟨gb159, 0, none⟩ (.int .i64 ((rd_T100 l0_1 x5_1).f0))).setCell ⟨gb159, 1, none⟩ (.int .i64 ((rd_T100 l0_1 x5_1).f1))) w.heap.size (fun k_ => k_ ≠ gb159) u4 x4_1) := ⟨rz_ (Kd.R_mono (Kd.R_far (p := ⟨gb159, 1, none⟩) (Kd.R_far (p := ⟨gb159, 0, none⟩) (Kd.R_mono HO_4.out (fun k_ hk => (⟨hk, hk.2⟩ : _ ∧ k_ ≠ gb159))) (fun _ hk => hk.2) (.int .i64 ((rd_T100 l0_1 x5_1).f0))) (fun _ hk => hk.2) (.int .i64 ((rd_T100 l0_1 x5_1).f1))) (fun _ hk => hk.1.2))⟩
            have n2_ : Aside0 (((w31.setCell ⟨gb159, 0, none⟩ (.int .i64 ((rd_T100 l0_1 x5_1).f0))).setCell ⟨gb159, 1, none⟩ (.int .i64 ((rd_T100 l0_1 x5_1).f1))).heap[gb151]? = some (.cells #[.slice A0_0 l0_0.length c0_0, .slice (some ad158) l0_1.length c0_1] 33 (0, 0))) := ⟨by (with_reducible repeat (first | refine blk_drewN ?_ _ | refine blk_drew ?_ | refine blk_alloc ?_ _)); refine blk_far ?_ NB151_159.out _; (with_reducible repeat (first | refine blk_drewN ?_ _ | refine blk_drew ?_ | refine blk_alloc ?_ _)); refine blk_far ?_ NB151_159.out _; (with_reducible repeat (first | refine blk_drewN ?_ _ | refine blk_drew ?_ | refine blk_alloc ?_ _)); exact BK151.out⟩
            have n3_ : Aside0 (((w31.setCell ⟨gb159, 0, none⟩ (.int .i64 ((rd_T100 l0_1 x5_1).f0))).setCell ⟨gb159, 1, none⟩ (.int .i64 ((rd_T100 l0_1 x5_1).f1))).heap[gb159]? = some (.cells #[.int .i64 ((rd_T100 l0_1 x5_1).f0), .int .i64 ((rd_T100 l0_1 x5_1).f1)] 100 (0, 0))) := ⟨by (with_reducible repeat (first | refine blk_drewN ?_ _ | refine blk_drew ?_ | refine blk_alloc ?_ _)); refine blk_put (cs := #[.int .i64 ((rd_T100 l0_1 x5_1).f0), .int .i64 0]) ?_ 1 _ rfl; (with_reducible repeat (first | refine blk_drewN ?_ _ | refine blk_drew ?_ | refine blk_alloc ?_ _)); refine blk_put (cs := #[.int .i64 0, .int .i64 0]) ?_ 0 _ rfl; (with_reducible repeat (first | refine blk_drewN ?_ _ | refine blk_drew ?_ | refine blk_alloc ?_ _)); exact BK159.out⟩
            have n4_ : Aside0 (Below w.heap.size w ((w31.setCell ⟨gb159, 0, none⟩ (.int .i64 ((rd_T100 l0_1 x5_1).f0))).setCell ⟨gb159, 1, none⟩ (.int .i64 ((rd_T100 l0_1 x5_1).f1)))) := ⟨by repeat (first | (with_reducible first | exact HB.out | apply below_alloc | apply pw_below_drewN | apply below_drew1 | refine below_set ?_ GE151.out | refine below_set ?_ GE159.out) | exact HB.out)⟩
            (try clear HO_3)
            (try clear HO_4)
            (try clear BK151)
            (try clear BK159)
            (try clear HB)
            generalize ((w31.setCell ⟨gb159, 0, none⟩ (.int .i64 ((rd_T100 l0_1 x5_1).f0))).setCell ⟨gb159, 1, none⟩ (.int .i64 ((rd_T100 l0_1 x5_1).f1))) = w34 at n0_ n1_ n2_ n3_ n4_ ⊢
            have HO_3 := n0_
            have HO_4 := n1_
            have BK151 := n2_
            have BK159 := n3_
            have HB := n4_
            clear n0_ n1_ n2_ n3_ n4_
            have n0_ := Aside0.mk (Kd.R_drew HO_3.out)
            have n1_ := Aside0.mk (Kd.R_drew HO_4.out)
            have n2_ := Aside0.mk (blk_drew BK151.out)
            have n3_ := Aside0.mk (blk_drew BK159.out)
            have n4_ := Aside0.mk (below_drew1 HB.out)
            clear HO_3
            clear HO_4
            clear BK151
            clear BK159
            clear HB
            have HO_3 := n0_
            have HO_4 := n1_
            have BK151 := n2_
            have BK159 := n3_
            have HB := n4_
            clear n0_ n1_ n2_ n3_ n4_
            have p161 : 0 ≤ (t160 : Int) := od_
            have q161 : t160 < (t152.length : Int) := od_
            obtain ⟨ad161, e161, hx161_0⟩ := Kd.at_int (Kd.R_reads' HO_3.out).2.2 t160 p161 q161
            cases e161
            replace p161 := eq_true p161
            replace q161 := eq_true q161
            have p163 : 0 ≤ (t162 : Int) := od_
            have q163 : t162 < (t152.length : Int) := od_
            obtain ⟨ad163, e163, hx163_0⟩ := Kd.at_int (Kd.R_reads' HO_3.out).2.2 t162 p163 q163
            obtain rfl : ad161 = ad163 := (by injection e163)
            replace p163 := eq_true p163
            replace q163 := eq_true q163
            refine start_ (n := 22) (S := fun w' => w'.cell? ⟨gb151, 0, none⟩ = some (.slice A0_0 l0_0.length c0_0) ∧ w'.cell? ⟨gb151, 1, none⟩ = some (.slice (some ad158) l0_1.length c0_1) ∧ w'.cell? ⟨gb159, 0, none⟩ = some (.int .i64 ((rd_T100 l0_1 x5_1).f0)) ∧ w'.cell? ⟨gb159, 1, none⟩ = some (.int .i64 ((rd_T100 l0_1 x5_1).f1)) ∧ w'.cell? (ad161.add (t160).toNat) = some (.int .i64 (rd t152 t160)) ∧ w'.cell? (ad161.add (t162).toNat) = some (.int .i64 (rd t152 t162))) (ds := []) #[false, false, false, false, false, false, false, false, false, false, false, false, false, false, false, false, false, false, false, false, false, false] (by kernel_rfl) rfl rfl ⟨(blk_cell BK151.out 0).trans rfl, (blk_cell BK151.out 1).trans rfl, (blk_cell BK159.out 0).trans rfl, (blk_cell BK159.out 1).trans rfl, hx161_0, hx163_0⟩ (fun hHeld => ?_); refine with_tabW spec_l5Links.tab7 spec_l5Links.bits7 (fun HT_ HW_ => ?_)
            generalize w34.drew = w35 at HO_3 HO_4 BK151 BK159 HB hx161_0 hx163_0 hHeld ⊢
            refine pA_ 0 (some 22) (bl 1 22) HT_.out (h := ?_)
            refine pA_ 2 (some 24) #[true, false, true, false, false, false, false, false, false, false, false, false, false, false, false, false, false, false, false, false, false, false] HT_.out (h := ?_)
            refine pA_ 7 (some 29) #[true, false, true, false, false, false, false, true, false, false, false, false, false, false, false, false, false, false, false, false, false, false] HT_.out (h := ?_)
            refine pA_ 9 (some 31) #[true, false, true, false, false, false, false, true, false, true, false, false, false, false, false, false, false, false, false, false, false, false] HT_.out (h := ?_)
            refine tA_ 1 (some 23) #[true, true, true, false, false, false, false, true, false, true, false, false, false, false, false, false, false, false, false, false, false, false] HT_.out HW_.out hHeld (h := ?_)
            refine tA_ 3 (some 25) #[true, true, true, true, false, false, false, true, false, true, false, false, false, false, false, false, false, false, false, false, false, false] HT_.out HW_.out hHeld (h := ?_)
            refine tA_ 8 (some 30) #[true, true, true, true, false, false, false, true, true, true, false, false, false, false, false, false, false, false, false, false, false, false] HT_.out HW_.out hHeld (h := ?_)
            refine tA_ 10 (some 32) #[true, true, true, true, false, false, false, true, true, true, true, false, false, false, false, false, false, false, false, false, false, false] HT_.out HW_.out hHeld (h := ?_)
            refine one_ (i := 4) (N := some 26) #[true, true, true, true, true, false, false, true, true, true, true, false, false, false, false, false, false, false, false, false, false, false] rfl rfl (one_of HT_.out (by kernel_rfl)) (by decide) (fun K hK => ?_)
            refine goes_ Try.func90 (by kernel_rfl) rfl #[.agg #[.slice A0_0 l0_0.length c0_0, .slice (some ad158) l0_1.length c0_1], .int .i64 ((rd_T100 l0_1 x5_1).f1)] (by rfl) rfl rfl (by (try simp only [List.map_toArray, List.map_cons, List.map_nil]); first | done | rfl | (simp only [List.length_drop, List.length_take]; rfl)) ?_
            with_reducible refine (spec_l2Find.calls _ _ l0_0 _ _ l0_1 ((rd_T100 l0_1 x5_1).f1) t160 _ ?side1 ?side2 ?side3 ?side4 A10.out).mono ?_
            (case side1 => exact cz_ (Kd.C_below HR0_0.out HB.out))
            (case side2 => exact HC0_0.out)
            (case side3 => exact cz_ (Kd.C_below HR0_1.out HB.out))
            (case side4 => exact HC0_1.out)
            rintro e w36 ⟨rfl, hb⟩
            have HS4_ := (hb.cell (World.block_lt_of_cell? _ _ (hHeld.2.2.2.2.1))).trans (hHeld.2.2.2.2.1)
            have HS5_ := (hb.cell (World.block_lt_of_cell? _ _ (hHeld.2.2.2.2.2))).trans (hHeld.2.2.2.2.2)
            refine ⟨_, rfl, ?_⟩
            have n0_ := Aside0.mk (Kd.R_below (rz_ HO_3.out) hb)
            have n1_ := Aside0.mk (Kd.R_below (rz_ HO_4.out) hb)
            have n2_ := Aside0.mk (blk_below (bz_ BK151.out) hb)
            have n3_ := Aside0.mk (blk_below (bz_ BK159.out) hb)
            have n4_ := Aside0.mk (below_step (by repeat (first | (with_reducible first | exact HB.out | apply below_alloc | apply pw_below_drewN | apply below_drew1 | refine below_set ?_ GE151.out | refine below_set ?_ GE159.out) | exact HB.out)) hb)
            clear HO_3
            clear HO_4
            clear BK151
            clear BK159
            clear HB
            have HO_3 := n0_
            have HO_4 := n1_
            have BK151 := n2_
            have BK159 := n3_
            have HB := n4_
            clear n0_ n1_ n2_ n3_ n4_
            (try clear hb)
            (try clear hb2)
            (try clear hk)
            (try clear hi)
            obtain ⟨Ao37, co37, eo37⟩ := Kd.R_slice HO_3.out
            (first | subst eo37 | (injection eo37 with f1_ f2_ f3_; have f4_ := f1_.symm; have f5_ := f3_.symm; clear f1_ f2_ f3_; subst f4_; subst f5_))
            refine hK.out _ _ ⟨(blk_cell BK151.out 0).trans rfl, (blk_cell BK151.out 1).trans rfl, (blk_cell BK159.out 0).trans rfl, (blk_cell BK159.out 1).trans rfl, HS4_, HS5_⟩ (fun hHeld => ?_)
            clear hK K
            refine norm_ (a' := ?_) ?_ ?_
            rotate_left
            ·show Act.put _ (some 26) _ = _
             simp only [Act.put, List.setIfInBounds_toArray, List.set_cons_zero, List.set_cons_succ, i64_w, i32_w]
             rfl
            refine pA_ 5 (some 27) #[true, true, true, true, true, true, false, true, true, true, true, false, false, false, false, false, false, false, false, false, false, false] HT_.out (h := ?_)
            refine tA_ 6 (some 28) (bl 11 22) HT_.out HW_.out hHeld (h := ?_)
            refine one_ (i := 11) (N := some 33) (bl 12 22) rfl rfl (one_of HT_.out (by kernel_rfl)) (by decide) (fun K hK => ?_)
            refine goes_ Try.func90 (by kernel_rfl) rfl #[.agg #[.slice A0_0 l0_0.length c0_0, .slice (some ad158) l0_1.length c0_1], .int .i64 ((rd_T100 l0_1 x5_1).f0)] (by rfl) rfl rfl (by (try simp only [List.map_toArray, List.map_cons, List.map_nil]); first | done | rfl | (simp only [List.length_drop, List.length_take]; rfl)) ?_
            with_reducible refine (spec_l2Find.calls _ _ l0_0 _ _ l0_1 ((rd_T100 l0_1 x5_1).f0) t162 _ ?side1 ?side2 ?side3 ?side4 A13.out).mono ?_
            (case side1 => exact cz_ (Kd.C_below HR0_0.out HB.out))
            (case side2 => exact HC0_0.out)
            (case side3 => exact cz_ (Kd.C_below HR0_1.out HB.out))
            (case side4 => exact HC0_1.out)
            rintro e w38 ⟨rfl, hb⟩
            have HS4_ := (hb.cell (World.block_lt_of_cell? _ _ (hHeld.2.2.2.2.1))).trans (hHeld.2.2.2.2.1)
            have HS5_ := (hb.cell (World.block_lt_of_cell? _ _ (hHeld.2.2.2.2.2))).trans (hHeld.2.2.2.2.2)
            refine ⟨_, rfl, ?_⟩
            have n0_ := Aside0.mk (Kd.R_below (rz_ HO_3.out) hb)
            have n1_ := Aside0.mk (Kd.R_below (rz_ HO_4.out) hb)
            have n2_ := Aside0.mk (blk_below (bz_ BK151.out) hb)
            have n3_ := Aside0.mk (blk_below (bz_ BK159.out) hb)
            have n4_ := Aside0.mk (below_step (by repeat (first | (with_reducible first | exact HB.out | apply below_alloc | apply pw_below_drewN | apply below_drew1 | refine below_set ?_ GE151.out | refine below_set ?_ GE159.out) | exact HB.out)) hb)
            clear HO_3
            clear HO_4
            clear BK151
            clear BK159
            clear HB
            have HO_3 := n0_
            have HO_4 := n1_
            have BK151 := n2_
            have BK159 := n3_
            have HB := n4_
            clear n0_ n1_ n2_ n3_ n4_
            (try clear hb)
            (try clear hb2)
            (try clear hk)
            (try clear hi)
            refine hK.out _ _ ⟨(blk_cell BK151.out 0).trans rfl, (blk_cell BK151.out 1).trans rfl, (blk_cell BK159.out 0).trans rfl, (blk_cell BK159.out 1).trans rfl, HS4_, HS5_⟩ (fun hHeld => ?_)
            clear hK K
            refine norm_ (a' := ?_) ?_ ?_
            rotate_left
            ·show Act.put _ (some 33) _ = _
             simp only [Act.put, List.setIfInBounds_toArray, List.set_cons_zero, List.set_cons_succ, i64_w, i32_w]
             rfl
            refine pA_ 12 (some 34) (bl 13 22) HT_.out (h := ?_)
            refine tA_ 13 (some 35) (bl 14 22) HT_.out HW_.out hHeld (h := ?_)
            refine pA_ 14 (some 36) (bl 15 22) HT_.out (h := ?_)
            refine pA_ 15 (some 37) (bl 16 22) HT_.out (h := ?_)
            refine pA_ 16 (some 38) (bl 17 22) HT_.out (h := ?_)
            refine tA_ 17 (some 39) (bl 18 22) HT_.out HW_.out hHeld (h := ?_)
            refine tA_ 18 (some 40) (bl 19 22) HT_.out HW_.out hHeld (h := ?_)
            refine one_ (i := 19) (N := some 41) (bl 20 22) rfl rfl (one_of HT_.out (by kernel_rfl)) (by decide) (fun K hK => ?_)
            refine goes_ Try.func91 (by kernel_rfl) rfl #[.agg #[.slice A0_0 l0_0.length c0_0, .slice (some ad158) l0_1.length c0_1], .agg #[.int .i64 ((rd_T100 l0_1 x5_1).f0), .int .i64 ((rd_T100 l0_1 x5_1).f1)]] (by rfl) rfl rfl (by (try simp only [List.map_toArray, List.map_cons, List.map_nil]); first | done | rfl | (simp only [List.length_drop, List.length_take]; rfl)) ?_
            with_reducible refine (spec_l5Redundant.calls k1 _ _ l0_0 _ _ l0_1 ((rd_T100 l0_1 x5_1).f0) ((rd_T100 l0_1 x5_1).f1) false _ ?side1 ?side2 ?side3 ?side4 A17.out).mono ?_
            (case side1 => exact cz_ (Kd.C_below HR0_0.out HB.out))
            (case side2 => exact HC0_0.out)
            (case side3 => exact cz_ (Kd.C_below HR0_1.out HB.out))
            (case side4 => exact HC0_1.out)
            rintro e w39 ⟨rfl, hb⟩
            have HS4_ := (hb.cell (World.block_lt_of_cell? _ _ (hHeld.2.2.2.2.1))).trans (hHeld.2.2.2.2.1)
            have HS5_ := (hb.cell (World.block_lt_of_cell? _ _ (hHeld.2.2.2.2.2))).trans (hHeld.2.2.2.2.2)
            refine ⟨_, rfl, ?_⟩
            have n0_ := Aside0.mk (Kd.R_below (rz_ HO_3.out) hb)
            have n1_ := Aside0.mk (Kd.R_below (rz_ HO_4.out) hb)
            have n2_ := Aside0.mk (blk_below (bz_ BK151.out) hb)
            have n3_ := Aside0.mk (blk_below (bz_ BK159.out) hb)
            have n4_ := Aside0.mk (below_step (by repeat (first | (with_reducible first | exact HB.out | apply below_alloc | apply pw_below_drewN | apply below_drew1 | refine below_set ?_ GE151.out | refine below_set ?_ GE159.out) | exact HB.out)) hb)
            clear HO_3
            clear HO_4
            clear BK151
            clear BK159
            clear HB
            have HO_3 := n0_
            have HO_4 := n1_
            have BK151 := n2_
            have BK159 := n3_
            have HB := n4_
            clear n0_ n1_ n2_ n3_ n4_
            (try clear hb)
            (try clear hb2)
            (try clear hk)
            (try clear hi)
            refine hK.out _ _ ⟨(blk_cell BK151.out 0).trans rfl, (blk_cell BK151.out 1).trans rfl, (blk_cell BK159.out 0).trans rfl, (blk_cell BK159.out 1).trans rfl, HS4_, HS5_⟩ (fun hHeld => ?_)
            clear hK K
            refine norm_ (a' := ?_) ?_ ?_
            rotate_left
            ·show Act.put _ (some 41) _ = _
             simp only [Act.put, List.setIfInBounds_toArray, List.set_cons_zero, List.set_cons_succ, i64_w, i32_w]
             rfl
            refine pA_ 20 (some 42) (bl 21 22) HT_.out (h := ?_)
            refine pA_ 21 (some 43) (bl 22 22) HT_.out (h := ?_)
            refine done_ (done_of HT_.out (by kernel_rfl)) ?_
            have hcz40_0 : w39.cell? ⟨gb159, 0, none⟩ = some (.int .i64 ((rd_T100 l0_1 x5_1).f0)) := (blk_cell BK159.out 0).trans rfl
            have hcz40_1 : w39.cell? ⟨gb159, 1, none⟩ = some (.int .i64 ((rd_T100 l0_1 x5_1).f1)) := (blk_cell BK159.out 1).trans rfl
            have hfz40_0 := blk_frozen BK159.out 0
            have hfz40_1 := blk_frozen BK159.out 1
            try go_wp2_with (first | ((with_reducible refine gate_builtin (b := .append) (xs := #[.tmp 44, .tmp 46]) rfl ?_); at_builtin; refine Kd.R_append k100 (w0 := w) w.heap.size rfl (.tmp 44) (.tmp 46) 31 100 (.agg #[(.int .i64 0), (.int .i64 0)]) 16 rfl Try.underlying31 info100 rfl (by decide) (by omega) u4 x4_1 (⟨(rd_T100 l0_1 x5_1).f0, (rd_T100 l0_1 x5_1).f1⟩ : S100) [.int .i64 ((rd_T100 l0_1 x5_1).f0), .int .i64 ((rd_T100 l0_1 x5_1).f1)] (fun k_ => k_ ≠ gb159) (fun _ => False) rfl rfl ?aP (fun _ hk => hk.elim) ?aF ?aO ?aB ?aS ?aL ?_; (case aP => exact k100_mkM _ _ _ (⟨(rd_T100 l0_1 x5_1).f0, (rd_T100 l0_1 x5_1).f1⟩ : S100)); (case aB => exact (by repeat (first | (with_reducible first | exact HB.out | apply below_alloc | apply pw_below_drewN | apply below_drew1 | refine below_set ?_ GE151.out | refine below_set ?_ GE159.out) | exact HB.out))); (case aF => exact (fun k_ hk => Kd.freshB (g := gb159) (o := .cells #[.int .i64 ((rd_T100 l0_1 x5_1).f0), .int .i64 ((rd_T100 l0_1 x5_1).f1)] 100 (0, 0)) (bz_ BK159.out) k_ hk)); (case aO => exact (rz_ HO_4.out)); (case aS => exact (below_size (by repeat (first | (with_reducible first | exact HB.out | apply below_alloc | apply pw_below_drewN | apply below_drew1 | refine below_set ?_ GE151.out | refine below_set ?_ GE159.out) | exact HB.out)))); (case aL => have := LMc29.out; omega); intro v166 w41 ho hb hg hat; rw [← Ny165.out] at ho; have n0_ := Aside0.mk (Kd.R_over' (rz_ HO_3.out) (Kd.R_typed (rz_ HO_4.out)) (by decide) hg); have n1_ := Aside0.mk (blk_grown (g := gb151) (o := .cells #[.slice A0_0 l0_0.length c0_0, .slice (some ad158) l0_1.length c0_1] 33 (0, 0)) (bz_ BK151.out) hg (Kd.R_ne HO_4.out BK151.out (by decide))); have n2_ := Aside0.mk (blk_grown (g := gb159) (o := .cells #[.int .i64 ((rd_T100 l0_1 x5_1).f0), .int .i64 ((rd_T100 l0_1 x5_1).f1)] 100 (0, 0)) (bz_ BK159.out) hg (Kd.R_away HO_4.out (fun _ hk => hk))); have n3_ := Aside0.mk (hb); have n4_ := Aside0.mk (ho); clear HO_3; clear BK151; clear BK159; clear HB; clear HO_4; have HO_3 := n0_; have BK151 := n1_; have BK159 := n2_; have HB := n3_; have HO167 := n4_; clear n0_ n1_ n2_ n3_ n4_; clear ho hb hg hat))
            go_roundg k1
            case measure => have := HK1.out; omega
            case rel => exact ⟨(y165), (wrap64 (x5_1 + 1)), (by first | rfl | (simp; done) | (simp [*]; done)), H', ⟨by have := HK1.out; omega⟩, ⟨rz_ HO_3.out⟩, ⟨rz_ (Kd.R_mono HO167.out (fun _ hk => trivial))⟩, ⟨bz_ BK151.out⟩, ⟨by repeat (first | (with_reducible first | exact HB.out | apply below_alloc | apply pw_below_drewN | apply below_drew1 | refine below_set ?_ GE151.out | refine below_set ?_ GE159.out) | exact HB.out)⟩⟩
           ·rw [if_neg c29] at H
            exact absurd H (by simp)
         ·rw [if_neg c16] at H
          have c16b0 : ((rd t152 t160) == (wrap64 ((rd t152 t162) + 1))) = false := beq_eq_false_iff_ne.mpr c16
          have c16b1 : ((rd t152 t160) != (wrap64 ((rd t152 t162) + 1))) = true := bne_iff_ne.mpr c16
          have H' := Aside0.mk H
          clear H
          have hcz42_0 : wr.cell? ⟨gb151, 0, none⟩ = some (.slice A0_0 l0_0.length c0_0) := (blk_cell BK151.out 0).trans rfl
          have hcz42_1 : wr.cell? ⟨gb151, 1, none⟩ = some (.slice A0_1 l0_1.length c0_1) := (blk_cell BK151.out 1).trans rfl
          have hfz42_0 := blk_frozen BK151.out 0
          have hfz42_1 := blk_frozen BK151.out 1
          have p158 : 0 ≤ (x5_1 : Int) := od_
          have q158 : x5_1 < (l0_1.length : Int) := od_
          obtain ⟨ad158, e158, hx158_0, hx158_1⟩ := at_T100 HR0_1.out x5_1 p158 q158
          cases e158
          replace hx158_0 := lc_ HB.out hx158_0
          replace hx158_1 := lc_ HB.out hx158_1
          replace p158 := eq_true p158
          replace q158 := eq_true q158
          try go_wp2_with (first | ((with_reducible refine gate_dst (N := 6) rfl ?_); refine box_event ?hg (N := 6) ?hd (cs := #[.int .i64 0, .int .i64 0]) (t := 100) ?hr ?_; (case hd => rfl); (case hg => rfl); (case hr => first | (go_simp; done) | (go_simp; rfl)); intro gb159 hg w43 hbox hb; have n0_ := Aside0.mk (Kd.R_below (rz_ HO_3.out) hb); have n1_ := Aside0.mk (Kd.R_below (Kd.R_elderB (rz_ HO_4.out) gb159 (Nat.le_of_eq hg.symm)) hb); have n2_ := Aside0.mk (blk_below (bz_ BK151.out) hb); have n3_ := Aside0.mk (below_step (by repeat (first | (with_reducible first | exact HB.out | apply below_alloc | apply pw_below_drewN | apply below_drew1 | refine below_set ?_ GE151.out) | exact HB.out)) hb); have n4_ := Aside0.mk (hbox); have n5_ := Aside0.mk ((by rw [hg]; exact (below_size (by repeat (first | (with_reducible first | exact HB.out | apply below_alloc | apply pw_below_drewN | apply below_drew1 | refine below_set ?_ GE151.out) | exact HB.out))) : w.heap.size ≤ gb159)); have n6_ := Aside0.mk ((by rw [hg]; exact (below_size (by repeat (first | (with_reducible first | exact HB.out | apply below_alloc | apply pw_below_drewN | apply below_drew1 | refine below_set ?_ GE151.out) | exact HB.out))) : w.heap.size ≤ gb159)); have n7_ := Aside0.mk ((by rw [hg]; exact Nat.ne_of_lt (blk_lt (g := gb151) (o := .cells #[.slice A0_0 l0_0.length c0_0, .slice (some ad158) l0_1.length c0_1] 33 (0, 0)) (bz_ BK151.out)) : gb151 ≠ gb159)); have n8_ := Aside0.mk ((by rw [hg]; exact Nat.ne_of_gt (blk_lt (g := gb151) (o := .cells #[.slice A0_0 l0_0.length c0_0, .slice (some ad158) l0_1.length c0_1] 33 (0, 0)) (bz_ BK151.out)) : gb159 ≠ gb151)); clear HO_3; clear HO_4; clear BK151; clear HB; have HO_3 := n0_; have HO_4 := n1_; have BK151 := n2_; have HB := n3_; have BK159 := n4_; have GW159 := n5_; have GE159 := n6_; have NB151_159 := n7_; have NB159_151 := n8_; clear n0_ n1_ n2_ n3_ n4_ n5_ n6_ n7_ n8_; clear hb hbox hg; have hnb44 := NB159_151.out; have hnc44 := NB151_159.out; have hcz45_0 : w43.cell? ⟨gb159, 0, none⟩ = some (.int .i64 0) := (blk_cell BK159.out 0).trans rfl; have hcz45_1 : w43.cell? ⟨gb159, 1, none⟩ = some (.int .i64 0) := (blk_cell BK159.out 1).trans rfl; have hfz45_0 := blk_frozen BK159.out 0; have hfz45_1 := blk_frozen BK159.out 1))
          have n0_ : Aside0 (Kd.R (Kd.int .i64) 3 ((w43.setCell ⟨gb159, 0, none⟩ (.int .i64 ((rd_T100 l0_1 x5_1).f0))).setCell ⟨gb159, 1, none⟩ (.int .i64 ((rd_T100 l0_1 x5_1).f1))) w.heap.size (fun _ => True) (.slice Aq_ t152.length cq_ : Value) t152) := ⟨rz_ (Kd.R_mono (Kd.R_far (p := ⟨gb159, 1, none⟩) (Kd.R_far (p := ⟨gb159, 0, none⟩) (Kd.R_types HO_3.out BK159.out (by decide)) (fun _ hk => hk.2) (.int .i64 ((rd_T100 l0_1 x5_1).f0))) (fun _ hk => hk.2) (.int .i64 ((rd_T100 l0_1 x5_1).f1))) (fun _ hk => trivial))⟩
          have n1_ : Aside0 (Kd.R k100 100 ((w43.setCell ⟨gb159, 0, none⟩ (.int .i64 ((rd_T100 l0_1 x5_1).f0))).setCell ⟨gb159, 1, none⟩ (.int .i64 ((rd_T100 l0_1 x5_1).f1))) w.heap.size (fun k_ => k_ ≠ gb159) u4 x4_1) := ⟨rz_ (Kd.R_mono (Kd.R_far (p := ⟨gb159, 1, none⟩) (Kd.R_far (p := ⟨gb159, 0, none⟩) (Kd.R_mono HO_4.out (fun k_ hk => (⟨hk, hk.2⟩ : _ ∧ k_ ≠ gb159))) (fun _ hk => hk.2) (.int .i64 ((rd_T100 l0_1 x5_1).f0))) (fun _ hk => hk.2) (.int .i64 ((rd_T100 l0_1 x5_1).f1))) (fun _ hk => hk.1.2))⟩
          have n2_ : Aside0 (((w43.setCell ⟨gb159, 0, none⟩ (.int .i64 ((rd_T100 l0_1 x5_1).f0))).setCell ⟨gb159, 1, none⟩ (.int .i64 ((rd_T100 l0_1 x5_1).f1))).heap[gb151]? = some (.cells #[.slice A0_0 l0_0.length c0_0, .slice (some ad158) l0_1.length c0_1] 33 (0, 0))) := ⟨by (with_reducible repeat (first | refine blk_drewN ?_ _ | refine blk_drew ?_ | refine blk_alloc ?_ _)); refine blk_far ?_ NB151_159.out _; (with_reducible repeat (first | refine blk_drewN ?_ _ | refine blk_drew ?_ | refine blk_alloc ?_ _)); refine blk_far ?_ NB151_159.out _; (with_reducible repeat (first | refine blk_drewN ?_ _ | refine blk_drew ?_ | refine blk_alloc ?_ _)); exact BK151.out⟩
          have n3_ : Aside0 (((w43.setCell ⟨gb159, 0, none⟩ (.int .i64 ((rd_T100 l0_1 x5_1).f0))).setCell ⟨gb159, 1, none⟩ (.int .i64 ((rd_T100 l0_1 x5_1).f1))).heap[gb159]? = some (.cells #[.int .i64 ((rd_T100 l0_1 x5_1).f0), .int .i64 ((rd_T100 l0_1 x5_1).f1)] 100 (0, 0))) := ⟨by (with_reducible repeat (first | refine blk_drewN ?_ _ | refine blk_drew ?_ | refine blk_alloc ?_ _)); refine blk_put (cs := #[.int .i64 ((rd_T100 l0_1 x5_1).f0), .int .i64 0]) ?_ 1 _ rfl; (with_reducible repeat (first | refine blk_drewN ?_ _ | refine blk_drew ?_ | refine blk_alloc ?_ _)); refine blk_put (cs := #[.int .i64 0, .int .i64 0]) ?_ 0 _ rfl; (with_reducible repeat (first | refine blk_drewN ?_ _ | refine blk_drew ?_ | refine blk_alloc ?_ _)); exact BK159.out⟩
          have n4_ : Aside0 (Below w.heap.size w ((w43.setCell ⟨gb159, 0, none⟩ (.int .i64 ((rd_T100 l0_1 x5_1).f0))).setCell ⟨gb159, 1, none⟩ (.int .i64 ((rd_T100 l0_1 x5_1).f1)))) := ⟨by repeat (first | (with_reducible first | exact HB.out | apply below_alloc | apply pw_below_drewN | apply below_drew1 | refine below_set ?_ GE151.out | refine below_set ?_ GE159.out) | exact HB.out)⟩
          (try clear HO_3)
          (try clear HO_4)
          (try clear BK151)
          (try clear BK159)
          (try clear HB)
          generalize ((w43.setCell ⟨gb159, 0, none⟩ (.int .i64 ((rd_T100 l0_1 x5_1).f0))).setCell ⟨gb159, 1, none⟩ (.int .i64 ((rd_T100 l0_1 x5_1).f1))) = w46 at n0_ n1_ n2_ n3_ n4_ ⊢
          have HO_3 := n0_
          have HO_4 := n1_
          have BK151 := n2_
          have BK159 := n3_
          have HB := n4_
          clear n0_ n1_ n2_ n3_ n4_
          have n0_ := Aside0.mk (Kd.R_drew HO_3.out)
          have n1_ := Aside0.mk (Kd.R_drew HO_4.out)
          have n2_ := Aside0.mk (blk_drew BK151.out)
          have n3_ := Aside0.mk (blk_drew BK159.out)
          have n4_ := Aside0.mk (below_drew1 HB.out)
          clear HO_3
          clear HO_4
          clear BK151
          clear BK159
          clear HB
          have HO_3 := n0_
          have HO_4 := n1_
          have BK151 := n2_
          have BK159 := n3_
          have HB := n4_
          clear n0_ n1_ n2_ n3_ n4_
          have p161 : 0 ≤ (t160 : Int) := od_
          have q161 : t160 < (t152.length : Int) := od_
          obtain ⟨ad161, e161, hx161_0⟩ := Kd.at_int (Kd.R_reads' HO_3.out).2.2 t160 p161 q161
          cases e161
          replace p161 := eq_true p161
          replace q161 := eq_true q161
          have p163 : 0 ≤ (t162 : Int) := od_
          have q163 : t162 < (t152.length : Int) := od_
          obtain ⟨ad163, e163, hx163_0⟩ := Kd.at_int (Kd.R_reads' HO_3.out).2.2 t162 p163 q163
          obtain rfl : ad161 = ad163 := (by injection e163)
          replace p163 := eq_true p163
          replace q163 := eq_true q163
          refine start_ (n := 22) (S := fun w' => w'.cell? ⟨gb151, 0, none⟩ = some (.slice A0_0 l0_0.length c0_0) ∧ w'.cell? ⟨gb151, 1, none⟩ = some (.slice (some ad158) l0_1.length c0_1) ∧ w'.cell? ⟨gb159, 0, none⟩ = some (.int .i64 ((rd_T100 l0_1 x5_1).f0)) ∧ w'.cell? ⟨gb159, 1, none⟩ = some (.int .i64 ((rd_T100 l0_1 x5_1).f1)) ∧ w'.cell? (ad161.add (t160).toNat) = some (.int .i64 (rd t152 t160)) ∧ w'.cell? (ad161.add (t162).toNat) = some (.int .i64 (rd t152 t162))) (ds := []) #[false, false, false, false, false, false, false, false, false, false, false, false, false, false, false, false, false, false, false, false, false, false] (by kernel_rfl) rfl rfl ⟨(blk_cell BK151.out 0).trans rfl, (blk_cell BK151.out 1).trans rfl, (blk_cell BK159.out 0).trans rfl, (blk_cell BK159.out 1).trans rfl, hx161_0, hx163_0⟩ (fun hHeld => ?_); refine with_tabW spec_l5Links.tab7 spec_l5Links.bits7 (fun HT_ HW_ => ?_)
          generalize w46.drew = w47 at HO_3 HO_4 BK151 BK159 HB hx161_0 hx163_0 hHeld ⊢
          refine pA_ 0 (some 22) (bl 1 22) HT_.out (h := ?_)
          refine pA_ 2 (some 24) #[true, false, true, false, false, false, false, false, false, false, false, false, false, false, false, false, false, false, false, false, false, false] HT_.out (h := ?_)
          refine pA_ 7 (some 29) #[true, false, true, false, false, false, false, true, false, false, false, false, false, false, false, false, false, false, false, false, false, false] HT_.out (h := ?_)
          refine pA_ 9 (some 31) #[true, false, true, false, false, false, false, true, false, true, false, false, false, false, false, false, false, false, false, false, false, false] HT_.out (h := ?_)
          refine tA_ 1 (some 23) #[true, true, true, false, false, false, false, true, false, true, false, false, false, false, false, false, false, false, false, false, false, false] HT_.out HW_.out hHeld (h := ?_)
          refine tA_ 3 (some 25) #[true, true, true, true, false, false, false, true, false, true, false, false, false, false, false, false, false, false, false, false, false, false] HT_.out HW_.out hHeld (h := ?_)
          refine tA_ 8 (some 30) #[true, true, true, true, false, false, false, true, true, true, false, false, false, false, false, false, false, false, false, false, false, false] HT_.out HW_.out hHeld (h := ?_)
          refine tA_ 10 (some 32) #[true, true, true, true, false, false, false, true, true, true, true, false, false, false, false, false, false, false, false, false, false, false] HT_.out HW_.out hHeld (h := ?_)
          refine one_ (i := 4) (N := some 26) #[true, true, true, true, true, false, false, true, true, true, true, false, false, false, false, false, false, false, false, false, false, false] rfl rfl (one_of HT_.out (by kernel_rfl)) (by decide) (fun K hK => ?_)
          refine goes_ Try.func90 (by kernel_rfl) rfl #[.agg #[.slice A0_0 l0_0.length c0_0, .slice (some ad158) l0_1.length c0_1], .int .i64 ((rd_T100 l0_1 x5_1).f1)] (by rfl) rfl rfl (by (try simp only [List.map_toArray, List.map_cons, List.map_nil]); first | done | rfl | (simp only [List.length_drop, List.length_take]; rfl)) ?_
          with_reducible refine (spec_l2Find.calls _ _ l0_0 _ _ l0_1 ((rd_T100 l0_1 x5_1).f1) t160 _ ?side1 ?side2 ?side3 ?side4 A10.out).mono ?_
          (case side1 => exact cz_ (Kd.C_below HR0_0.out HB.out))
          (case side2 => exact HC0_0.out)
          (case side3 => exact cz_ (Kd.C_below HR0_1.out HB.out))
          (case side4 => exact HC0_1.out)
          rintro e w48 ⟨rfl, hb⟩
          have HS4_ := (hb.cell (World.block_lt_of_cell? _ _ (hHeld.2.2.2.2.1))).trans (hHeld.2.2.2.2.1)
          have HS5_ := (hb.cell (World.block_lt_of_cell? _ _ (hHeld.2.2.2.2.2))).trans (hHeld.2.2.2.2.2)
          refine ⟨_, rfl, ?_⟩
          have n0_ := Aside0.mk (Kd.R_below (rz_ HO_3.out) hb)
          have n1_ := Aside0.mk (Kd.R_below (rz_ HO_4.out) hb)
          have n2_ := Aside0.mk (blk_below (bz_ BK151.out) hb)
          have n3_ := Aside0.mk (blk_below (bz_ BK159.out) hb)
          have n4_ := Aside0.mk (below_step (by repeat (first | (with_reducible first | exact HB.out | apply below_alloc | apply pw_below_drewN | apply below_drew1 | refine below_set ?_ GE151.out | refine below_set ?_ GE159.out) | exact HB.out)) hb)
          clear HO_3
          clear HO_4
          clear BK151
          clear BK159
          clear HB
          have HO_3 := n0_
          have HO_4 := n1_
          have BK151 := n2_
          have BK159 := n3_
          have HB := n4_
          clear n0_ n1_ n2_ n3_ n4_
          (try clear hb)
          (try clear hb2)
          (try clear hk)
          (try clear hi)
          obtain ⟨Ao49, co49, eo49⟩ := Kd.R_slice HO_3.out
          (first | subst eo49 | (injection eo49 with f1_ f2_ f3_; have f4_ := f1_.symm; have f5_ := f3_.symm; clear f1_ f2_ f3_; subst f4_; subst f5_))
          refine hK.out _ _ ⟨(blk_cell BK151.out 0).trans rfl, (blk_cell BK151.out 1).trans rfl, (blk_cell BK159.out 0).trans rfl, (blk_cell BK159.out 1).trans rfl, HS4_, HS5_⟩ (fun hHeld => ?_)
          clear hK K
          refine norm_ (a' := ?_) ?_ ?_
          rotate_left
          ·show Act.put _ (some 26) _ = _
           simp only [Act.put, List.setIfInBounds_toArray, List.set_cons_zero, List.set_cons_succ, i64_w, i32_w]
           rfl
          refine pA_ 5 (some 27) #[true, true, true, true, true, true, false, true, true, true, true, false, false, false, false, false, false, false, false, false, false, false] HT_.out (h := ?_)
          refine tA_ 6 (some 28) (bl 11 22) HT_.out HW_.out hHeld (h := ?_)
          refine one_ (i := 11) (N := some 33) (bl 12 22) rfl rfl (one_of HT_.out (by kernel_rfl)) (by decide) (fun K hK => ?_)
          refine goes_ Try.func90 (by kernel_rfl) rfl #[.agg #[.slice A0_0 l0_0.length c0_0, .slice (some ad158) l0_1.length c0_1], .int .i64 ((rd_T100 l0_1 x5_1).f0)] (by rfl) rfl rfl (by (try simp only [List.map_toArray, List.map_cons, List.map_nil]); first | done | rfl | (simp only [List.length_drop, List.length_take]; rfl)) ?_
          with_reducible refine (spec_l2Find.calls _ _ l0_0 _ _ l0_1 ((rd_T100 l0_1 x5_1).f0) t162 _ ?side1 ?side2 ?side3 ?side4 A13.out).mono ?_
          (case side1 => exact cz_ (Kd.C_below HR0_0.out HB.out))
          (case side2 => exact HC0_0.out)
          (case side3 => exact cz_ (Kd.C_below HR0_1.out HB.out))
          (case side4 => exact HC0_1.out)
          rintro e w50 ⟨rfl, hb⟩
          have HS4_ := (hb.cell (World.block_lt_of_cell? _ _ (hHeld.2.2.2.2.1))).trans (hHeld.2.2.2.2.1)
          have HS5_ := (hb.cell (World.block_lt_of_cell? _ _ (hHeld.2.2.2.2.2))).trans (hHeld.2.2.2.2.2)
          refine ⟨_, rfl, ?_⟩
          have n0_ := Aside0.mk (Kd.R_below (rz_ HO_3.out) hb)
          have n1_ := Aside0.mk (Kd.R_below (rz_ HO_4.out) hb)
          have n2_ := Aside0.mk (blk_below (bz_ BK151.out) hb)
          have n3_ := Aside0.mk (blk_below (bz_ BK159.out) hb)
          have n4_ := Aside0.mk (below_step (by repeat (first | (with_reducible first | exact HB.out | apply below_alloc | apply pw_below_drewN | apply below_drew1 | refine below_set ?_ GE151.out | refine below_set ?_ GE159.out) | exact HB.out)) hb)
          clear HO_3
          clear HO_4
          clear BK151
          clear BK159
          clear HB
          have HO_3 := n0_
          have HO_4 := n1_
          have BK151 := n2_
          have BK159 := n3_
          have HB := n4_
          clear n0_ n1_ n2_ n3_ n4_
          (try clear hb)
          (try clear hb2)
          (try clear hk)
          (try clear hi)
          refine hK.out _ _ ⟨(blk_cell BK151.out 0).trans rfl, (blk_cell BK151.out 1).trans rfl, (blk_cell BK159.out 0).trans rfl, (blk_cell BK159.out 1).trans rfl, HS4_, HS5_⟩ (fun hHeld => ?_)
          clear hK K
          refine norm_ (a' := ?_) ?_ ?_
          rotate_left
          ·show Act.put _ (some 33) _ = _
           simp only [Act.put, List.setIfInBounds_toArray, List.set_cons_zero, List.set_cons_succ, i64_w, i32_w]
           rfl
          refine pA_ 12 (some 34) (bl 13 22) HT_.out (h := ?_)
          refine tA_ 13 (some 35) (bl 14 22) HT_.out HW_.out hHeld (h := ?_)
          refine pA_ 14 (some 36) (bl 15 22) HT_.out (h := ?_)
          refine pA_ 15 (some 37) (bl 16 22) HT_.out (h := ?_)
          refine pA_ 16 (some 38) (bl 17 22) HT_.out (h := ?_)
          refine pO_ 17 (some 39) (bl 18 22) HT_.out (h := ?_)
          refine pO_ 18 (some 40) (bl 19 22) HT_.out (h := ?_)
          refine pO_ 19 (some 41) (bl 20 22) HT_.out (h := ?_)
          refine pO_ 20 (some 42) (bl 21 22) HT_.out (h := ?_)
          refine pA_ 21 (some 43) (bl 22 22) HT_.out (h := ?_)
          refine done_ (done_of HT_.out (by kernel_rfl)) ?_
          try go_wp2
          go_roundg k1
          case measure => have := HK1.out; omega
          case rel => exact ⟨(x4_1), (wrap64 (x5_1 + 1)), (by first | rfl | (simp; done) | (simp [*]; done)), H', ⟨by have := HK1.out; omega⟩, ⟨rz_ HO_3.out⟩, ⟨rz_ (Kd.R_mono HO_4.out (fun _ hk => trivial))⟩, ⟨bz_ BK151.out⟩, ⟨by repeat (first | (with_reducible first | exact HB.out | apply below_alloc | apply pw_below_drewN | apply below_drew1 | refine below_set ?_ GE151.out | refine below_set ?_ GE159.out) | exact HB.out)⟩⟩
        ·rw [if_neg c15] at H
         exact absurd H (by simp)
       ·rw [if_neg c14] at H
        exact absurd H (by simp)
      ·rw [if_neg c12] at H
       exact absurd H (by simp)
     ·rw [if_neg c11] at H
      exact absurd H (by simp)
    ·rw [if_neg c9] at H
     exact absurd H (by simp)
   ·rw [if_neg c8] at H
    have c8b0 : decide (x5_1 < (l0_1.length : Int)) = false := decide_eq_false c8
    clear c8
    obtain rfl := Option.some.inj H
    have hcz51_0 : wr.cell? ⟨gb151, 0, none⟩ = some (.slice A0_0 l0_0.length c0_0) := (blk_cell BK151.out 0).trans rfl
    have hcz51_1 : wr.cell? ⟨gb151, 1, none⟩ = some (.slice A0_1 l0_1.length c0_1) := (blk_cell BK151.out 1).trans rfl
    have hfz51_0 := blk_frozen BK151.out 0
    have hfz51_1 := blk_frozen BK151.out 1
    go_wp2
    go_ret
    exact ⟨_, by first | rfl | (simp [errW_none, errW_some] <;> rfl) | (simp [*, errW_none, errW_some] <;> rfl), rz_ HO_4.out, by repeat (first | (with_reducible first | exact HB.out | apply below_alloc | apply pw_below_drewN | apply below_drew1 | refine below_set ?_ GE151.out) | exact HB.out)⟩

end Go.Proofs.Ytlbkoejpjpcgaaa.Q

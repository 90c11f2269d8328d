-- Written by a program of this session (wip/xprint.py over the kit's printer).
import Derived.Test.YtdpehkfjhfjobaaQ0
import Derived.Test.YtdpehkfjhfjobaaQF111
import Derived.Test.YtdpehkfjhfjobaaQF59
import Derived.Test.YtdpehkfjhfjobaaQF60
import Derived.Test.YtdpehkfjhfjobaaQF61
import Derived.Test.YtdpehkfjhfjobaaQF64
import Derived.Test.YtdpehkfjhfjobaaQF67
import Derived.Test.YtdpehkfjhfjobaaQF80
import Derived.Test.YtdpehkfjhfjobaaQF81
import Derived.Test.YtdpehkfjhfjobaaQF90
import Derived.Test.YtdpehkfjhfjobaaQP
namespace Go.Proofs.Ytdpehkfjhfjobaa.Q
open Go.RowKit Go.Proofs.YtdpehkfjhfjobaaW.PrintWords Go.Proofs.YtdpehkfjhfjobaaW.PrintLast Go.Proofs.YtdpehkfjhfjobaaW.PrintMore
attribute [local go_sem] max2_int min2_int max_two min_two max_three min_three max_four min_four   -- for this text's walks alone
set_option linter.unusedVariables false
set_option linter.unusedSimpArgs false

/-! ### impl_ContradictoryRelations: function 38 -/
def badRels (cs : List S76) (rs : List S90) (M : Nat → Nat → Bool) : List S90 := rs.filter fun x => M (find cs x.f1).toNat (find cs x.f0).toNat
def impl_ContradictoryRelations.f (l0_0 : List S76) (l0_1 : List S90) : Option (List S90 × Bool) := some (if goodB l0_0 l0_1 then (badRels l0_0 l0_1 (lat l0_0 l0_1), true) else ([], false))
def impl_ContradictoryRelations.T1 : Bool × List (List Nat × List Nat) := (true, [([], []), ([0], [0]), ([1], [1]), ([2], [2]), ([], []), ([], []), ([5], [5]), ([4, 6], [4, 6]), ([3, 7], [3, 7]), ([8], [8]), ([], []), ([], []), ([11], [11]), ([10, 12, 7], [10, 12]), ([9, 13], [9, 13]), ([14], [14]), ([15], [15]), ([16, 13, 0, 1, 2, 3, 4, 5, 6, 7, 8, 9, 10, 11, 12, 13, 14, 15, 16], [16])])
def impl_ContradictoryRelations.B1 : List Nat := [0, 1, 3, 7, 0, 0, 32, 112, 255, 511, 0, 0, 2048, 7408, 16383, 32767, 65535, 131071]
theorem impl_ContradictoryRelations.tab1 : rtab .any (opsOf Try.f82 1) = impl_ContradictoryRelations.T1 := by kernel_rfl
theorem impl_ContradictoryRelations.bits1 : waitsOk impl_ContradictoryRelations.T1.2 impl_ContradictoryRelations.B1 = true := by kernel_rfl
set_option maxHeartbeats 8000000 in
set_option maxRecDepth 100000 in
theorem impl_ContradictoryRelations.pred (ws : World) (A0_0 : Option Addr) (c0_0 : Nat) (l0_0 : List S76) (A0_1 : Option Addr) (c0_1 : Nat) (l0_1 : List S90) (hr0_0 : Kd.C k76 ws A0_0 l0_0.length l0_0) (hc0_0 : l0_0.length ≤ c0_0) (hr0_1 : Kd.C k90 ws A0_1 l0_1.length l0_1) (hc0_1 : l0_1.length ≤ c0_1) (hin : relsIn l0_0 l0_1) (w0 : World) (p N1 N2 : Nat) (vn : Value) (ns : List Int) (M1 M2 : Nat → Nat → Bool) (bo br base : Nat) (ok : Nat → Prop) (v : Value) (w : World) (hbw : Below ws.heap.size ws w) (hw0 : w0.heap.size ≤ base) (hws : ws.heap.size ≤ base) (H : OrdIn w0 w p N1 N2 l0_0.length vn ns M1 M2) (HR : Kd.R k90 90 w base ok v l0_1) (bvo : w.heap[bo]? = some (.cells #[.pointer (some ⟨p, 0, none⟩)] 66 (0, 0))) (bvr : w.heap[br]? = some (.cells #[.slice A0_0 l0_0.length c0_0, .slice A0_1 l0_1.length c0_1] 32 (0, 0))) :
    PredVon Try.prog 82 #[.pointer (some ⟨bo, 0, none⟩), .pointer (some ⟨br, 0, none⟩)] enc90 (fun x => !(M2 (find l0_0 x.f1).toNat (find l0_0 x.f0).toNat)) v w l0_1 := by
  intro W x hx hB
  obtain ⟨a, ha, hal⟩ := find_nat l0_0 x.f1 (hin x hx).2
  obtain ⟨b, hb, hbl⟩ := find_nat l0_0 x.f0 (hin x hx).1
  have A1 := Aside0.mk (show impl_indexOf.f l0_0 l0_1 x.f1 = some (a : Int) from congrArg some ha)
  have A2 := Aside0.mk (show impl_indexOf.f l0_0 l0_1 x.f0 = some (b : Int) from congrArg some hb)
  have HO := OrdIn.other H HR hw0 hB (by decide) (by decide) (by decide) (by decide)
  have HVO := blk_grown bvo hB (Kd.R_ne HR bvo (by decide))
  have HVR := blk_grown bvr hB (Kd.R_ne HR bvr (by decide))
  have HWW := Aside0.mk (below_of_grown hbw hB (fun k hk => Nat.le_trans hws (Kd.R_base HR k hk)))
  have HR0 := Aside0.mk hr0_0
  have HR1 := Aside0.mk hr0_1
  have HC0 := Aside0.mk hc0_0
  have HC1 := Aside0.mk hc0_1
  have haz : (a : Int) < (l0_0.length : Int) := by omega
  have hbz : (b : Int) < (l0_0.length : Int) := by omega
  rw [show (fun x : S90 => !(M2 (find l0_0 x.f1).toNat (find l0_0 x.f0).toNat)) x = !(M2 a b) from by show (!(M2 (find l0_0 x.f1).toNat (find l0_0 x.f0).toNat)) = _; rw [ha, hb, Int.toNat_natCast, Int.toNat_natCast]]
  unfold enc90
  have hal1 := below_alloc (Below.refl W.heap.size W) (.cells #[.int .i64 x.f0, .int .i64 x.f1] 90 (0, 0))
  have HO2 := HO.step hal1
  have BX := heap_alloc_new W (.cells #[.int .i64 x.f0, .int .i64 x.f1] 90 (0, 0))
  have HS1 := Aside0.mk (show (fun w' : World => w'.cell? ⟨bo, 0, none⟩ = some (.pointer (some ⟨p, 0, none⟩)) ∧ w'.cell? ⟨br, 0, none⟩ = some (.slice A0_0 l0_0.length c0_0) ∧ w'.cell? ⟨br, 1, none⟩ = some (.slice A0_1 l0_1.length c0_1) ∧ w'.cell? ⟨W.heap.size, 0, none⟩ = some (.int .i64 x.f0) ∧ w'.cell? ⟨W.heap.size, 1, none⟩ = some (.int .i64 x.f1) ∧ w'.cell? ⟨p, 2, none⟩ = some (.slice (some ⟨N2, 0, none⟩) l0_0.length l0_0.length) ∧ w'.cell? ⟨N2, a, none⟩ = some (.slice (some ⟨N2 + 1 + a, 0, none⟩) l0_0.length l0_0.length) ∧ w'.cell? ⟨N2 + 1 + a, b, none⟩ = some (.bool (M2 a b)) ∧ Aside0 (Below ws.heap.size ws w') ∧ Aside0 (Below W.heap.size W w')) (W.alloc (.cells #[.int .i64 x.f0, .int .i64 x.f1] 90 (0, 0))).drew from ⟨(blk_cell (blk_alloc HVO _) 0).trans rfl, (blk_cell (blk_alloc HVR _) 0).trans rfl, (blk_cell (blk_alloc HVR _) 1).trans rfl, (blk_cell BX 0).trans rfl, (blk_cell BX 1).trans rfl, HO2.drew.c2, HO2.drew.m2.topc hal, HO2.drew.m2.cell hal hbl, ⟨below_drew1 (below_chain HWW.out hal1)⟩, ⟨below_drew1 hal1⟩⟩)
  clear hr0_0 hr0_1 hc0_0 hc0_1 hin H HR bvo bvr hbw hw0 hws hB HO HVO HVR HO2 BX hal1 HWW ha hb hx
  obtain ⟨mb, hmb⟩ : ∃ m, M2 a b = m := ⟨_, rfl⟩
  rw [hmb] at HS1 ⊢
  clear hmb
  go_enter Try.func82, Try.ntmps82
  go_upto_region 1 with (fail)
  generalize W.alloc (.cells #[.int .i64 x.f0, .int .i64 x.f1] 90 (0, 0)) = wq2 at HS1 ⊢
  cases mb
  all_goals refine start_ (n := 18) (S := (fun w' => w'.cell? ⟨bo, 0, none⟩ = some (.pointer (some ⟨p, 0, none⟩)) ∧ w'.cell? ⟨br, 0, none⟩ = some (.slice A0_0 l0_0.length c0_0) ∧ w'.cell? ⟨br, 1, none⟩ = some (.slice A0_1 l0_1.length c0_1) ∧ w'.cell? ⟨W.heap.size, 0, none⟩ = some (.int .i64 x.f0) ∧ w'.cell? ⟨W.heap.size, 1, none⟩ = some (.int .i64 x.f1) ∧ w'.cell? ⟨p, 2, none⟩ = some (.slice (some ⟨N2, 0, none⟩) l0_0.length l0_0.length) ∧ w'.cell? ⟨N2, a, none⟩ = some (.slice (some ⟨N2 + 1 + a, 0, none⟩) l0_0.length l0_0.length) ∧ w'.cell? ⟨N2 + 1 + a, b, none⟩ = some (.bool _) ∧ Aside0 (Below ws.heap.size ws w') ∧ Aside0 (Below W.heap.size W w'))) (ds := []) (bl 0 18) (by kernel_rfl) rfl rfl HS1.out (fun hHeld => ?_); refine with_tabW impl_ContradictoryRelations.tab1 impl_ContradictoryRelations.bits1 (fun HT_ HW_ => ?_)
  all_goals generalize wq2.drew = wv at hHeld ⊢
  all_goals first | refine pA_ 5 (some 10) (bx 0 [5] 18) HT_.out (h := ?_) | refine pO_ 5 (some 10) (bx 0 [5] 18) HT_.out (h := ?_)
  all_goals first | refine pA_ 11 (some 16) (bx 0 [5, 11] 18) HT_.out (h := ?_) | refine pO_ 11 (some 16) (bx 0 [5, 11] 18) HT_.out (h := ?_)
  all_goals first | refine tA_ 0 (some 5) (bx 1 [5, 11] 18) HT_.out HW_.out hHeld (h := ?_) | refine pO_ 0 (some 5) (bx 1 [5, 11] 18) HT_.out (h := ?_)
  all_goals first | refine pA_ 1 (some 6) (bx 2 [5, 11] 18) HT_.out (h := ?_) | refine pO_ 1 (some 6) (bx 2 [5, 11] 18) HT_.out (h := ?_)
  all_goals first | refine pA_ 2 (some 7) (bx 3 [5, 11] 18) HT_.out (h := ?_) | refine pO_ 2 (some 7) (bx 3 [5, 11] 18) HT_.out (h := ?_)
  all_goals first | refine tA_ 3 (some 8) (bx 4 [5, 11] 18) HT_.out HW_.out hHeld (h := ?_) | refine pO_ 3 (some 8) (bx 4 [5, 11] 18) HT_.out (h := ?_)
  all_goals first | refine tA_ 4 (some 9) (bx 6 [11] 18) HT_.out HW_.out hHeld (h := ?_) | refine pO_ 4 (some 9) (bx 6 [11] 18) HT_.out (h := ?_)
  all_goals first | refine tA_ 6 (some 11) (bx 7 [11] 18) HT_.out HW_.out hHeld (h := ?_) | refine pO_ 6 (some 11) (bx 7 [11] 18) HT_.out (h := ?_)
  all_goals first | refine tA_ 10 (some 15) (bx 7 [10, 11] 18) HT_.out HW_.out hHeld (h := ?_) | refine pO_ 10 (some 15) (bx 7 [10, 11] 18) HT_.out (h := ?_)
  all_goals first | refine tA_ 12 (some 17) (bx 7 [10, 11, 12] 18) HT_.out HW_.out hHeld (h := ?_) | refine pO_ 12 (some 17) (bx 7 [10, 11, 12] 18) HT_.out (h := ?_)
  all_goals first | refine pO_ 7 (some 12) (bx 8 [10, 11, 12] 18) HT_.out (h := ?_) | (refine one_ (i := 7) (N := some 12) (bx 8 [10, 11, 12] 18) rfl rfl (one_of HT_.out (by kernel_rfl)) (by decide) (fun K hK => ?_); refine goes_ Try.func67 (by kernel_rfl) rfl #[.agg #[.slice A0_0 l0_0.length c0_0, .slice A0_1 l0_1.length c0_1], .int .i64 x.f1] (by rfl) rfl rfl (by (try simp only [List.map_toArray, List.map_cons, List.map_nil]); first | done | rfl) ?_; with_reducible refine (impl_indexOf.calls _ _ l0_0 _ _ l0_1 x.f1 _ _ (Kd.C_below HR0.out hHeld.2.2.2.2.2.2.2.2.1.out) HC0.out (Kd.C_below HR1.out hHeld.2.2.2.2.2.2.2.2.1.out) HC1.out A1.out).mono ?_; rintro e w1 ⟨rfl, hb⟩; refine ⟨_, rfl, ?_⟩; refine hK.out _ _ ⟨pw_cell_below hb hHeld.1, pw_cell_below hb hHeld.2.1, pw_cell_below hb hHeld.2.2.1, pw_cell_below hb hHeld.2.2.2.1, pw_cell_below hb hHeld.2.2.2.2.1, pw_cell_below hb hHeld.2.2.2.2.2.1, pw_cell_below hb hHeld.2.2.2.2.2.2.1, pw_cell_below hb hHeld.2.2.2.2.2.2.2.1, ⟨below_chain hHeld.2.2.2.2.2.2.2.2.1.out hb⟩, ⟨below_chain hHeld.2.2.2.2.2.2.2.2.2.out hb⟩⟩ (fun hHeld => ?_); clear hK K; refine norm_ (a' := ?_) ?_ ?_; rotate_left; (show Act.put _ (some 12) _ = _; simp only [Act.put, List.setIfInBounds_toArray, List.set_cons_zero, List.set_cons_succ, i64_w, i32_w]; rfl))
  all_goals first | refine pA_ 8 (some 13) (bx 9 [10, 11, 12] 18) HT_.out (h := ?_) | refine pO_ 8 (some 13) (bx 9 [10, 11, 12] 18) HT_.out (h := ?_)
  all_goals first | refine tA_ 9 (some 14) (bl 13 18) HT_.out HW_.out hHeld (h := ?_) | refine pO_ 9 (some 14) (bl 13 18) HT_.out (h := ?_)
  all_goals first | refine pO_ 13 (some 18) (bl 14 18) HT_.out (h := ?_) | (refine one_ (i := 13) (N := some 18) (bl 14 18) rfl rfl (one_of HT_.out (by kernel_rfl)) (by decide) (fun K hK => ?_); refine goes_ Try.func67 (by kernel_rfl) rfl #[.agg #[.slice A0_0 l0_0.length c0_0, .slice A0_1 l0_1.length c0_1], .int .i64 x.f0] (by rfl) rfl rfl (by (try simp only [List.map_toArray, List.map_cons, List.map_nil]); first | done | rfl) ?_; with_reducible refine (impl_indexOf.calls _ _ l0_0 _ _ l0_1 x.f0 _ _ (Kd.C_below HR0.out hHeld.2.2.2.2.2.2.2.2.1.out) HC0.out (Kd.C_below HR1.out hHeld.2.2.2.2.2.2.2.2.1.out) HC1.out A2.out).mono ?_; rintro e w2 ⟨rfl, hb⟩; refine ⟨_, rfl, ?_⟩; refine hK.out _ _ ⟨pw_cell_below hb hHeld.1, pw_cell_below hb hHeld.2.1, pw_cell_below hb hHeld.2.2.1, pw_cell_below hb hHeld.2.2.2.1, pw_cell_below hb hHeld.2.2.2.2.1, pw_cell_below hb hHeld.2.2.2.2.2.1, pw_cell_below hb hHeld.2.2.2.2.2.2.1, pw_cell_below hb hHeld.2.2.2.2.2.2.2.1, ⟨below_chain hHeld.2.2.2.2.2.2.2.2.1.out hb⟩, ⟨below_chain hHeld.2.2.2.2.2.2.2.2.2.out hb⟩⟩ (fun hHeld => ?_); clear hK K; refine norm_ (a' := ?_) ?_ ?_; rotate_left; (show Act.put _ (some 18) _ = _; simp only [Act.put, List.setIfInBounds_toArray, List.set_cons_zero, List.set_cons_succ, i64_w, i32_w]; rfl))
  all_goals first | refine pA_ 14 (some 19) (bl 15 18) HT_.out (h := ?_) | refine pO_ 14 (some 19) (bl 15 18) HT_.out (h := ?_)
  all_goals first | refine tA_ 15 (some 20) (bl 16 18) HT_.out HW_.out hHeld (h := ?_) | refine pO_ 15 (some 20) (bl 16 18) HT_.out (h := ?_)
  all_goals first | refine pA_ 16 (some 21) (bl 17 18) HT_.out (h := ?_) | refine pO_ 16 (some 21) (bl 17 18) HT_.out (h := ?_)
  all_goals first | refine pA_ 17 (some 4) (bl 18 18) HT_.out (h := ?_) | refine pO_ 17 (some 4) (bl 18 18) HT_.out (h := ?_)
  all_goals refine done_ (done_of HT_.out (by kernel_rfl)) ?_
  all_goals (go_wp2; go_ret; exact ⟨rfl, hHeld.2.2.2.2.2.2.2.2.2.out⟩)
set_option maxHeartbeats 8000000 in
set_option maxRecDepth 100000 in
theorem impl_ContradictoryRelations.calls (A0_0 : Option Addr) (c0_0 : Nat) (l0_0 : List S76) (A0_1 : Option Addr) (c0_1 : Nat) (l0_1 : List S90) (r1 : List S90) (r2 : Bool) (w : World) (hr0_0 : Kd.C k76 w A0_0 l0_0.length l0_0) (hc0_0 : l0_0.length ≤ c0_0) (hr0_1 : Kd.C k90 w A0_1 l0_1.length l0_1) (hc0_1 : l0_1.length ≤ c0_1) (h : impl_ContradictoryRelations.f l0_0 l0_1 = some (r1, r2)) :
    Calls Try.prog 38 #[.agg #[.slice A0_0 l0_0.length c0_0, .slice A0_1 l0_1.length c0_1]] w fun e w' => ∃ v0_ : Value, e = .returned (.tuple #[v0_, .bool r2]) ∧ Kd.R k90 90 w' w.heap.size (fun _ => True) v0_ r1 ∧ Below w.heap.size w w' := by
  have H := Option.some.inj h
  clear h
  have HR0 := Aside0.mk hr0_0
  have HR1 := Aside0.mk hr0_1
  have HC0 := Aside0.mk hc0_0
  have HC1 := Aside0.mk hc0_1
  clear hr0_0 hr0_1 hc0_0 hc0_1
  obtain ⟨wb, hwb⟩ : ∃ wb, (w).alloc (.cells #[.slice A0_0 l0_0.length c0_0, .slice A0_1 l0_1.length c0_1] 32 (0, 0)) = wb := ⟨_, rfl⟩
  have HBw := Aside0.mk (show Below w.heap.size w wb from by rw [← hwb]; repeat (first | exact Below.refl _ _ | apply below_alloc))
  have HWB := HBw
  have hhr : wb.heap[w.heap.size]? = some (.cells #[.slice A0_0 l0_0.length c0_0, .slice A0_1 l0_1.length c0_1] 32 (0, 0)) := by rw [← hwb]; have h := blk_new (w) (.cells #[.slice A0_0 l0_0.length c0_0, .slice A0_1 l0_1.length c0_1] 32 (0, 0)); rw [show (w).heap.size = w.heap.size from by rfl] at h; exact h
  have hb0 : wb.cell? ⟨w.heap.size, 0, none⟩ = some (.slice A0_0 l0_0.length c0_0) := (blk_cell hhr 0).trans rfl
  have hb1 : wb.cell? ⟨w.heap.size, 1, none⟩ = some (.slice A0_1 l0_1.length c0_1) := (blk_cell hhr 1).trans rfl
  have hbs : w.heap.size < wb.heap.size := blk_lt hhr
  have HW := Aside0.mk hwb
  clear hwb
  obtain ⟨b, hb⟩ : ∃ b, goodB l0_0 l0_1 = b := ⟨_, rfl⟩
  have AV := Aside0.mk (show impl_IsValidRecord.f l0_0 l0_1 = some b from congrArg some hb)
  rw [hb] at H
  have eg := enters_of Try.func82 (by kernel_rfl) rfl
  cases b with
  | false =>
    clear hb hhr
    injection H with H1 H2
    subst H1; subst H2
    go_enter Try.func38, Try.ntmps38
    go_upto_region 1 with (fail)
    try rw [HW.out]
    clear HW
    go_wp2_with (go_at_call 59; (with_reducible refine (impl_IsValidRecord.calls _ _ l0_0 _ _ l0_1 _ _ (Kd.C_below HR0.out (by repeat (first | exact HBw.out | exact Below.refl _ _ | apply below_alloc | apply pw_below_drewN | apply below_drew1))) HC0.out (Kd.C_below HR1.out (by repeat (first | exact HBw.out | exact Below.refl _ _ | apply below_alloc | apply pw_below_drewN | apply below_drew1))) HC1.out AV.out).mono ?_); rintro e w1 ⟨rfl, hb⟩; have HBw : Aside0 (Below w.heap.size w w1) := Aside0.mk (below_chain (w := w) (by repeat (first | exact HBw.out | exact Below.refl _ _ | apply below_alloc | apply pw_below_drewN | apply below_drew1)) hb); have hb0 := pw_cell_below hb hb0; clear hb)
    go_ret2
    exact ⟨_, rfl, Kd.R_nil _ _ _ _ _, (by repeat (first | exact HBw.out | exact Below.refl _ _ | apply below_alloc | apply pw_below_drewN | apply below_drew1))⟩
  | true =>
    have HG := Aside0.mk (goodB_parts hb)
    have AC := Aside0.mk (show impl_Relation_81.f l0_1 = some l0_1 from by
      have h1 := HG.out.2.1
      unfold impl_Relation_81.f
      exact if_pos (by omega))
    have BR := Aside0.mk hhr
    clear hb hhr
    injection H with H1 H2
    subst H1; subst H2
    go_enter Try.func38, Try.ntmps38
    go_upto_region 1 with (fail)
    try rw [HW.out]
    clear HW
    go_upto_region 4 with (first | (go_at_call 59; (with_reducible refine (impl_IsValidRecord.calls _ _ l0_0 _ _ l0_1 _ _ (Kd.C_below HR0.out (by repeat (first | exact HBw.out | exact Below.refl _ _ | apply below_alloc | apply pw_below_drewN | apply below_drew1))) HC0.out (Kd.C_below HR1.out (by repeat (first | exact HBw.out | exact Below.refl _ _ | apply below_alloc | apply pw_below_drewN | apply below_drew1))) HC1.out AV.out).mono ?_); rintro e w1 ⟨rfl, hb⟩; have HBw : Aside0 (Below w.heap.size w w1) := Aside0.mk (below_chain (w := w) (by repeat (first | exact HBw.out | exact Below.refl _ _ | apply below_alloc | apply pw_below_drewN | apply below_drew1)) hb); have hb0 := pw_cell_below hb hb0; have hb1 := pw_cell_below hb hb1; have BR := Aside0.mk (blk_below BR.out hb); clear hb) | (go_at_call 60; (refine (impl_orderOf.calls _ _ l0_0 _ _ l0_1 _ (Kd.C_below HR0.out (by repeat (first | exact HBw.out | exact Below.refl _ _ | apply below_alloc | apply pw_below_drewN | apply below_drew1))) HC0.out (Kd.C_below HR1.out (by repeat (first | exact HBw.out | exact Below.refl _ _ | apply below_alloc | apply pw_below_drewN | apply below_drew1))) HC1.out HG.out.1 HG.out.2.1 HG.out.2.2).mono ?_); rintro e w2 ⟨p, rfl, N1, N2, v, HO⟩; obtain ⟨A, c, rfl, hc⟩ := HO.slice (nums_length l0_0); have hb := HO.below; have HW1 := Aside0.mk HBw.out.size; have HBw : Aside0 (Below w.heap.size w w2) := Aside0.mk (below_chain (w := w) (by repeat (first | exact HBw.out | exact Below.refl _ _ | apply below_alloc | apply pw_below_drewN | apply below_drew1)) hb); have hb0 := pw_cell_below hb hb0; have hb1 := pw_cell_below hb hb1; have HOA := Aside0.mk HO; have BR := Aside0.mk (blk_below BR.out hb); clear hb HO))
    obtain ⟨gv, hgv⟩ : ∃ g, w2.heap.size = g := ⟨_, rfl⟩
    have HBO := Aside0.mk (below_alloc (Below.refl w2.heap.size w2) (.cells #[.pointer (some ⟨p, 0, none⟩)] 66 (0, 0)))
    have BV := Aside0.mk (blk_new w2 (.cells #[.pointer (some ⟨p, 0, none⟩)] 66 (0, 0)))
    generalize w2.alloc (.cells #[.pointer (some ⟨p, 0, none⟩)] 66 (0, 0)) = wq at HBO BV ⊢
    rw [hgv] at BV
    try rw [hgv]
    have HOA := Aside0.mk (HOA.out.step HBO.out)
    have HBw := Aside0.mk (below_chain HBw.out HBO.out)
    have hb0 := pw_cell_below HBO.out hb0
    have hb1 := pw_cell_below HBO.out hb1
    have hz : wq.cell? ⟨gv, 0, none⟩ = some (.pointer (some ⟨p, 0, none⟩)) := (blk_cell BV.out 0).trans rfl
    clear hgv
    have BR := Aside0.mk (blk_below BR.out HBO.out)
    go_wp2_with (first | (go_at_call 81; (with_reducible refine (impl_Relation_81.calls _ _ l0_1 l0_1 _ (Kd.C_below HR1.out (by repeat (first | exact HBw.out | exact Below.refl _ _ | apply below_alloc | apply pw_below_drewN | apply below_drew1))) HC1.out AC.out).mono ?_); rintro e w3 ⟨v0, rfl, hR, hb⟩; have HRc := Aside0.mk hR; have HSZ := Aside0.mk HBw.out.size; have HSO := Aside0.mk HOA.out.below.size; have HBw : Aside0 (Below w.heap.size w w3) := Aside0.mk (below_chain (w := w) (by repeat (first | exact HBw.out | exact Below.refl _ _ | apply below_alloc | apply pw_below_drewN | apply below_drew1)) hb); have hb0 := pw_cell_below hb hb0; have hb1 := pw_cell_below hb hb1; have hz := pw_cell_below hb hz; have BV := Aside0.mk (blk_below BV.out hb); have BR := Aside0.mk (blk_below BR.out hb); have HOA := Aside0.mk (HOA.out.step hb); clear hb hR) | (go_at_call 80; (refine (impl_Relation_80.callsOn 82 _ eg _ v0 l0_1 _ _ _ HRc.out (impl_ContradictoryRelations.pred w A0_0 c0_0 l0_0 A0_1 c0_1 l0_1 HR0.out HC0.out HR1.out HC1.out HG.out.2.2 _ p N1 N2 _ _ _ _ gv w.heap.size _ _ v0 _ HBw.out HSO.out HSZ.out HOA.out HRc.out BV.out BR.out)).mono ?_); rintro e w4 ⟨v1, rfl, hR, hg⟩; have HR4 := Aside0.mk hR; have HB4 := Aside0.mk (below_of_grown HBw.out hg (fun b hb => Nat.le_trans HSZ.out (Kd.R_base HRc.out b hb))); clear hR hg))
    go_ret2
    exact ⟨_, rfl, by have h := Kd.R_lower HR4.out HSZ.out; simp only [Bool.not_not] at h; exact h, HB4.out⟩

end Go.Proofs.Ytdpehkfjhfjobaa.Q

-- Written by a program of this session (wip/xprint.py over the kit's printer).
import Derived.Test.YtdpehkfjhfjobaaQ0
import Derived.Test.YtdpehkfjhfjobaaQF60
import Derived.Test.YtdpehkfjhfjobaaQF61
import Derived.Test.YtdpehkfjhfjobaaQF64
import Derived.Test.YtdpehkfjhfjobaaQF66
import Derived.Test.YtdpehkfjhfjobaaQF67
import Derived.Test.YtdpehkfjhfjobaaQF68
import Derived.Test.YtdpehkfjhfjobaaQP
namespace Go.Proofs.Ytdpehkfjhfjobaa.Q
open Go.RowKit Go.Proofs.YtdpehkfjhfjobaaW.PrintWords Go.Proofs.YtdpehkfjhfjobaaW.PrintLast Go.Proofs.YtdpehkfjhfjobaaW.PrintMore
attribute [local go_sem] max2_int min2_int max_two min_two max_three min_three max_four min_four   -- for this text's walks alone
set_option linter.unusedVariables false
set_option linter.unusedSimpArgs false

/-! ### impl_DepthOf: function 21 -/
theorem rd_at (ds : List Int) (k : Nat) : rd ds (k : Int) = ds.getD k 0 := by simp [rd]
def impl_DepthOf.f (l0_0 : List S76) (l0_1 : List S90) (a1 : Int) : Option (Int × Bool) := some (if goodB l0_0 l0_1 && consB l0_0.length (lat l0_0 l0_1) && decide (0 ≤ find l0_0 a1) then ((dAll (abv l0_0 l0_1) l0_0.length l0_0.length).getD (find l0_0 a1).toNat 0, true) else (0, false))
def impl_DepthOf.T4 : Bool × List (List Nat × List Nat) := (true, [([], []), ([0], [0]), ([], []), ([], []), ([2, 3, 1], [2, 3]), ([1, 4], [1, 4]), ([5], [5]), ([6, 4, 0, 1, 2, 3, 4, 5, 6], [6]), ([7, 0, 1, 2, 3, 4, 5, 6, 7], [])])
def impl_DepthOf.B4 : List Nat := [0, 1, 0, 0, 15, 31, 63, 127, 255]
theorem impl_DepthOf.tab4 : rtab .any (opsOf Try.f21 4) = impl_DepthOf.T4 := by kernel_rfl
theorem impl_DepthOf.bits4 : waitsOk impl_DepthOf.T4.2 impl_DepthOf.B4 = true := by kernel_rfl
set_option maxHeartbeats 8000000 in
set_option maxRecDepth 100000 in
theorem impl_DepthOf.calls (A0_0 : Option Addr) (c0_0 : Nat) (l0_0 : List S76) (A0_1 : Option Addr) (c0_1 : Nat) (l0_1 : List S90) (a1 : Int) (r1 : Int) (r2 : Bool) (w : World) (hr0_0 : Kd.C k76 w A0_0 l0_0.length l0_0) (hc0_0 : l0_0.length ≤ c0_0) (hr0_1 : Kd.C k90 w A0_1 l0_1.length l0_1) (hc0_1 : l0_1.length ≤ c0_1) (h : impl_DepthOf.f l0_0 l0_1 a1 = some (r1, r2)) :
    Calls Try.prog 21 #[.agg #[.slice A0_0 l0_0.length c0_0, .slice A0_1 l0_1.length c0_1], .int .i64 a1] w fun e w' => e = .returned (.tuple #[.int .i64 r1, .bool r2]) ∧ Below w.heap.size w w' := by
  have H := Option.some.inj h
  clear h
  have HR0 := Aside0.mk hr0_0
  have HR1 := Aside0.mk hr0_1
  have HC0 := Aside0.mk hc0_0
  have HC1 := Aside0.mk hc0_1
  clear hr0_0 hr0_1 hc0_0 hc0_1
  obtain ⟨wb, hwb⟩ : ∃ wb, (w).alloc (.cells #[.slice A0_0 l0_0.length c0_0, .slice A0_1 l0_1.length c0_1] 32 (0, 0)) = wb := ⟨_, rfl⟩
  have HBw := Aside0.mk (show Below w.heap.size w wb from by rw [← hwb]; repeat (first | exact Below.refl _ _ | apply below_alloc))
  have HWB := HBw
  have hhr : wb.heap[w.heap.size]? = some (.cells #[.slice A0_0 l0_0.length c0_0, .slice A0_1 l0_1.length c0_1] 32 (0, 0)) := by rw [← hwb]; have h := blk_new (w) (.cells #[.slice A0_0 l0_0.length c0_0, .slice A0_1 l0_1.length c0_1] 32 (0, 0)); rw [show (w).heap.size = w.heap.size from by rfl] at h; exact h
  have hb0 : wb.cell? ⟨w.heap.size, 0, none⟩ = some (.slice A0_0 l0_0.length c0_0) := (blk_cell hhr 0).trans rfl
  have hb1 : wb.cell? ⟨w.heap.size, 1, none⟩ = some (.slice A0_1 l0_1.length c0_1) := (blk_cell hhr 1).trans rfl
  have hbs : w.heap.size < wb.heap.size := blk_lt hhr
  have HW := Aside0.mk hwb
  clear hwb hhr
  obtain ⟨b, hb⟩ : ∃ b, goodB l0_0 l0_1 = b := ⟨_, rfl⟩
  rw [hb] at H
  have HGB := Aside0.mk hb
  cases b with
  | false =>
    clear hb
    injection H with H1 H2
    subst H1; subst H2
    go_enter Try.func21, Try.ntmps21
    go_upto_region 1 with (fail)
    try rw [HW.out]
    clear HW
    go_wp2_with (go_at_call 66; (refine (impl_readConsistent.bad _ _ l0_0 _ _ l0_1 _ (Kd.C_below HR0.out (by repeat (first | exact HBw.out | exact Below.refl _ _ | apply below_alloc | apply pw_below_drewN | apply below_drew1))) HC0.out (Kd.C_below HR1.out (by repeat (first | exact HBw.out | exact Below.refl _ _ | apply below_alloc | apply pw_below_drewN | apply below_drew1))) HC1.out HGB.out).mono ?_); rintro e w1 ⟨rfl, hb⟩; have HBw : Aside0 (Below w.heap.size w w1) := Aside0.mk (below_chain (w := w) (by repeat (first | exact HBw.out | exact Below.refl _ _ | apply below_alloc | apply pw_below_drewN | apply below_drew1)) hb); have hb0 := pw_cell_below hb hb0; clear hb)
    go_ret2
    exact ⟨rfl, (by repeat (first | exact HBw.out | exact Below.refl _ _ | apply below_alloc | apply pw_below_drewN | apply below_drew1))⟩
  | true =>
    have HG := Aside0.mk (goodB_parts hb)
    clear hb
    obtain ⟨b2, hb2⟩ : ∃ b, consB l0_0.length (lat l0_0 l0_1) = b := ⟨_, rfl⟩
    rw [hb2] at H
    have HCB := Aside0.mk hb2
    clear hb2
    cases b2 with
    | false =>
      injection H with H1 H2
      subst H1; subst H2
      go_enter Try.func21, Try.ntmps21
      go_upto_region 1 with (fail)
      try rw [HW.out]
      clear HW
      go_wp2_with (go_at_call 66; (refine (impl_readConsistent.calls _ _ l0_0 _ _ l0_1 _ (Kd.C_below HR0.out (by repeat (first | exact HBw.out | exact Below.refl _ _ | apply below_alloc | apply pw_below_drewN | apply below_drew1))) HC0.out (Kd.C_below HR1.out (by repeat (first | exact HBw.out | exact Below.refl _ _ | apply below_alloc | apply pw_below_drewN | apply below_drew1))) HC1.out HGB.out).mono ?_); rintro e w1 ⟨p, rfl, N1, N2, A, c, HO⟩; rw [HCB.out]; have hb := HO.below; have HBw : Aside0 (Below w.heap.size w w1) := Aside0.mk (below_chain (w := w) (by repeat (first | exact HBw.out | exact Below.refl _ _ | apply below_alloc | apply pw_below_drewN | apply below_drew1)) hb); have hb0 := pw_cell_below hb hb0; clear hb HO)
      go_ret2
      exact ⟨rfl, (by repeat (first | exact HBw.out | exact Below.refl _ _ | apply below_alloc | apply pw_below_drewN | apply below_drew1))⟩
    | true =>
      by_cases h0 : 0 ≤ find l0_0 a1
      · obtain ⟨k, hk, hkl⟩ := find_nat l0_0 a1 h0
        have A3 := Aside0.mk (show impl_indexOf.f l0_0 l0_1 a1 = some (k : Int) from congrArg some hk)
        have hklz : (k : Int) < (l0_0.length : Int) := by omega
        rw [hk, Int.toNat_natCast, show decide (0 ≤ (k : Int)) = true from decide_eq_true (by omega)] at H
        obtain ⟨ds, hds⟩ : ∃ d, dAll (abv l0_0 l0_1) l0_0.length l0_0.length = d := ⟨_, rfl⟩
        have hdl : ds.length = l0_0.length := by rw [← hds]; exact dAll_len _ _ _
        rw [hds] at H
        have HD := Aside0.mk hds
        have HDL := Aside0.mk hdl
        injection H with H1 H2
        obtain ⟨dv, hdv⟩ : ∃ x, ds.getD k 0 = x := ⟨_, rfl⟩
        have HDV := Aside0.mk hdv
        rw [hdv] at H1
        subst H1; subst H2
        clear h0 hk hds hdl hdv
        have hkz : ¬ ((k : Int) < 0) := by omega
        go_enter Try.func21, Try.ntmps21
        go_upto_region 1 with (fail)
        try rw [HW.out]
        clear HW
        go_upto_region 4 with (first | (go_at_call 66; (refine (impl_readConsistent.calls _ _ l0_0 _ _ l0_1 _ (Kd.C_below HR0.out (by repeat (first | exact HBw.out | exact Below.refl _ _ | apply below_alloc | apply pw_below_drewN | apply below_drew1))) HC0.out (Kd.C_below HR1.out (by repeat (first | exact HBw.out | exact Below.refl _ _ | apply below_alloc | apply pw_below_drewN | apply below_drew1))) HC1.out HGB.out).mono ?_); rintro e w1 ⟨p, rfl, N1, N2, A, c, HO⟩; rw [HCB.out]; have hb := HO.below; have HBw : Aside0 (Below w.heap.size w w1) := Aside0.mk (below_chain (w := w) (by repeat (first | exact HBw.out | exact Below.refl _ _ | apply below_alloc | apply pw_below_drewN | apply below_drew1)) hb); have hb0 := pw_cell_below hb hb0; have hb1 := pw_cell_below hb hb1; have HOA := Aside0.mk HO; clear hb HO) | (go_at_call 67; (with_reducible refine (impl_indexOf.calls _ _ l0_0 _ _ l0_1 a1 _ _ (Kd.C_below HR0.out (by repeat (first | exact HBw.out | exact Below.refl _ _ | apply below_alloc | apply pw_below_drewN | apply below_drew1))) HC0.out (Kd.C_below HR1.out (by repeat (first | exact HBw.out | exact Below.refl _ _ | apply below_alloc | apply pw_below_drewN | apply below_drew1))) HC1.out A3.out).mono ?_); rintro e w2 ⟨rfl, hb⟩; have HBw : Aside0 (Below w.heap.size w w2) := Aside0.mk (below_chain (w := w) (by repeat (first | exact HBw.out | exact Below.refl _ _ | apply below_alloc | apply pw_below_drewN | apply below_drew1)) hb); have hb0 := pw_cell_below hb hb0; have hb1 := pw_cell_below hb hb1; have HOA := Aside0.mk (HOA.out.step hb); clear hb))
        have HS0 := Aside0.mk (show (fun w' : World => w'.cell? ⟨w.heap.size, 0, none⟩ = some (.slice A0_0 l0_0.length c0_0) ∧ w'.cell? ⟨w.heap.size, 1, none⟩ = some (.slice A0_1 l0_1.length c0_1) ∧ Aside0 (Below w.heap.size w w')) w2.drew from ⟨hb0, hb1, ⟨below_drew1 HBw.out⟩⟩)
        have HOA := Aside0.mk HOA.out.drew
        clear hb0 hb1
        all_goals refine start_ (n := 9) (S := (fun w' => w'.cell? ⟨w.heap.size, 0, none⟩ = some (.slice A0_0 l0_0.length c0_0) ∧ w'.cell? ⟨w.heap.size, 1, none⟩ = some (.slice A0_1 l0_1.length c0_1) ∧ Aside0 (Below w.heap.size w w'))) (ds := []) (bl 0 9) (by kernel_rfl) rfl rfl HS0.out (fun hHeld => ?_); refine with_tabW impl_DepthOf.tab4 impl_DepthOf.bits4 (fun HT_ HW_ => ?_)
        all_goals generalize w2.drew = wv at HOA hHeld ⊢
        all_goals first | refine pA_ 0 (some 21) (bl 1 9) HT_.out (h := ?_) | refine pO_ 0 (some 21) (bl 1 9) HT_.out (h := ?_)
        all_goals first | refine pA_ 3 (some 24) (bx 1 [3] 9) HT_.out (h := ?_) | refine pO_ 3 (some 24) (bx 1 [3] 9) HT_.out (h := ?_)
        all_goals first | refine tA_ 2 (some 23) (bx 1 [2, 3] 9) HT_.out HW_.out hHeld (h := ?_) | refine pO_ 2 (some 23) (bx 1 [2, 3] 9) HT_.out (h := ?_)
        all_goals first | refine pO_ 1 (some 22) (bl 4 9) HT_.out (h := ?_) | (refine one_ (i := 1) (N := some 22) (bl 4 9) rfl rfl (one_of HT_.out (by kernel_rfl)) (by decide) (fun K hK => ?_); refine goes_ Try.func68 (by kernel_rfl) rfl #[.pointer (some ⟨p, 0, none⟩)] (by rfl) rfl rfl (by (try simp only [List.map_toArray, List.map_cons, List.map_nil]); first | done | rfl) ?_; with_reducible refine (impl_order_depths.calls _ p N1 N2 l0_0.length A c _ _ _ _ HOA.out HG.out.1).mono ?_; rintro e w3 ⟨v3, rfl, hR, hb⟩; rw [HD.out] at hR; obtain ⟨D, d, he, hd, hC⟩ := Kd.R_reads hR; rw [HDL.out] at he; subst he; obtain ⟨ad, ea, hxd⟩ := Kd.at_int hC (k : Int) (by omega) (by rw [HDL.out]; exact hklz); subst ea; rw [Int.toNat_natCast, rd_at, HDV.out] at hxd; clear hR hC hd; refine ⟨_, rfl, ?_⟩; refine hK.out _ _ ⟨pw_cell_below hb hHeld.1, pw_cell_below hb hHeld.2.1, ⟨below_chain hHeld.2.2.out hb⟩⟩ (fun hHeld => ?_); clear hK K; refine norm_ (a' := ?_) ?_ ?_; rotate_left; (show Act.put _ (some 22) _ = _; simp only [Act.put, List.setIfInBounds_toArray, List.set_cons_zero, List.set_cons_succ, i64_w, i32_w]; rfl))
        all_goals (have hHeld2 := (show (fun w' => w'.cell? ⟨w.heap.size, 0, none⟩ = some (.slice A0_0 l0_0.length c0_0) ∧ w'.cell? ⟨w.heap.size, 1, none⟩ = some (.slice A0_1 l0_1.length c0_1) ∧ Aside0 (Below w.heap.size w w') ∧ w'.cell? (ad.add k) = some (.int .i64 dv)) w3 from ⟨hHeld.1, hHeld.2.1, hHeld.2.2, hxd⟩); refine change_ (S2 := fun w' => w'.cell? ⟨w.heap.size, 0, none⟩ = some (.slice A0_0 l0_0.length c0_0) ∧ w'.cell? ⟨w.heap.size, 1, none⟩ = some (.slice A0_1 l0_1.length c0_1) ∧ Aside0 (Below w.heap.size w w') ∧ w'.cell? (ad.add k) = some (.int .i64 dv)) (fun _ h => ⟨h.1, h.2.1, h.2.2.1⟩) hHeld2 ?_; clear hHeld; have hHeld := hHeld2; clear hHeld2)
        all_goals first | refine pO_ 4 (some 25) (bl 5 9) HT_.out (h := ?_) | (refine one_ (i := 4) (N := some 25) (bl 5 9) rfl rfl (one_of HT_.out (by kernel_rfl)) (by decide) (fun K hK => ?_); refine goes_ Try.func67 (by kernel_rfl) rfl #[.agg #[.slice A0_0 l0_0.length c0_0, .slice A0_1 l0_1.length c0_1], .int .i64 a1] (by rfl) rfl rfl (by (try simp only [List.map_toArray, List.map_cons, List.map_nil]); first | done | rfl) ?_; with_reducible refine (impl_indexOf.calls _ _ l0_0 _ _ l0_1 a1 _ _ (Kd.C_below HR0.out hHeld.2.2.1.out) HC0.out (Kd.C_below HR1.out hHeld.2.2.1.out) HC1.out A3.out).mono ?_; rintro e w4 ⟨rfl, hb⟩; refine ⟨_, rfl, ?_⟩; refine hK.out _ _ ⟨pw_cell_below hb hHeld.1, pw_cell_below hb hHeld.2.1, ⟨below_chain hHeld.2.2.1.out hb⟩, pw_cell_below hb hHeld.2.2.2⟩ (fun hHeld => ?_); clear hK K; refine norm_ (a' := ?_) ?_ ?_; rotate_left; (show Act.put _ (some 25) _ = _; simp only [Act.put, List.setIfInBounds_toArray, List.set_cons_zero, List.set_cons_succ, i64_w, i32_w]; rfl))
        all_goals first | refine pA_ 5 (some 26) (bl 6 9) HT_.out (h := ?_) | refine pO_ 5 (some 26) (bl 6 9) HT_.out (h := ?_)
        all_goals first | refine tA_ 6 (some 27) (bl 7 9) HT_.out HW_.out hHeld (h := ?_) | refine pO_ 6 (some 27) (bl 7 9) HT_.out (h := ?_)
        all_goals first | refine pA_ 7 (some 4) (bl 8 9) HT_.out (h := ?_) | refine pO_ 7 (some 4) (bl 8 9) HT_.out (h := ?_)
        all_goals first | refine pA_ 8 (some 5) (bl 9 9) HT_.out (h := ?_) | refine pO_ 8 (some 5) (bl 9 9) HT_.out (h := ?_)
        all_goals refine done_ (done_of HT_.out (by kernel_rfl)) ?_
        go_wp2
        go_ret2
        exact ⟨rfl, hHeld.2.2.1.out⟩
      · obtain ⟨k, hk⟩ : ∃ k, find l0_0 a1 = k := ⟨_, rfl⟩
        have A3 := Aside0.mk (show impl_indexOf.f l0_0 l0_1 a1 = some k from congrArg some hk)
        rw [hk] at h0
        rw [hk, show decide (0 ≤ k) = false from decide_eq_false h0] at H
        injection H with H1 H2
        subst H1; subst H2
        have hkz : (k < 0) := by omega
        clear hk h0
        go_enter Try.func21, Try.ntmps21
        go_upto_region 1 with (fail)
        try rw [HW.out]
        clear HW
        go_wp2_with (first | (go_at_call 66; (refine (impl_readConsistent.calls _ _ l0_0 _ _ l0_1 _ (Kd.C_below HR0.out (by repeat (first | exact HBw.out | exact Below.refl _ _ | apply below_alloc | apply pw_below_drewN | apply below_drew1))) HC0.out (Kd.C_below HR1.out (by repeat (first | exact HBw.out | exact Below.refl _ _ | apply below_alloc | apply pw_below_drewN | apply below_drew1))) HC1.out HGB.out).mono ?_); rintro e w1 ⟨p, rfl, N1, N2, A, c, HO⟩; rw [HCB.out]; have hb := HO.below; have HBw : Aside0 (Below w.heap.size w w1) := Aside0.mk (below_chain (w := w) (by repeat (first | exact HBw.out | exact Below.refl _ _ | apply below_alloc | apply pw_below_drewN | apply below_drew1)) hb); have hb0 := pw_cell_below hb hb0; have hb1 := pw_cell_below hb hb1; clear hb HO) | (go_at_call 67; (with_reducible refine (impl_indexOf.calls _ _ l0_0 _ _ l0_1 a1 _ _ (Kd.C_below HR0.out (by repeat (first | exact HBw.out | exact Below.refl _ _ | apply below_alloc | apply pw_below_drewN | apply below_drew1))) HC0.out (Kd.C_below HR1.out (by repeat (first | exact HBw.out | exact Below.refl _ _ | apply below_alloc | apply pw_below_drewN | apply below_drew1))) HC1.out A3.out).mono ?_); rintro e w2 ⟨rfl, hb⟩; have HBw : Aside0 (Below w.heap.size w w2) := Aside0.mk (below_chain (w := w) (by repeat (first | exact HBw.out | exact Below.refl _ _ | apply below_alloc | apply pw_below_drewN | apply below_drew1)) hb); have hb0 := pw_cell_below hb hb0; have hb1 := pw_cell_below hb hb1; clear hb))
        go_ret2
        exact ⟨rfl, (by repeat (first | exact HBw.out | exact Below.refl _ _ | apply below_alloc | apply pw_below_drewN | apply below_drew1))⟩

end Go.Proofs.Ytdpehkfjhfjobaa.Q

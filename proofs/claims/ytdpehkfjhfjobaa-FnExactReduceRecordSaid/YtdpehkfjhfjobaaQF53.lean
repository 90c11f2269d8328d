-- Written by a program of this session (wip/xprint.py over the kit's printer).
import Derived.Test.YtdpehkfjhfjobaaQ0
import Derived.Test.YtdpehkfjhfjobaaQF100
import Derived.Test.YtdpehkfjhfjobaaQF60
import Derived.Test.YtdpehkfjhfjobaaQF61
import Derived.Test.YtdpehkfjhfjobaaQF64
import Derived.Test.YtdpehkfjhfjobaaQF66
import Derived.Test.YtdpehkfjhfjobaaQF90
import Derived.Test.YtdpehkfjhfjobaaQP
namespace Go.Proofs.Ytdpehkfjhfjobaa.Q
open Go.RowKit Go.Proofs.YtdpehkfjhfjobaaW.PrintWords Go.Proofs.YtdpehkfjhfjobaaW.PrintLast Go.Proofs.YtdpehkfjhfjobaaW.PrintMore
attribute [local go_sem] max2_int min2_int max_two min_two max_three min_three max_four min_four   -- for this text's walks alone
set_option linter.unusedVariables false
set_option linter.unusedSimpArgs false

/-! ### impl_ReduceRecord: function 53 -/
def impl_ReduceRecord.f (l0_0 : List S76) (l0_1 : List S90) : Option (List S76 × List S90 × Bool) := some (if goodB l0_0 l0_1 && consB l0_0.length (lat l0_0 l0_1) then (l0_0, redRels l0_0 l0_1 (abv l0_0 l0_1) (lat l0_0 l0_1) false, true) else ([], [], false))
def impl_ReduceRecord.T4 : Bool × List (List Nat × List Nat) := (true, [([], []), ([0], [0]), ([1], [1]), ([], []), ([], []), ([3, 4, 2], [3, 4]), ([2, 5], [2, 5]), ([6, 5, 0, 1, 2, 3, 4, 5, 6], [6]), ([7, 0, 1, 2, 3, 4, 5, 6, 7], [])])
def impl_ReduceRecord.B4 : List Nat := [0, 1, 3, 0, 0, 31, 63, 127, 255]
theorem impl_ReduceRecord.tab4 : rtab .any (opsOf Try.f53 4) = impl_ReduceRecord.T4 := by kernel_rfl
theorem impl_ReduceRecord.bits4 : waitsOk impl_ReduceRecord.T4.2 impl_ReduceRecord.B4 = true := by kernel_rfl
set_option maxHeartbeats 8000000 in
set_option maxRecDepth 100000 in
theorem impl_ReduceRecord.calls (A0_0 : Option Addr) (c0_0 : Nat) (l0_0 : List S76) (A0_1 : Option Addr) (c0_1 : Nat) (l0_1 : List S90) (r1 : List S76) (r2 : List S90) (r3 : Bool) (w : World) (hr0_0 : Kd.C k76 w A0_0 l0_0.length l0_0) (hc0_0 : l0_0.length ≤ c0_0) (hr0_1 : Kd.C k90 w A0_1 l0_1.length l0_1) (hc0_1 : l0_1.length ≤ c0_1) (h : impl_ReduceRecord.f l0_0 l0_1 = some (r1, r2, r3)) :
    Calls Try.prog 53 #[.agg #[.slice A0_0 l0_0.length c0_0, .slice A0_1 l0_1.length c0_1]] w fun e w' => ∃ v0_ v1_ : Value, e = .returned (.tuple #[.agg #[v0_, v1_], .bool r3]) ∧ Kd.R k76 76 w' w.heap.size (fun _ => True) v0_ r1 ∧ Kd.R k90 90 w' w.heap.size (fun _ => True) v1_ r2 ∧ Below w.heap.size w w' := by
  have H := Option.some.inj h
  clear h
  have HR0 := Aside0.mk hr0_0
  have HR1 := Aside0.mk hr0_1
  have HC0 := Aside0.mk hc0_0
  have HC1 := Aside0.mk hc0_1
  clear hr0_0 hr0_1 hc0_0 hc0_1
  obtain ⟨wb, hwb⟩ : ∃ wb, ((w).alloc (.cells #[.slice A0_0 l0_0.length c0_0, .slice A0_1 l0_1.length c0_1] 32 (0, 0))).alloc (.cells #[.slice none 0 0, .slice none 0 0] 32 (0, 0)) = wb := ⟨_, rfl⟩
  have HBw := Aside0.mk (show Below w.heap.size w wb from by rw [← hwb]; repeat (first | exact Below.refl _ _ | apply below_alloc))
  have HWB := HBw
  have hhr : wb.heap[w.heap.size]? = some (.cells #[.slice A0_0 l0_0.length c0_0, .slice A0_1 l0_1.length c0_1] 32 (0, 0)) := by rw [← hwb]; have h := blk_new (w) (.cells #[.slice A0_0 l0_0.length c0_0, .slice A0_1 l0_1.length c0_1] 32 (0, 0)); rw [show (w).heap.size = w.heap.size from by rfl] at h; exact blk_alloc (h) _
  have hb0 : wb.cell? ⟨w.heap.size, 0, none⟩ = some (.slice A0_0 l0_0.length c0_0) := (blk_cell hhr 0).trans rfl
  have hb1 : wb.cell? ⟨w.heap.size, 1, none⟩ = some (.slice A0_1 l0_1.length c0_1) := (blk_cell hhr 1).trans rfl
  have hh0 : wb.heap[w.heap.size + 1]? = some (.cells #[.slice none 0 0, .slice none 0 0] 32 (0, 0)) := by rw [← hwb]; have h := blk_new ((w).alloc (.cells #[.slice A0_0 l0_0.length c0_0, .slice A0_1 l0_1.length c0_1] 32 (0, 0))) (.cells #[.slice none 0 0, .slice none 0 0] 32 (0, 0)); rw [show ((w).alloc (.cells #[.slice A0_0 l0_0.length c0_0, .slice A0_1 l0_1.length c0_1] 32 (0, 0))).heap.size = w.heap.size + 1 from by simp] at h; exact h
  have hx0 : wb.cell? ⟨w.heap.size + 1, 0, none⟩ = some (.slice none 0 0) := (blk_cell hh0 0).trans rfl
  have hx0_1 : wb.cell? ⟨w.heap.size + 1, 1, none⟩ = some (.slice none 0 0) := (blk_cell hh0 1).trans rfl
  have hbs : w.heap.size + 1 < wb.heap.size := blk_lt hh0
  have HW := Aside0.mk hwb
  clear hwb
  clear hhr
  obtain ⟨b, hb⟩ : ∃ b, goodB l0_0 l0_1 = b := ⟨_, rfl⟩
  rw [hb] at H
  have HGB := Aside0.mk hb
  have hf1 := blk_frozen hh0 0
  have hf2 := blk_frozen hh0 1
  cases b with
  | false =>
    clear hb
    injection H with H1 H2
    injection H2 with H2 H3
    subst H1; subst H2; subst H3
    go_enter Try.func53, Try.ntmps53
    go_upto_region 1 with (fail)
    try rw [HW.out]
    clear HW
    go_upto_region 2 with (go_at_call 66; (refine (impl_readConsistent.bad _ _ l0_0 _ _ l0_1 _ (Kd.C_below HR0.out (by repeat (first | exact HBw.out | exact Below.refl _ _ | apply below_alloc | apply pw_below_drewN | apply below_drew1))) HC0.out (Kd.C_below HR1.out (by repeat (first | exact HBw.out | exact Below.refl _ _ | apply below_alloc | apply pw_below_drewN | apply below_drew1))) HC1.out HGB.out).mono ?_); rintro e w1 ⟨rfl, hb⟩; have HBw : Aside0 (Below w.heap.size w w1) := Aside0.mk (below_chain (w := w) (by repeat (first | exact HBw.out | exact Below.refl _ _ | apply below_alloc | apply pw_below_drewN | apply below_drew1)) hb); have hb0 := pw_cell_below hb hb0; have hb1 := pw_cell_below hb hb1; have hx0 := pw_cell_below hb hx0; have hx0_1 := pw_cell_below hb hx0_1; have hh0 := blk_below hh0 hb; clear hf1 hf2; have hf1 := blk_frozen hh0 0; have hf2 := blk_frozen hh0 1; clear hb)
    go_wp2
    refine bodyPost_ret (results_ct rfl _ _ (w.heap.size + 1) 32 #[.slice none 0 0, .slice none 0 0] (0, 0) _ rfl (blk_put (blk_put hh0 0 _ rfl) 1 _ rfl) Try.underlying32 rfl (by kernel_rfl)) rfl ?_
    exact ⟨_, _, rfl, Kd.R_nil _ _ _ _ _, Kd.R_nil _ _ _ _ _, by repeat (first | exact HBw.out | refine below_set ?_ (by show w.heap.size ≤ w.heap.size + 1; omega))⟩
  | true =>
    have HG := Aside0.mk (goodB_parts hb)
    clear hb
    obtain ⟨b2, hb2⟩ : ∃ b, consB l0_0.length (lat l0_0 l0_1) = b := ⟨_, rfl⟩
    rw [hb2] at H
    have HCB := Aside0.mk hb2
    clear hb2
    cases b2 with
    | false =>
      injection H with H1 H2
      injection H2 with H2 H3
      subst H1; subst H2; subst H3
      go_enter Try.func53, Try.ntmps53
      go_upto_region 1 with (fail)
      try rw [HW.out]
      clear HW
      go_upto_region 2 with (go_at_call 66; (refine (impl_readConsistent.calls _ _ l0_0 _ _ l0_1 _ (Kd.C_below HR0.out (by repeat (first | exact HBw.out | exact Below.refl _ _ | apply below_alloc | apply pw_below_drewN | apply below_drew1))) HC0.out (Kd.C_below HR1.out (by repeat (first | exact HBw.out | exact Below.refl _ _ | apply below_alloc | apply pw_below_drewN | apply below_drew1))) HC1.out HGB.out).mono ?_); rintro e w1 ⟨p, rfl, N1, N2, A, c, HO⟩; rw [HCB.out]; have hb := HO.below; have HBw : Aside0 (Below w.heap.size w w1) := Aside0.mk (below_chain (w := w) (by repeat (first | exact HBw.out | exact Below.refl _ _ | apply below_alloc | apply pw_below_drewN | apply below_drew1)) hb); have hb0 := pw_cell_below hb hb0; have hb1 := pw_cell_below hb hb1; have hx0 := pw_cell_below hb hx0; have hx0_1 := pw_cell_below hb hx0_1; have hh0 := blk_below hh0 hb; clear hf1 hf2; have hf1 := blk_frozen hh0 0; have hf2 := blk_frozen hh0 1; clear hb HO)
      go_wp2
      refine bodyPost_ret (results_ct rfl _ _ (w.heap.size + 1) 32 #[.slice none 0 0, .slice none 0 0] (0, 0) _ rfl (blk_put (blk_put hh0 0 _ rfl) 1 _ rfl) Try.underlying32 rfl (by kernel_rfl)) rfl ?_
      exact ⟨_, _, rfl, Kd.R_nil _ _ _ _ _, Kd.R_nil _ _ _ _ _, by repeat (first | exact HBw.out | refine below_set ?_ (by show w.heap.size ≤ w.heap.size + 1; omega))⟩
    | true =>
      injection H with H1 H2
      injection H2 with H2 H3
      subst H1; subst H2; subst H3
      have AC := Aside0.mk (show impl_Context_100.f l0_0 = some l0_0 from by
        have h1 := HG.out.1
        unfold impl_Context_100.f
        exact if_pos (by omega))
      go_enter Try.func53, Try.ntmps53
      go_upto_region 1 with (fail)
      try rw [HW.out]
      clear HW
      go_upto_region 4 with (go_at_call 66; (refine (impl_readConsistent.calls _ _ l0_0 _ _ l0_1 _ (Kd.C_below HR0.out (by repeat (first | exact HBw.out | exact Below.refl _ _ | apply below_alloc | apply pw_below_drewN | apply below_drew1))) HC0.out (Kd.C_below HR1.out (by repeat (first | exact HBw.out | exact Below.refl _ _ | apply below_alloc | apply pw_below_drewN | apply below_drew1))) HC1.out HGB.out).mono ?_); rintro e w1 ⟨p, rfl, N1, N2, A, c, HO⟩; rw [HCB.out]; have hb := HO.below; have HBw : Aside0 (Below w.heap.size w w1) := Aside0.mk (below_chain (w := w) (by repeat (first | exact HBw.out | exact Below.refl _ _ | apply below_alloc | apply pw_below_drewN | apply below_drew1)) hb); have hb0 := pw_cell_below hb hb0; have hb1 := pw_cell_below hb hb1; have hx0 := pw_cell_below hb hx0; have hx0_1 := pw_cell_below hb hx0_1; have HOA := Aside0.mk HO; have hh0 := blk_below hh0 hb; clear hf1 hf2; have hf1 := blk_frozen hh0 0; have hf2 := blk_frozen hh0 1; clear hb HO)
      obtain ⟨wo, HOB⟩ : ∃ wo, OrdIn wo w1 p N1 N2 l0_0.length (.slice A l0_0.length c) (nums l0_0) (abv l0_0 l0_1) (lat l0_0 l0_1) := ⟨_, HOA.out⟩
      have HS0 := Aside0.mk (show (fun w' : World => w'.cell? ⟨w.heap.size, 0, none⟩ = some (.slice A0_0 l0_0.length c0_0) ∧ w'.cell? ⟨w.heap.size, 1, none⟩ = some (.slice A0_1 l0_1.length c0_1) ∧ w'.cell? ⟨w.heap.size + 1, 0, none⟩ = some (.slice none 0 0) ∧ w'.cell? ⟨w.heap.size + 1, 1, none⟩ = some (.slice none 0 0) ∧ w'.frozen? ⟨w.heap.size + 1, 0, none⟩ = false ∧ w'.frozen? ⟨w.heap.size + 1, 1, none⟩ = false ∧ Aside0 (Below w.heap.size w w') ∧ Aside0 (OrdIn wo w' p N1 N2 l0_0.length (.slice A l0_0.length c) (nums l0_0) (abv l0_0 l0_1) (lat l0_0 l0_1)) ∧ Aside0 (w'.heap[w.heap.size + 1]? = some (.cells #[.slice none 0 0, .slice none 0 0] 32 (0, 0)))) w1.drew from ⟨hb0, hb1, hx0, hx0_1, hf1, hf2, ⟨below_drew1 HBw.out⟩, ⟨HOB.drew⟩, ⟨hh0⟩⟩)
      clear hb0 hb1 hx0 hx0_1 hf1 hf2 hh0 HOA HOB
      all_goals refine start_ (n := 9) (S := (fun w' => w'.cell? ⟨w.heap.size, 0, none⟩ = some (.slice A0_0 l0_0.length c0_0) ∧ w'.cell? ⟨w.heap.size, 1, none⟩ = some (.slice A0_1 l0_1.length c0_1) ∧ w'.cell? ⟨w.heap.size + 1, 0, none⟩ = some (.slice none 0 0) ∧ w'.cell? ⟨w.heap.size + 1, 1, none⟩ = some (.slice none 0 0) ∧ w'.frozen? ⟨w.heap.size + 1, 0, none⟩ = false ∧ w'.frozen? ⟨w.heap.size + 1, 1, none⟩ = false ∧ Aside0 (Below w.heap.size w w') ∧ Aside0 (OrdIn wo w' p N1 N2 l0_0.length (.slice A l0_0.length c) (nums l0_0) (abv l0_0 l0_1) (lat l0_0 l0_1)) ∧ Aside0 (w'.heap[w.heap.size + 1]? = some (.cells #[.slice none 0 0, .slice none 0 0] 32 (0, 0))))) (ds := [7]) (bl 0 9) (by kernel_rfl) rfl rfl HS0.out (fun hHeld => ?_); refine with_tabW impl_ReduceRecord.tab4 impl_ReduceRecord.bits4 (fun HT_ HW_ => ?_)
      all_goals generalize w1.drew = wv at hHeld ⊢
      all_goals first | refine pA_ 0 (some 14) (bl 1 9) HT_.out (h := ?_) | refine pO_ 0 (some 14) (bl 1 9) HT_.out (h := ?_)
      all_goals first | refine pA_ 4 (some 18) (bx 1 [4] 9) HT_.out (h := ?_) | refine pO_ 4 (some 18) (bx 1 [4] 9) HT_.out (h := ?_)
      all_goals first | refine tA_ 1 (some 15) (bx 2 [4] 9) HT_.out HW_.out hHeld (h := ?_) | refine pO_ 1 (some 15) (bx 2 [4] 9) HT_.out (h := ?_)
      all_goals first | refine tA_ 3 (some 17) (bx 2 [3, 4] 9) HT_.out HW_.out hHeld (h := ?_) | refine pO_ 3 (some 17) (bx 2 [3, 4] 9) HT_.out (h := ?_)
      all_goals first | refine pO_ 2 (some 16) (bl 5 9) HT_.out (h := ?_) | (refine one_ (i := 2) (N := some 16) (bl 5 9) rfl rfl (one_of HT_.out (by kernel_rfl)) (by decide) (fun K hK => ?_); refine goes_ Try.func100 (by kernel_rfl) rfl #[.slice A0_0 l0_0.length c0_0] (by rfl) rfl rfl (by (try simp only [List.map_toArray, List.map_cons, List.map_nil]); first | done | rfl) ?_; with_reducible refine (impl_Context_100.calls _ _ l0_0 l0_0 _ (Kd.C_below HR0.out hHeld.2.2.2.2.2.2.1.out) HC0.out AC.out).mono ?_; rintro e w2 ⟨v0, rfl, hR, hb⟩; obtain ⟨D0, d0, rfl, hd0, hC0⟩ := Kd.R_reads hR; have HRc := Aside0.mk (Kd.R_lower hR (hHeld.2.2.2.2.2.2.1.out).size); clear hd0 hC0 hR; refine ⟨_, rfl, ?_⟩; refine hK.out _ _ ⟨pw_cell_below hb hHeld.1, pw_cell_below hb hHeld.2.1, pw_cell_below hb hHeld.2.2.1, pw_cell_below hb hHeld.2.2.2.1, blk_frozen (blk_below hHeld.2.2.2.2.2.2.2.2.out hb) 0, blk_frozen (blk_below hHeld.2.2.2.2.2.2.2.2.out hb) 1, ⟨below_chain hHeld.2.2.2.2.2.2.1.out hb⟩, ⟨hHeld.2.2.2.2.2.2.2.1.out.step hb⟩, ⟨blk_below hHeld.2.2.2.2.2.2.2.2.out hb⟩⟩ (fun hHeld => ?_); clear hK K; refine norm_ (a' := ?_) ?_ ?_; rotate_left; (show Act.put _ (some 16) _ = _; simp only [Act.put, List.setIfInBounds_toArray, List.set_cons_zero, List.set_cons_succ, i64_w, i32_w]; rfl))
      all_goals first | refine pO_ 5 (some 19) (bl 6 9) HT_.out (h := ?_) | (refine one_ (i := 5) (N := some 19) (bl 6 9) rfl rfl (one_of HT_.out (by kernel_rfl)) (by decide) (fun K hK => ?_); refine goes_ Try.func90 (by kernel_rfl) rfl #[.agg #[.slice A0_0 l0_0.length c0_0, .slice A0_1 l0_1.length c0_1], .pointer (some ⟨p, 0, none⟩), .bool false] (by rfl) rfl rfl (by (try simp only [List.map_toArray, List.map_cons, List.map_nil]); first | done | rfl) ?_; with_reducible refine (impl_redundantRelations.calls _ _ l0_0 _ _ l0_1 _ p N1 N2 A c _ _ _ false _ (Kd.C_below HR0.out hHeld.2.2.2.2.2.2.1.out) HC0.out (Kd.C_below HR1.out hHeld.2.2.2.2.2.2.1.out) HC1.out hHeld.2.2.2.2.2.2.2.1.out HG.out.1 HG.out.2.1 HG.out.2.2).mono ?_; rintro e w3 ⟨v1, rfl, hR, hb⟩; obtain ⟨D1, d1, he1, hd1, hC1⟩ := Kd.R_reads hR; obtain ⟨n1, hn1⟩ : ∃ n, n = (redRels l0_0 l0_1 (abv l0_0 l0_1) (lat l0_0 l0_1) false).length := ⟨_, rfl⟩; obtain rfl : v1 = .slice D1 n1 d1 := he1.trans (by rw [hn1]); have HRd := Aside0.mk (Kd.R_lower hR (hHeld.2.2.2.2.2.2.1.out).size); have HRc := Aside0.mk (Kd.R_below HRc.out hb); clear hd1 hC1 hR he1 hn1; refine ⟨_, rfl, ?_⟩; refine hK.out _ _ ⟨pw_cell_below hb hHeld.1, pw_cell_below hb hHeld.2.1, pw_cell_below hb hHeld.2.2.1, pw_cell_below hb hHeld.2.2.2.1, blk_frozen (blk_below hHeld.2.2.2.2.2.2.2.2.out hb) 0, blk_frozen (blk_below hHeld.2.2.2.2.2.2.2.2.out hb) 1, ⟨below_chain hHeld.2.2.2.2.2.2.1.out hb⟩, ⟨hHeld.2.2.2.2.2.2.2.1.out.step hb⟩, ⟨blk_below hHeld.2.2.2.2.2.2.2.2.out hb⟩⟩ (fun hHeld => ?_); clear hK K; refine norm_ (a' := ?_) ?_ ?_; rotate_left; (show Act.put _ (some 19) _ = _; simp only [Act.put, List.setIfInBounds_toArray, List.set_cons_zero, List.set_cons_succ, i64_w, i32_w]; rfl))
      all_goals first | refine pA_ 6 (some 20) (bl 7 9) HT_.out (h := ?_) | refine pO_ 6 (some 20) (bl 7 9) HT_.out (h := ?_)
      all_goals (refine last_ (i := 7) (N := none) (bl 8 9) rfl rfl (one_of HT_.out (by kernel_rfl)) (by decide) (fun K hK => ?_); refine skip_ (by rfl) rfl (by go_simp; rfl) ?_; refine hK.out _ _ ?_; clear hK K)
      all_goals first | refine pA_ 8 (some 3) (bl 9 9) HT_.out (h := ?_) | refine pO_ 8 (some 3) (bl 9 9) HT_.out (h := ?_)
      all_goals refine done_ (done_of HT_.out (by kernel_rfl)) ?_
      go_wp2
      have HRES := hHeld.2.2.2.2.2.2.2.2.out
      refine bodyPost_ret (results_ct rfl _ _ (w.heap.size + 1) 32 #[.slice D0 l0_0.length d0, .slice D1 n1 d1] (0, 0) _ rfl (blk_put (blk_put HRES 0 _ rfl) 1 _ rfl) Try.underlying32 rfl (by kernel_rfl)) rfl ?_
      exact ⟨_, _, rfl, Kd.R_set (Kd.R_set HRc.out HRES (by decide) 0 _) (blk_put HRES 0 _ rfl) (by decide) 1 _, Kd.R_set (Kd.R_set HRd.out HRES (by decide) 0 _) (blk_put HRES 0 _ rfl) (by decide) 1 _, below_set (below_set hHeld.2.2.2.2.2.2.1.out (by omega)) (by omega)⟩

end Go.Proofs.Ytdpehkfjhfjobaa.Q

-- Written by a program of this session (wip/xprint.py over the kit's printer).
import Derived.Test.YtdiejmhphhdcfaaQ0
import Derived.Test.YtdiejmhphhdcfaaQF128
import Derived.Test.YtdiejmhphhdcfaaQF61
import Derived.Test.YtdiejmhphhdcfaaQF66
import Derived.Test.YtdiejmhphhdcfaaQF67
import Derived.Test.YtdiejmhphhdcfaaQF68
import Derived.Test.YtdiejmhphhdcfaaQF69
import Derived.Test.YtdiejmhphhdcfaaQF70
import Derived.Test.YtdiejmhphhdcfaaQP
namespace Go.Proofs.Ytdiejmhphhdcfaa.Q
open Go.RowKit Go.Proofs.YtdiejmhphhdcfaaW.PrintWords Go.Proofs.YtdiejmhphhdcfaaW.PrintLast
set_option linter.unusedVariables false
set_option linter.unusedSimpArgs false

/-! ### impl_ShortestChain: function 18 -/
theorem chainGo_in (M : Nat → Nat → Bool) (d : List Int) (n b lo : Nat) (hlo : lo ≤ n) : ∀ (F a : Nat) (t : List Int), chainGo M d n b lo F a = some (some t) → ∀ x ∈ t, 0 ≤ x ∧ x < (n : Int) := by
  intro F
  induction F with
  | zero => intro a t h; simp [chainGo] at h
  | succ F ih =>
    intro a t h
    simp only [chainGo] at h
    have hr := selTo_range M d n a lo (n - lo)
    generalize selTo M d n a lo (n - lo) = s at h hr
    split at h
    · cases h
    · rename_i hs
      have hs2 : 0 ≤ s ∧ s < (n : Int) := by
        rcases hr with hr | ⟨q, hq, hr⟩ <;> omega
      split at h
      · obtain rfl := Option.some.inj (Option.some.inj h)
        intro x hx
        obtain rfl := List.mem_singleton.1 hx
        exact hs2
      · obtain ⟨o, ho, hm⟩ := Option.map_eq_some_iff.1 h
        cases o with
        | none => cases hm
        | some t2 =>
          obtain rfl := Option.some.inj hm
          intro x hx
          rcases List.mem_cons.1 hx with rfl | hx
          · exact hs2
          · exact ih _ _ ho x hx
theorem chainGo_len (M : Nat → Nat → Bool) (d : List Int) (n b lo : Nat) : ∀ (F a : Nat) (t : List Int), chainGo M d n b lo F a = some (some t) → t.length ≤ F := by
  intro F
  induction F with
  | zero => intro a t h; simp [chainGo] at h
  | succ F ih =>
    intro a t h
    simp only [chainGo] at h
    split at h
    · cases h
    · split at h
      · obtain rfl := Option.some.inj (Option.some.inj h)
        simp
      · obtain ⟨o, ho, hm⟩ := Option.map_eq_some_iff.1 h
        cases o with
        | none => cases hm
        | some t2 =>
          obtain rfl := Option.some.inj hm
          have := ih _ _ ho
          simp only [List.length_cons]; omega
theorem run_neq_slice_nil {P : Program} (w : World) (t e : TypeId) (a : Option Addr) (n c n' c' : Nat) (h : P.underlying t = some (.slice e)) :
    (binOp .neq t (.slice a n c) (.slice none n' c')).run P w = .ok (.bool a.isSome) w := by
  simp only [binOp]
  simp [Op.equal, Op.maxDepth, Lib.run_equalIn_slice_nil w 9999 t e a n c n' c' h]
/-- The chain between two contexts that lie in the record. -/
def chnG (cs : List S86) (rs : List S95) (lo b a : Nat) : Option (Option (List Int)) := chainGo (abv cs rs) (fAll (abv cs rs) b lo cs.length cs.length) cs.length b lo 30 a
def impl_ShortestChain.f (l0_0 : List S86) (l0_1 : List S95) (a1 a2 : Int) : Option (List Int × Bool × Bool) :=
  if (goodB l0_0 l0_1 && decide (0 ≤ find l0_0 a1)) && (goodB l0_0 l0_1 && decide (0 ≤ find l0_0 a2)) then
    (match chnG l0_0 l0_1 0 (find l0_0 a2).toNat (find l0_0 a1).toNat with
     | none => none
     | some none => some ([], false, true)
     | some (some t) => some (numI l0_0 (find l0_0 a1 :: t), true, true))
  else some ([], false, false)
def impl_ShortestChain.T4 : Bool × List (List Nat × List Nat) := (true, [([], []), ([], []), ([], []), ([1, 2], [1, 2]), ([], []), ([], []), ([4, 5, 3], [4, 5]), ([0, 3, 6, 6], [0, 3, 6]), ([7, 7, 0, 1, 2, 3, 4, 5, 6, 7], [7])])
def impl_ShortestChain.B4 : List Nat := [0, 0, 0, 6, 0, 0, 62, 127, 255]
theorem impl_ShortestChain.tab4 : rtab .any (opsOf Try.f18 4) = impl_ShortestChain.T4 := by kernel_rfl
theorem impl_ShortestChain.bits4 : waitsOk impl_ShortestChain.T4.2 impl_ShortestChain.B4 = true := by kernel_rfl
set_option maxHeartbeats 16000000 in
set_option maxRecDepth 100000 in
theorem impl_ShortestChain.calls (A0_0 : Option Addr) (c0_0 : Nat) (l0_0 : List S86) (A0_1 : Option Addr) (c0_1 : Nat) (l0_1 : List S95) (a1 a2 : Int) (r1 : List Int) (r2 r3 : Bool) (w : World) (hr0_0 : Kd.C k86 w A0_0 l0_0.length l0_0) (hc0_0 : l0_0.length ≤ c0_0) (hr0_1 : Kd.C k95 w A0_1 l0_1.length l0_1) (hc0_1 : l0_1.length ≤ c0_1) (h : impl_ShortestChain.f l0_0 l0_1 a1 a2 = some (r1, r2, r3)) :
    Calls Try.prog 18 #[.agg #[.slice A0_0 l0_0.length c0_0, .slice A0_1 l0_1.length c0_1], .int .i64 a1, .int .i64 a2] w fun e w' => ∃ v0_ : Value, e = .returned (.tuple #[v0_, .bool r2, .bool r3]) ∧ Kd.R (Kd.int .i64) 3 w' w.heap.size (fun _ => True) v0_ r1 ∧ Below w.heap.size w w' := by
  have H := h
  unfold impl_ShortestChain.f at H
  clear h
  have HR0 := Aside0.mk hr0_0
  have HR1 := Aside0.mk hr0_1
  have HC0 := Aside0.mk hc0_0
  have HC1 := Aside0.mk hc0_1
  clear hr0_0 hr0_1 hc0_0 hc0_1
  obtain ⟨wb, hwb⟩ : ∃ wb, (w).alloc (.cells #[.slice A0_0 l0_0.length c0_0, .slice A0_1 l0_1.length c0_1] 33 (0, 0)) = wb := ⟨_, rfl⟩
  have HBw := Aside0.mk (show Below w.heap.size w wb from by rw [← hwb]; repeat (first | exact Below.refl _ _ | apply below_alloc))
  have HWB := HBw
  have hhr : wb.heap[w.heap.size]? = some (.cells #[.slice A0_0 l0_0.length c0_0, .slice A0_1 l0_1.length c0_1] 33 (0, 0)) := by rw [← hwb]; have h := blk_new (w) (.cells #[.slice A0_0 l0_0.length c0_0, .slice A0_1 l0_1.length c0_1] 33 (0, 0)); rw [show (w).heap.size = w.heap.size from by rfl] at h; exact h
  have hb0 : wb.cell? ⟨w.heap.size, 0, none⟩ = some (.slice A0_0 l0_0.length c0_0) := (blk_cell hhr 0).trans rfl
  have hb1 : wb.cell? ⟨w.heap.size, 1, none⟩ = some (.slice A0_1 l0_1.length c0_1) := (blk_cell hhr 1).trans rfl
  have hbs : w.heap.size < wb.heap.size := blk_lt hhr
  have HW := Aside0.mk hwb
  clear hwb hhr
  obtain ⟨x1, hx1⟩ : ∃ b, (goodB l0_0 l0_1 && decide (0 ≤ find l0_0 a1)) = b := ⟨_, rfl⟩
  obtain ⟨x2, hx2⟩ : ∃ b, (goodB l0_0 l0_1 && decide (0 ≤ find l0_0 a2)) = b := ⟨_, rfl⟩
  have A1 := Aside0.mk ((hasContext_eq l0_0 l0_1 a1).trans (congrArg some hx1))
  have A2 := Aside0.mk ((hasContext_eq l0_0 l0_1 a2).trans (congrArg some hx2))
  rw [hx1, hx2] at H
  cases x1 with
  | false =>
    clear hx1 hx2
    have H := Option.some.inj H
    injection H with H1 H2
    injection H2 with H2 H3
    subst H1; subst H2; subst H3
    go_enter Try.func18, Try.ntmps18
    go_upto_region 1 with (fail)
    try rw [HW.out]
    clear HW
    go_wp2_with (go_at_call 66; (with_reducible refine (impl_hasContext.calls _ _ l0_0 _ _ l0_1 _ _ _ (Kd.C_below HR0.out (by repeat (first | exact HBw.out | exact Below.refl _ _ | apply below_alloc | apply pw_below_drewN | apply below_drew1))) HC0.out (Kd.C_below HR1.out (by repeat (first | exact HBw.out | exact Below.refl _ _ | apply below_alloc | apply pw_below_drewN | apply below_drew1))) HC1.out A1.out).mono ?_); rintro e w1 ⟨rfl, hb⟩; have HBw : Aside0 (Below w.heap.size w w1) := Aside0.mk (below_chain (w := w) (by repeat (first | exact HBw.out | exact Below.refl _ _ | apply below_alloc | apply pw_below_drewN | apply below_drew1)) hb); have hb0 := pw_cell_below hb hb0; have hb1 := pw_cell_below hb hb1; clear hb)
    go_ret3
    exact ⟨_, rfl, Kd.R_nil _ _ _ _ _, (by repeat (first | exact HBw.out | exact Below.refl _ _ | apply below_alloc | apply pw_below_drewN | apply below_drew1))⟩
  | true =>
  cases x2 with
  | false =>
    clear hx1 hx2
    have H := Option.some.inj H
    injection H with H1 H2
    injection H2 with H2 H3
    subst H1; subst H2; subst H3
    go_enter Try.func18, Try.ntmps18
    go_upto_region 1 with (fail)
    try rw [HW.out]
    clear HW
    go_wp2_with (first | (go_at_call 66; (with_reducible refine (impl_hasContext.calls _ _ l0_0 _ _ l0_1 a1 _ _ (Kd.C_below HR0.out (by repeat (first | exact HBw.out | exact Below.refl _ _ | apply below_alloc | apply pw_below_drewN | apply below_drew1))) HC0.out (Kd.C_below HR1.out (by repeat (first | exact HBw.out | exact Below.refl _ _ | apply below_alloc | apply pw_below_drewN | apply below_drew1))) HC1.out A1.out).mono ?_); rintro e w1 ⟨rfl, hb⟩; have HBw : Aside0 (Below w.heap.size w w1) := Aside0.mk (below_chain (w := w) (by repeat (first | exact HBw.out | exact Below.refl _ _ | apply below_alloc | apply pw_below_drewN | apply below_drew1)) hb); have hb0 := pw_cell_below hb hb0; have hb1 := pw_cell_below hb hb1; clear hb A1) | (go_at_call 66; (with_reducible refine (impl_hasContext.calls _ _ l0_0 _ _ l0_1 a2 _ _ (Kd.C_below HR0.out (by repeat (first | exact HBw.out | exact Below.refl _ _ | apply below_alloc | apply pw_below_drewN | apply below_drew1))) HC0.out (Kd.C_below HR1.out (by repeat (first | exact HBw.out | exact Below.refl _ _ | apply below_alloc | apply pw_below_drewN | apply below_drew1))) HC1.out A2.out).mono ?_); rintro e w2 ⟨rfl, hb⟩; have HBw : Aside0 (Below w.heap.size w w2) := Aside0.mk (below_chain (w := w) (by repeat (first | exact HBw.out | exact Below.refl _ _ | apply below_alloc | apply pw_below_drewN | apply below_drew1)) hb); have hb0 := pw_cell_below hb hb0; have hb1 := pw_cell_below hb hb1; clear hb))
    go_ret3
    exact ⟨_, rfl, Kd.R_nil _ _ _ _ _, (by repeat (first | exact HBw.out | exact Below.refl _ _ | apply below_alloc | apply pw_below_drewN | apply below_drew1))⟩
  | true =>
    simp only [Bool.and_eq_true, decide_eq_true_eq] at hx1 hx2
    obtain ⟨i, hi, hil⟩ := find_nat l0_0 a1 hx1.2
    obtain ⟨k, hk, hkl⟩ := find_nat l0_0 a2 hx2.2
    have HG := Aside0.mk (goodB_parts hx1.1)
    rw [if_pos (by rfl), hi, hk, Int.toNat_natCast, Int.toNat_natCast] at H
    have A3 := Aside0.mk (show impl_indexOf.f l0_0 l0_1 a1 = some (i : Int) from congrArg some hi)
    have A4 := Aside0.mk (show impl_indexOf.f l0_0 l0_1 a2 = some (k : Int) from congrArg some hk)
    obtain ⟨og, hog⟩ : ∃ o, chnG l0_0 l0_1 0 k i = o := ⟨_, rfl⟩
    rw [hog] at H
    cases og with
    | none => cases H
    | some res =>
    have HRS := Aside0.mk (show chainGo (abv l0_0 l0_1) (fAll (abv l0_0 l0_1) k 0 l0_0.length l0_0.length) l0_0.length k 0 30 i = some res from hog)
    have HSR := Aside0.mk hog
    clear hx1 hx2 hi hk hog
    go_enter Try.func18, Try.ntmps18
    go_upto_region 1 with (fail)
    try rw [HW.out]
    clear HW
    go_upto_region 4 with (first | (go_at_call 66; (with_reducible refine (impl_hasContext.calls _ _ l0_0 _ _ l0_1 a1 _ _ (Kd.C_below HR0.out (by repeat (first | exact HBw.out | exact Below.refl _ _ | apply below_alloc | apply pw_below_drewN | apply below_drew1))) HC0.out (Kd.C_below HR1.out (by repeat (first | exact HBw.out | exact Below.refl _ _ | apply below_alloc | apply pw_below_drewN | apply below_drew1))) HC1.out A1.out).mono ?_); rintro e w1 ⟨rfl, hb⟩; have HBw : Aside0 (Below w.heap.size w w1) := Aside0.mk (below_chain (w := w) (by repeat (first | exact HBw.out | exact Below.refl _ _ | apply below_alloc | apply pw_below_drewN | apply below_drew1)) hb); have hb0 := pw_cell_below hb hb0; have hb1 := pw_cell_below hb hb1; clear hb A1) | (go_at_call 66; (with_reducible refine (impl_hasContext.calls _ _ l0_0 _ _ l0_1 a2 _ _ (Kd.C_below HR0.out (by repeat (first | exact HBw.out | exact Below.refl _ _ | apply below_alloc | apply pw_below_drewN | apply below_drew1))) HC0.out (Kd.C_below HR1.out (by repeat (first | exact HBw.out | exact Below.refl _ _ | apply below_alloc | apply pw_below_drewN | apply below_drew1))) HC1.out A2.out).mono ?_); rintro e w2 ⟨rfl, hb⟩; have HBw : Aside0 (Below w.heap.size w w2) := Aside0.mk (below_chain (w := w) (by repeat (first | exact HBw.out | exact Below.refl _ _ | apply below_alloc | apply pw_below_drewN | apply below_drew1)) hb); have hb0 := pw_cell_below hb hb0; have hb1 := pw_cell_below hb hb1; clear hb) | (go_at_call 67; (refine (impl_orderOf.calls _ _ l0_0 _ _ l0_1 _ (Kd.C_below HR0.out (by repeat (first | exact HBw.out | exact Below.refl _ _ | apply below_alloc | apply pw_below_drewN | apply below_drew1))) HC0.out (Kd.C_below HR1.out (by repeat (first | exact HBw.out | exact Below.refl _ _ | apply below_alloc | apply pw_below_drewN | apply below_drew1))) HC1.out HG.out.1 HG.out.2.1 HG.out.2.2).mono ?_); rintro e w3 ⟨p, rfl, N1, N2, v, HO⟩; obtain ⟨A, c, rfl, hc⟩ := HO.slice (nums_length l0_0); have hb := HO.below; have HBw : Aside0 (Below w.heap.size w w3) := Aside0.mk (below_chain (w := w) (by repeat (first | exact HBw.out | exact Below.refl _ _ | apply below_alloc | apply pw_below_drewN | apply below_drew1)) hb); have hb0 := pw_cell_below hb hb0; have hb1 := pw_cell_below hb hb1; have HOA := Aside0.mk HO; clear hb HO))
    obtain ⟨wo, HOB⟩ : ∃ wo, OrdIn wo w3 p N1 N2 l0_0.length (.slice A l0_0.length c) (nums l0_0) (abv l0_0 l0_1) (lat l0_0 l0_1) := ⟨_, HOA.out⟩
    have HS0 := Aside0.mk (show (fun w' : World => w'.cell? ⟨w.heap.size, 0, none⟩ = some (.slice A0_0 l0_0.length c0_0) ∧ w'.cell? ⟨w.heap.size, 1, none⟩ = some (.slice A0_1 l0_1.length c0_1) ∧ Aside0 (Below w.heap.size w w') ∧ Aside0 (OrdIn wo w' p N1 N2 l0_0.length (.slice A l0_0.length c) (nums l0_0) (abv l0_0 l0_1) (lat l0_0 l0_1))) w3.drew from ⟨hb0, hb1, ⟨below_drew1 HBw.out⟩, ⟨HOB.drew⟩⟩)
    clear hb0 hb1 HOA HOB HBw
    all_goals refine start_ (n := 9) (S := (fun w' => w'.cell? ⟨w.heap.size, 0, none⟩ = some (.slice A0_0 l0_0.length c0_0) ∧ w'.cell? ⟨w.heap.size, 1, none⟩ = some (.slice A0_1 l0_1.length c0_1) ∧ Aside0 (Below w.heap.size w w') ∧ Aside0 (OrdIn wo w' p N1 N2 l0_0.length (.slice A l0_0.length c) (nums l0_0) (abv l0_0 l0_1) (lat l0_0 l0_1)))) (ds := []) (bl 0 9) (by kernel_rfl) rfl rfl HS0.out (fun hHeld => ?_); refine with_tabW impl_ShortestChain.tab4 impl_ShortestChain.bits4 (fun HT_ HW_ => ?_)
    all_goals generalize w3.drew = wv at hHeld ⊢
    all_goals first | refine pA_ 0 (some 23) (bl 1 9) HT_.out (h := ?_) | refine pO_ 0 (some 23) (bl 1 9) HT_.out (h := ?_)
    all_goals first | refine pA_ 2 (some 25) (bx 1 [2] 9) HT_.out (h := ?_) | refine pO_ 2 (some 25) (bx 1 [2] 9) HT_.out (h := ?_)
    all_goals first | refine pA_ 5 (some 28) (bx 1 [2, 5] 9) HT_.out (h := ?_) | refine pO_ 5 (some 28) (bx 1 [2, 5] 9) HT_.out (h := ?_)
    all_goals first | refine tA_ 1 (some 24) (bx 3 [5] 9) HT_.out HW_.out hHeld (h := ?_) | refine pO_ 1 (some 24) (bx 3 [5] 9) HT_.out (h := ?_)
    all_goals first | refine tA_ 4 (some 27) (bx 3 [4, 5] 9) HT_.out HW_.out hHeld (h := ?_) | refine pO_ 4 (some 27) (bx 3 [4, 5] 9) HT_.out (h := ?_)
    all_goals first | refine pO_ 3 (some 26) (bl 6 9) HT_.out (h := ?_) | (refine one_ (i := 3) (N := some 26) (bl 6 9) rfl rfl (one_of HT_.out (by kernel_rfl)) (by decide) (fun K hK => ?_); refine goes_ Try.func69 (by kernel_rfl) rfl #[.agg #[.slice A0_0 l0_0.length c0_0, .slice A0_1 l0_1.length c0_1], .int .i64 a1] (by rfl) rfl rfl (by (try simp only [List.map_toArray, List.map_cons, List.map_nil]); first | done | rfl) ?_; with_reducible refine (impl_indexOf.calls _ _ l0_0 _ _ l0_1 a1 _ _ (Kd.C_below HR0.out hHeld.2.2.1.out) HC0.out (Kd.C_below HR1.out hHeld.2.2.1.out) HC1.out A3.out).mono ?_; rintro e w4 ⟨rfl, hb⟩; refine ⟨_, rfl, ?_⟩; refine hK.out _ _ ⟨pw_cell_below hb hHeld.1, pw_cell_below hb hHeld.2.1, ⟨below_chain hHeld.2.2.1.out hb⟩, ⟨hHeld.2.2.2.out.step hb⟩⟩ (fun hHeld => ?_); clear hK K; refine norm_ (a' := ?_) ?_ ?_; rotate_left; (show Act.put _ (some 26) _ = _; simp only [Act.put, List.setIfInBounds_toArray, List.set_cons_zero, List.set_cons_succ, i64_w, i32_w]; rfl))
    all_goals first | refine pO_ 6 (some 29) (bl 7 9) HT_.out (h := ?_) | (refine one_ (i := 6) (N := some 29) (bl 7 9) rfl rfl (one_of HT_.out (by kernel_rfl)) (by decide) (fun K hK => ?_); refine goes_ Try.func69 (by kernel_rfl) rfl #[.agg #[.slice A0_0 l0_0.length c0_0, .slice A0_1 l0_1.length c0_1], .int .i64 a2] (by rfl) rfl rfl (by (try simp only [List.map_toArray, List.map_cons, List.map_nil]); first | done | rfl) ?_; with_reducible refine (impl_indexOf.calls _ _ l0_0 _ _ l0_1 a2 _ _ (Kd.C_below HR0.out hHeld.2.2.1.out) HC0.out (Kd.C_below HR1.out hHeld.2.2.1.out) HC1.out A4.out).mono ?_; rintro e w5 ⟨rfl, hb⟩; refine ⟨_, rfl, ?_⟩; refine hK.out _ _ ⟨pw_cell_below hb hHeld.1, pw_cell_below hb hHeld.2.1, ⟨below_chain hHeld.2.2.1.out hb⟩, ⟨hHeld.2.2.2.out.step hb⟩⟩ (fun hHeld => ?_); clear hK K; refine norm_ (a' := ?_) ?_ ?_; rotate_left; (show Act.put _ (some 29) _ = _; simp only [Act.put, List.setIfInBounds_toArray, List.set_cons_zero, List.set_cons_succ, i64_w, i32_w]; rfl))
    all_goals first | refine pO_ 7 (some 30) (bl 8 9) HT_.out (h := ?_) | (refine one_ (i := 7) (N := some 30) (bl 8 9) rfl rfl (one_of HT_.out (by kernel_rfl)) (by decide) (fun K hK => ?_); refine goes_ Try.func68 (by kernel_rfl) rfl #[.pointer (some ⟨p, 0, none⟩), .int .i64 i, .int .i64 k, .int .i64 ((0 : Nat) : Int)] (by rfl) rfl rfl (by (try simp only [List.map_toArray, List.map_cons, List.map_nil]); first | done | rfl) ?_; with_reducible refine (impl_order_chain.calls _ p N1 N2 _ A c _ _ _ _ hHeld.2.2.2.out HG.out.1 i k 0 30 res hil hkl (Nat.zero_le _) (by decide) HRS.out).mono ?_; rintro e w6 ⟨v6, rfl, hb, hno, hso⟩; have HNO := Aside0.mk hno; have HSO := Aside0.mk (fun t ht => Kd.R_lower (hso t ht) hHeld.2.2.1.out.size); clear hno hso; refine ⟨_, rfl, ?_⟩; refine hK.out _ _ ⟨pw_cell_below hb hHeld.1, pw_cell_below hb hHeld.2.1, ⟨below_chain hHeld.2.2.1.out hb⟩, ⟨hHeld.2.2.2.out.step hb⟩⟩ (fun hHeld => ?_); clear hK K; refine norm_ (a' := ?_) ?_ ?_; rotate_left; (show Act.put _ (some 30) _ = _; simp only [Act.put, List.setIfInBounds_toArray, List.set_cons_zero, List.set_cons_succ, i64_w, i32_w]; rfl))
    all_goals first | refine pA_ 8 (some 10) (bl 9 9) HT_.out (h := ?_) | refine pO_ 8 (some 10) (bl 9 9) HT_.out (h := ?_)
    all_goals refine done_ (done_of HT_.out (by kernel_rfl)) ?_
    have HBw := hHeld.2.2.1
    have HOA := hHeld.2.2.2
    clear hHeld HS0
    obtain ⟨w7, hw7⟩ : ∃ x, w6 = x := ⟨_, rfl⟩
    rw [hw7] at HBw HOA HSO ⊢
    clear hw7
    have qn := fun (W : World) (a : Option Addr) (n c n' c' : Nat) => run_neq_slice_nil (P := Try.prog) W 27 3 a n c n' c' Try.underlying27
    cases res with
    | none =>
      obtain rfl := HNO.out rfl
      have H := Option.some.inj H
      injection H with H1 H2
      injection H2 with H2 H3
      subst H1; subst H2; subst H3
      go_wp2_with (go_at_call 70; (refine (impl_order_numbered.calls _ p N1 N2 A c l0_0 _ _ _ HOA.out none 0 [] (Kd.C_nil _ _) (fun x hx => absurd hx (by simp)) (by simp)).mono ?_); rintro e w8 ⟨v8, rfl, hR, hb⟩; have HR8 := Aside0.mk hR; have HB8 := Aside0.mk (below_chain HBw.out hb); clear hR hb)
      go_ret3
      exact ⟨_, rfl, Kd.R_lower HR8.out HBw.out.size, HB8.out⟩
    | some t =>
      have H := Option.some.inj H
      injection H with H1 H2
      injection H2 with H2 H3
      subst H1; subst H2; subst H3
      have hR6 := HSO.out t rfl
      obtain ⟨g6, cap6, hv6, hcap6, hbase6, hlt6, hok6⟩ := R_form hR6 (by simp)
      subst hv6
      have HC6 := Aside0.mk (Kd.R_reads' hR6).2.2
      have HI6 := Aside0.mk (show ∀ x ∈ ((i : Int) :: t), 0 ≤ x ∧ x < (l0_0.length : Int) from by
        intro x hx
        rcases List.mem_cons.1 hx with rfl | hx
        · omega
        · exact chainGo_in _ _ _ _ _ (Nat.zero_le _) _ _ _ HRS.out x hx)
      have HL6 := Aside0.mk (show ((i : Int) :: t).length ≤ 1000000 from by have := chainGo_len _ _ _ _ _ _ _ _ HRS.out; simp only [List.length_cons]; omega)
      clear hcap6 hbase6 hlt6 hok6 hR6 HSO
      obtain ⟨ls, hls⟩ : ∃ ls, ((i : Int) :: t) = ls := ⟨_, rfl⟩
      have HLS := Aside0.mk hls
      rw [hls] at HC6 HI6 HL6 ⊢
      clear hls
      go_wp2_with (go_at_call 70; (refine (impl_order_numbered.calls _ p N1 N2 A c l0_0 _ _ _ HOA.out (some ⟨g6, 0, none⟩) cap6 ls HC6.out HI6.out HL6.out).mono ?_); rintro e w8 ⟨v8, rfl, hR, hb⟩; have HR8 := Aside0.mk hR; have HB8 := Aside0.mk (below_chain HBw.out hb); clear hR hb)
      go_ret3
      exact ⟨_, rfl, by rw [HLS.out]; exact Kd.R_lower HR8.out HBw.out.size, HB8.out⟩

end Go.Proofs.Ytdiejmhphhdcfaa.Q

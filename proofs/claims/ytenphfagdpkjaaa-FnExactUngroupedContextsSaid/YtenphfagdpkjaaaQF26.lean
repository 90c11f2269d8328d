-- Written by a program of this session (wip/xprint.py over the kit's printer).
import Derived.Test.YtenphfagdpkjaaaQ0
import Derived.Test.YtenphfagdpkjaaaQF100
import Derived.Test.YtenphfagdpkjaaaQF16
import Derived.Test.YtenphfagdpkjaaaQF47
import Derived.Test.YtenphfagdpkjaaaQF51
import Derived.Test.YtenphfagdpkjaaaQF54
import Derived.Test.YtenphfagdpkjaaaQF60
import Derived.Test.YtenphfagdpkjaaaQF83
import Derived.Test.YtenphfagdpkjaaaQF99
import Derived.Test.YtenphfagdpkjaaaQP
namespace Go.Proofs.Ytenphfagdpkjaaa.Q
open Go.RowKit Go.Proofs.YtenphfagdpkjaaaW.PrintWords Go.Proofs.YtenphfagdpkjaaaW.PrintLast
set_option linter.unusedVariables false
set_option linter.unusedSimpArgs false

/-! ### impl_UngroupedContexts: function 26 -/
def unB (cs : List S77) (l : List S64) (i : Nat) : Bool := decide (phI l (cs.getD i z77).f0 < 0)
def impl_UngroupedContexts.f (l0_0 : List S77) (l0_1 : List S91) (l1 : List S64) : Option (List Int × Bool) := if smallP l1 then some (if validG l0_0 l0_1 l1 then (numsTo l0_0 (unB l0_0 l1) l0_0.length, true) else ([], false)) else none
def impl_UngroupedContexts.T1 : Bool × List (List Nat × List Nat) := (true, [([], []), ([], []), ([1], [1]), ([2], [2]), ([3], [3]), ([], []), ([4, 5], [4, 5]), ([6], [6]), ([0, 7], [0, 7]), ([8], [8]), ([9, 8, 0, 1, 2, 3, 4, 5, 6, 7, 8, 9], [9])])
def impl_UngroupedContexts.B1 : List Nat := [0, 0, 2, 6, 14, 0, 62, 126, 255, 511, 1023]
theorem impl_UngroupedContexts.tab1 : rtab .any (opsOf Try.f61 1) = impl_UngroupedContexts.T1 := by kernel_rfl
theorem impl_UngroupedContexts.bits1 : waitsOk impl_UngroupedContexts.T1.2 impl_UngroupedContexts.B1 = true := by kernel_rfl
set_option maxHeartbeats 8000000 in
set_option maxRecDepth 100000 in
theorem impl_UngroupedContexts.pred (gl go : Nat) (A1 : Option Addr) (c1 : Nat) (l1 : List S64) (w0 : World) (p N1 N2 : Nat) (A : Option Addr) (c : Nat) (cs : List S77) (M1 M2 : Nat → Nat → Bool) (w : World) (H : OrdIn w0 w p N1 N2 cs.length (.slice A cs.length c) (nums cs) M1 M2) (hl : w.cell? ⟨gl, 0, none⟩ = some (.slice A1 l1.length c1)) (ho : w.cell? ⟨go, 0, none⟩ = some (.pointer (some ⟨p, 0, none⟩))) (hr1 : Kd.C k64 w A1 l1.length l1) (hc1 : l1.length ≤ c1) :
    PredN Try.prog 61 #[.pointer (some ⟨gl, 0, none⟩), .pointer (some ⟨go, 0, none⟩)] (unB cs l1) cs.length w := by
  intro W i hi hB
  have HO := H.step hB
  have hl' := pw_cell_below hB hl
  have ho' := pw_cell_below hB ho
  have hn' := HO.c0
  have HCN : Kd.C (Kd.int .i64) W A cs.length (nums cs) := by have h := (Kd.R_reads' HO.ns).2.2; rw [nums_length] at h; exact h
  have hil : (i : Int) < (cs.length : Int) := by omega
  obtain ⟨ad, e1, hx⟩ := Kd.at_int HCN (i : Int) (by omega) hil
  cases e1
  rw [rd_nums cs i hi, Int.toNat_natCast] at hx
  have HP1 := Aside0.mk (Kd.C_below hr1 hB)
  have HPC := Aside0.mk hc1
  unfold unB
  obtain ⟨y, hy⟩ : ∃ y, (cs.getD i z77).f0 = y := ⟨_, rfl⟩
  rw [hy] at hx ⊢
  obtain ⟨ph, hph⟩ : ∃ r, phI l1 y = r := ⟨_, rfl⟩
  have A3 := Aside0.mk (show impl_phaseOf.f l1 y = some ph from congrArg some hph)
  rw [hph]
  have HS0 := Aside0.mk (show (fun w' : World => w'.cell? ⟨gl, 0, none⟩ = some (.slice A1 l1.length c1) ∧ w'.cell? ⟨go, 0, none⟩ = some (.pointer (some ⟨p, 0, none⟩)) ∧ w'.cell? ⟨p, 0, none⟩ = some (.slice (some ad) cs.length c) ∧ w'.cell? (ad.add i) = some (.int .i64 y) ∧ Aside0 (Below W.heap.size W w')) W.drew from ⟨hl', ho', hn', hx, ⟨below_drew1 (Below.refl _ _)⟩⟩)
  clear hx hl' ho' hn' hy hph HCN HO hB hr1 hl ho H hc1
  go_enter Try.func61, Try.ntmps61
  go_upto_region 1 with (fail)
  all_goals refine start_ (n := 11) (S := (fun w' => w'.cell? ⟨gl, 0, none⟩ = some (.slice A1 l1.length c1) ∧ w'.cell? ⟨go, 0, none⟩ = some (.pointer (some ⟨p, 0, none⟩)) ∧ w'.cell? ⟨p, 0, none⟩ = some (.slice (some ad) cs.length c) ∧ w'.cell? (ad.add i) = some (.int .i64 y) ∧ Aside0 (Below W.heap.size W w'))) (ds := []) (bl 0 11) (by kernel_rfl) rfl rfl HS0.out (fun hHeld => ?_); refine with_tabW impl_UngroupedContexts.tab1 impl_UngroupedContexts.bits1 (fun HT_ HW_ => ?_)
  all_goals generalize W.drew = wv at hHeld ⊢
  all_goals first | refine pA_ 5 (some 10) (bx 0 [5] 11) HT_.out (h := ?_) | refine pO_ 5 (some 10) (bx 0 [5] 11) HT_.out (h := ?_)
  all_goals first | refine tA_ 0 (some 5) (bx 1 [5] 11) HT_.out HW_.out hHeld (h := ?_) | refine pO_ 0 (some 5) (bx 1 [5] 11) HT_.out (h := ?_)
  all_goals first | refine tA_ 1 (some 6) (bx 2 [5] 11) HT_.out HW_.out hHeld (h := ?_) | refine pO_ 1 (some 6) (bx 2 [5] 11) HT_.out (h := ?_)
  all_goals first | refine pA_ 2 (some 7) (bx 3 [5] 11) HT_.out (h := ?_) | refine pO_ 2 (some 7) (bx 3 [5] 11) HT_.out (h := ?_)
  all_goals first | refine pA_ 3 (some 8) (bx 4 [5] 11) HT_.out (h := ?_) | refine pO_ 3 (some 8) (bx 4 [5] 11) HT_.out (h := ?_)
  all_goals first | refine tA_ 4 (some 9) (bl 6 11) HT_.out HW_.out hHeld (h := ?_) | refine pO_ 4 (some 9) (bl 6 11) HT_.out (h := ?_)
  all_goals first | refine pA_ 6 (some 11) (bl 7 11) HT_.out (h := ?_) | refine pO_ 6 (some 11) (bl 7 11) HT_.out (h := ?_)
  all_goals first | refine tA_ 7 (some 12) (bl 8 11) HT_.out HW_.out hHeld (h := ?_) | refine pO_ 7 (some 12) (bl 8 11) HT_.out (h := ?_)
  all_goals first | refine pO_ 8 (some 13) (bl 9 11) HT_.out (h := ?_) | (refine one_ (i := 8) (N := some 13) (bl 9 11) rfl rfl (one_of HT_.out (by kernel_rfl)) (by decide) (fun K hK => ?_); refine goes_ Try.func54 (by kernel_rfl) rfl #[.slice A1 l1.length c1, .int .i64 y] (by rfl) rfl rfl (by (try simp only [List.map_toArray, List.map_cons, List.map_nil]); first | done | rfl) ?_; with_reducible refine (impl_phaseOf.calls _ _ l1 y _ _ (Kd.C_below HP1.out hHeld.2.2.2.2.out) HPC.out A3.out).mono ?_; rintro e w1 ⟨rfl, hb⟩; refine ⟨_, rfl, ?_⟩; refine hK.out _ _ ⟨pw_cell_below hb hHeld.1, pw_cell_below hb hHeld.2.1, pw_cell_below hb hHeld.2.2.1, pw_cell_below hb hHeld.2.2.2.1, ⟨below_chain hHeld.2.2.2.2.out hb⟩⟩ (fun hHeld => ?_); clear hK K; refine norm_ (a' := ?_) ?_ ?_; rotate_left; (show Act.put _ (some 13) _ = _; simp only [Act.put, List.setIfInBounds_toArray, List.set_cons_zero, List.set_cons_succ, i64_w, i32_w]; rfl))
  all_goals first | refine pA_ 9 (some 14) (bl 10 11) HT_.out (h := ?_) | refine pO_ 9 (some 14) (bl 10 11) HT_.out (h := ?_)
  all_goals first | refine pA_ 10 (some 4) (bl 11 11) HT_.out (h := ?_) | refine pO_ 10 (some 4) (bl 11 11) HT_.out (h := ?_)
  all_goals refine done_ (done_of HT_.out (by kernel_rfl)) ?_
  go_wp2
  go_ret
  exact ⟨rfl, hHeld.2.2.2.2.out⟩
set_option maxHeartbeats 8000000 in
set_option maxRecDepth 100000 in
theorem impl_UngroupedContexts.calls (A0_0 : Option Addr) (c0_0 : Nat) (l0_0 : List S77) (A0_1 : Option Addr) (c0_1 : Nat) (l0_1 : List S91) (A1 : Option Addr) (c1 : Nat) (l1 : List S64) (r1 : List Int) (r2 : Bool) (w : World) (hr0_0 : Kd.C k77 w A0_0 l0_0.length l0_0) (hc0_0 : l0_0.length ≤ c0_0) (hr0_1 : Kd.C k91 w A0_1 l0_1.length l0_1) (hc0_1 : l0_1.length ≤ c0_1) (hr1 : Kd.C k64 w A1 l1.length l1) (hc1 : l1.length ≤ c1) (h : impl_UngroupedContexts.f l0_0 l0_1 l1 = some (r1, r2)) :
    Calls Try.prog 26 #[.agg #[.slice A0_0 l0_0.length c0_0, .slice A0_1 l0_1.length c0_1], .slice A1 l1.length c1] w fun e w' => ∃ v0_ : Value, e = .returned (.tuple #[v0_, .bool r2]) ∧ Kd.R (Kd.int .i64) 3 w' w.heap.size (fun _ => True) v0_ r1 ∧ Below w.heap.size w w' := by
  have hs : smallP l1 = true := by
    unfold impl_UngroupedContexts.f at h
    by_cases hs : smallP l1 = true
    · exact hs
    · rw [if_neg hs] at h; cases h
  unfold impl_UngroupedContexts.f at h
  rw [if_pos hs] at h
  have HSM := Aside0.mk hs
  have HP1 := Aside0.mk hr1
  have HPC := Aside0.mk hc1
  have H := Option.some.inj h
  clear hs hr1 hc1 h
  have HR0 := Aside0.mk hr0_0
  have HR1 := Aside0.mk hr0_1
  have HC0 := Aside0.mk hc0_0
  have HC1 := Aside0.mk hc0_1
  clear hr0_0 hr0_1 hc0_0 hc0_1
  obtain ⟨wb, hwb⟩ : ∃ wb, ((w).alloc (.cells #[.slice A0_0 l0_0.length c0_0, .slice A0_1 l0_1.length c0_1] 33 (0, 0))).alloc (.cells #[.slice A1 l1.length c1] 35 (0, 0)) = wb := ⟨_, rfl⟩
  have HBw := Aside0.mk (show Below w.heap.size w wb from by rw [← hwb]; repeat (first | exact Below.refl _ _ | apply below_alloc))
  have HWB := HBw
  have hhr : wb.heap[w.heap.size]? = some (.cells #[.slice A0_0 l0_0.length c0_0, .slice A0_1 l0_1.length c0_1] 33 (0, 0)) := by rw [← hwb]; have h := blk_new (w) (.cells #[.slice A0_0 l0_0.length c0_0, .slice A0_1 l0_1.length c0_1] 33 (0, 0)); rw [show (w).heap.size = w.heap.size from by rfl] at h; exact blk_alloc (h) _
  have hb0 : wb.cell? ⟨w.heap.size, 0, none⟩ = some (.slice A0_0 l0_0.length c0_0) := (blk_cell hhr 0).trans rfl
  have hb1 : wb.cell? ⟨w.heap.size, 1, none⟩ = some (.slice A0_1 l0_1.length c0_1) := (blk_cell hhr 1).trans rfl
  have hh0 : wb.heap[w.heap.size + 1]? = some (.cells #[.slice A1 l1.length c1] 35 (0, 0)) := by rw [← hwb]; have h := blk_new ((w).alloc (.cells #[.slice A0_0 l0_0.length c0_0, .slice A0_1 l0_1.length c0_1] 33 (0, 0))) (.cells #[.slice A1 l1.length c1] 35 (0, 0)); rw [show ((w).alloc (.cells #[.slice A0_0 l0_0.length c0_0, .slice A0_1 l0_1.length c0_1] 33 (0, 0))).heap.size = w.heap.size + 1 from by simp] at h; exact h
  have hx0 : wb.cell? ⟨w.heap.size + 1, 0, none⟩ = some (.slice A1 l1.length c1) := (blk_cell hh0 0).trans rfl
  have hbs : w.heap.size + 1 < wb.heap.size := blk_lt hh0
  have HW := Aside0.mk hwb
  clear hwb hhr hh0
  have eg := enters_of Try.func61 (by kernel_rfl) rfl
  obtain ⟨b, hb⟩ : ∃ b, goodB l0_0 l0_1 = b := ⟨_, rfl⟩
  have HGB := Aside0.mk hb
  unfold validG at H
  rw [hb] at H
  cases b with
  | false =>
    clear hb
    injection H with H1 H2
    subst H1; subst H2
    go_enter Try.func26, Try.ntmps26
    go_upto_region 1 with (fail)
    try rw [HW.out]
    clear HW
    go_wp2_with (go_at_call 47; (refine (impl_readGrouping.bad _ _ l0_0 _ _ l0_1 _ _ l1 _ (Kd.C_below HR0.out (by repeat (first | exact HBw.out | exact Below.refl _ _ | apply below_alloc | apply pw_below_drewN | apply below_drew1))) HC0.out (Kd.C_below HR1.out (by repeat (first | exact HBw.out | exact Below.refl _ _ | apply below_alloc | apply pw_below_drewN | apply below_drew1))) HC1.out (Kd.C_below HP1.out (by repeat (first | exact HBw.out | exact Below.refl _ _ | apply below_alloc | apply pw_below_drewN | apply below_drew1))) HPC.out HGB.out).mono ?_); rintro e w1 ⟨rfl, hb⟩; have HBw : Aside0 (Below w.heap.size w w1) := Aside0.mk (below_chain (w := w) (by repeat (first | exact HBw.out | exact Below.refl _ _ | apply below_alloc | apply pw_below_drewN | apply below_drew1)) hb); have hb0 := pw_cell_below hb hb0; clear hb)
    go_ret2
    exact ⟨_, rfl, Kd.R_nil _ _ _ _ _, (by repeat (first | exact HBw.out | exact Below.refl _ _ | apply below_alloc | apply pw_below_drewN | apply below_drew1))⟩
  | true =>
    have HG := Aside0.mk (goodB_parts hb)
    clear hb
    obtain ⟨b2, hb2⟩ : ∃ b, (consB l0_0.length (lat l0_0 l0_1) && grpB l0_0 l1) = b := ⟨_, rfl⟩
    rw [hb2] at H
    have HCB := Aside0.mk hb2
    clear hb2
    cases b2 with
    | false =>
      injection H with H1 H2
      subst H1; subst H2
      go_enter Try.func26, Try.ntmps26
      go_upto_region 1 with (fail)
      try rw [HW.out]
      clear HW
      go_wp2_with (go_at_call 47; (refine (impl_readGrouping.calls _ _ l0_0 _ _ l0_1 _ _ l1 _ (Kd.C_below HR0.out (by repeat (first | exact HBw.out | exact Below.refl _ _ | apply below_alloc | apply pw_below_drewN | apply below_drew1))) HC0.out (Kd.C_below HR1.out (by repeat (first | exact HBw.out | exact Below.refl _ _ | apply below_alloc | apply pw_below_drewN | apply below_drew1))) HC1.out (Kd.C_below HP1.out (by repeat (first | exact HBw.out | exact Below.refl _ _ | apply below_alloc | apply pw_below_drewN | apply below_drew1))) HPC.out HGB.out HSM.out).mono ?_); rintro e w1 ⟨p, rfl, N1, N2, A, c, HO⟩; rw [HCB.out]; have hb := HO.below; have HBw : Aside0 (Below w.heap.size w w1) := Aside0.mk (below_chain (w := w) (by repeat (first | exact HBw.out | exact Below.refl _ _ | apply below_alloc | apply pw_below_drewN | apply below_drew1)) hb); have hb0 := pw_cell_below hb hb0; clear hb HO)
      go_ret2
      exact ⟨_, rfl, Kd.R_nil _ _ _ _ _, (by repeat (first | exact HBw.out | exact Below.refl _ _ | apply below_alloc | apply pw_below_drewN | apply below_drew1))⟩
    | true =>
      injection H with H1 H2
      subst H1; subst H2
      go_enter Try.func26, Try.ntmps26
      go_upto_region 1 with (fail)
      try rw [HW.out]
      clear HW
      go_upto_region 2 with (go_at_call 47; (refine (impl_readGrouping.calls _ _ l0_0 _ _ l0_1 _ _ l1 _ (Kd.C_below HR0.out (by repeat (first | exact HBw.out | exact Below.refl _ _ | apply below_alloc | apply pw_below_drewN | apply below_drew1))) HC0.out (Kd.C_below HR1.out (by repeat (first | exact HBw.out | exact Below.refl _ _ | apply below_alloc | apply pw_below_drewN | apply below_drew1))) HC1.out (Kd.C_below HP1.out (by repeat (first | exact HBw.out | exact Below.refl _ _ | apply below_alloc | apply pw_below_drewN | apply below_drew1))) HPC.out HGB.out HSM.out).mono ?_); rintro e w1 ⟨p, rfl, N1, N2, A, c, HO⟩; rw [HCB.out]; have hb := HO.below; have HBw : Aside0 (Below w.heap.size w w1) := Aside0.mk (below_chain (w := w) (by repeat (first | exact HBw.out | exact Below.refl _ _ | apply below_alloc | apply pw_below_drewN | apply below_drew1)) hb); have hb0 := pw_cell_below hb hb0; have hb1 := pw_cell_below hb hb1; have hx0 := pw_cell_below hb hx0; have HOA := Aside0.mk HO; clear hb HO)
      obtain ⟨gv, hgv⟩ : ∃ g, w1.heap.size = g := ⟨_, rfl⟩
      have HBO := Aside0.mk (below_alloc (Below.refl w1.heap.size w1) (.cells #[.pointer (some ⟨p, 0, none⟩)] 66 (0, 0)))
      have BV := Aside0.mk (blk_new w1 (.cells #[.pointer (some ⟨p, 0, none⟩)] 66 (0, 0)))
      generalize w1.alloc (.cells #[.pointer (some ⟨p, 0, none⟩)] 66 (0, 0)) = wq at HBO BV ⊢
      rw [hgv] at BV
      try rw [hgv]
      have HOA := Aside0.mk (HOA.out.step HBO.out)
      have HBw := Aside0.mk (below_chain HBw.out HBO.out)
      have hb0 := pw_cell_below HBO.out hb0
      have hb1 := pw_cell_below HBO.out hb1
      have hx0 := pw_cell_below HBO.out hx0
      have hz : wq.cell? ⟨gv, 0, none⟩ = some (.pointer (some ⟨p, 0, none⟩)) := (blk_cell BV.out 0).trans rfl
      have HPR := Aside0.mk (impl_UngroupedContexts.pred (w.heap.size + 1) gv A1 c1 l1 _ p N1 N2 A c l0_0 _ _ wq HOA.out hx0 hz (Kd.C_below HP1.out HBw.out) HPC.out)
      clear hgv HBO
      go_wp2_with (go_at_call 60; (refine (impl_order_numbersOf.calls 61 _ eg _ _ p N1 N2 A c l0_0 _ _ _ HOA.out (by have := HG.out.1; omega) HPR.out).mono ?_); rintro e w3 ⟨v3, rfl, hR, hb⟩; have HR3 := Aside0.mk hR; have HB3 := Aside0.mk hb; clear hR hb)
      go_ret2
      exact ⟨_, rfl, Kd.R_lower HR3.out HBw.out.size, below_chain HBw.out HB3.out⟩

end Go.Proofs.Ytenphfagdpkjaaa.Q

-- Written by a program of this session (wip/xprint.py over the kit's printer).
import Derived.Test.YtlbkoejpjpcgaaaQ0
import Derived.Test.YtlbkoejpjpcgaaaQB0
import Derived.Test.YtlbkoejpjpcgaaaQB1
import Derived.Test.YtlbkoejpjpcgaaaQF37
import Derived.Test.YtlbkoejpjpcgaaaQF38
import Derived.Test.YtlbkoejpjpcgaaaQF39
import Derived.Test.YtlbkoejpjpcgaaaQF40
import Derived.Test.YtlbkoejpjpcgaaaQF41
import Derived.Test.YtlbkoejpjpcgaaaQLBBaseB
import Derived.Test.YtlbkoejpjpcgaaaQLBBaseMark
import Derived.Test.YtlbkoejpjpcgaaaQM0
import Derived.Test.YtlbkoejpjpcgaaaQP
namespace Go.Proofs.Ytlbkoejpjpcgaaa.Q
open Go.RowKit Go.Proofs.YtlbkoejpjpcgaaaW.PrintWords Go.Proofs.YtlbkoejpjpcgaaaW.PrintLast
set_option linter.unusedVariables false
set_option linter.unusedSimpArgs false

/-! ### laws_FnExactUnrelatedPairs: function 8 -/
instance laws_FnExactUnrelatedPairs.decR : DecidableEq S100 := fun a b => if h : a.f0 = b.f0 ∧ a.f1 = b.f1 then isTrue (by cases a; cases b; obtain ⟨h1, h2⟩ := h; simp only at h1 h2; rw [h1, h2]) else isFalse (fun e => h (by rw [e]; exact ⟨rfl, rfl⟩))
def laws_FnExactUnrelatedPairs.f (k : Nat) (l0_0 : List S118) (l0_1 : List S120) : Option Bool :=
  if 1048576 < l0_0.length ∨ 1048576 < l0_1.length then some true else
  match impl_UnrelatedPairs.f (l0_0.map LB.cvC) (l0_1.map LB.cvR) with
  | none => none
  | some A => if spec_UnrelatedPairs.f k (l0_0.map LB.cvC) (l0_1.map LB.cvR) = some A ∧ A.1.length ≤ 1000000 then some true else none
def laws_FnExactUnrelatedPairs.T10 : Bool × List (List Nat × List Nat) := (true, [([], []), ([], []), ([1], [1]), ([0, 2, 2], [0, 2]), ([3], [3])])
def laws_FnExactUnrelatedPairs.B10 : List Nat := [0, 0, 2, 7, 15]
theorem laws_FnExactUnrelatedPairs.tab10 : rtab .any (opsOf Try.f8 10) = laws_FnExactUnrelatedPairs.T10 := by kernel_rfl
theorem laws_FnExactUnrelatedPairs.bits10 : waitsOk laws_FnExactUnrelatedPairs.T10.2 laws_FnExactUnrelatedPairs.B10 = true := by kernel_rfl
set_option maxHeartbeats 16000000 in
set_option maxRecDepth 100000 in
theorem laws_FnExactUnrelatedPairs.calls (k : Nat) (A0_0 : Option Addr) (c0_0 : Nat) (l0_0 : List S118) (A0_1 : Option Addr) (c0_1 : Nat) (l0_1 : List S120) (r : Bool) (w : World) (hr0_0 : Kd.C k118 w A0_0 l0_0.length l0_0) (hc0_0 : l0_0.length ≤ c0_0) (hr0_1 : Kd.C k120 w A0_1 l0_1.length l0_1) (hc0_1 : l0_1.length ≤ c0_1) (h : laws_FnExactUnrelatedPairs.f k l0_0 l0_1 = some r) :
    Calls Try.prog 8 #[.agg #[.slice A0_0 l0_0.length c0_0, .slice A0_1 l0_1.length c0_1]] w fun e w' => e = .returned (.bool r) ∧ Below w.heap.size w w' := by
  obtain ⟨t, ht, hc⟩ := LB.szRecord_eq l0_0 l0_1 hr0_0.2.1 hr0_1.2.1
  have HT := Aside0.mk ht
  clear ht
  have H := h
  unfold laws_FnExactUnrelatedPairs.f at H
  clear h
  have HR0 := Aside0.mk hr0_0
  have HR1 := Aside0.mk hr0_1
  have HC0 := Aside0.mk hc0_0
  have HC1 := Aside0.mk hc0_1
  clear hr0_0 hr0_1 hc0_0 hc0_1
  obtain ⟨wb, hwb⟩ : ∃ wb, (w).alloc (.cells #[.slice A0_0 l0_0.length c0_0, .slice A0_1 l0_1.length c0_1] 25 (0, 0)) = wb := ⟨_, rfl⟩
  have HBw := Aside0.mk (show Below w.heap.size w wb from by rw [← hwb]; repeat (first | exact Below.refl _ _ | apply below_alloc))
  have HWB := HBw
  have hhr : wb.heap[w.heap.size]? = some (.cells #[.slice A0_0 l0_0.length c0_0, .slice A0_1 l0_1.length c0_1] 25 (0, 0)) := by rw [← hwb]; have h := blk_new (w) (.cells #[.slice A0_0 l0_0.length c0_0, .slice A0_1 l0_1.length c0_1] 25 (0, 0)); rw [show (w).heap.size = w.heap.size from by rfl] at h; exact h
  have hb0 : wb.cell? ⟨w.heap.size, 0, none⟩ = some (.slice A0_0 l0_0.length c0_0) := (blk_cell hhr 0).trans rfl
  have hb1 : wb.cell? ⟨w.heap.size, 1, none⟩ = some (.slice A0_1 l0_1.length c0_1) := (blk_cell hhr 1).trans rfl
  have hbs : w.heap.size < wb.heap.size := blk_lt hhr
  have HW := Aside0.mk hwb
  clear hwb hhr
  rcases hc with hc | ⟨ht0, _, hl0, hl1⟩
  · obtain rfl : r = true := by
      split at H
      · exact (Option.some.inj H).symm
      · split at H
        · cases H
        · split at H
          · exact (Option.some.inj H).symm
          · cases H
    clear H
    go_enter Try.func8, Try.ntmps8
    go_upto_region 1 with (fail)
    try rw [HW.out]
    clear HW
    go_wp2_with (go_at_call 9; (with_reducible refine (laws_szRecord.calls _ _ l0_0 _ _ l0_1 _ t _ (Kd.C_below HR0.out (by repeat (first | exact HBw.out | exact Below.refl _ _ | apply below_alloc | apply pw_below_drewN | apply below_drew1))) HC0.out (Kd.C_below HR1.out (by repeat (first | exact HBw.out | exact Below.refl _ _ | apply below_alloc | apply pw_below_drewN | apply below_drew1))) HC1.out HT.out).mono ?_); rintro e w1 ⟨rfl, hb⟩; have HBw : Aside0 (Below w.heap.size w w1) := Aside0.mk (below_chain (w := w) (by repeat (first | exact HBw.out | exact Below.refl _ _ | apply below_alloc | apply pw_below_drewN | apply below_drew1)) hb); have hb0 := pw_cell_below hb hb0; clear hb)
    go_ret
    exact ⟨rfl, (by repeat (first | exact HBw.out | exact Below.refl _ _ | apply below_alloc | apply pw_below_drewN | apply below_drew1))⟩
  · have hc : ¬ t < 0 := by omega
    rw [if_neg (by omega)] at H
    obtain ⟨cs, hcs⟩ : ∃ cs, l0_0.map LB.cvC = cs := ⟨_, rfl⟩
    obtain ⟨rs, hrs⟩ : ∃ rs, l0_1.map LB.cvR = rs := ⟨_, rfl⟩
    obtain ⟨k1, hk1⟩ := Ev.rounds (LB.toRecord_ev l0_0 l0_1 hl0 hl1)
    have hcl : cs.length ≤ 1048576 := by rw [← hcs, List.length_map]; exact hl0
    have hrl : rs.length ≤ 1048576 := by rw [← hrs, List.length_map]; exact hl1
    rw [hcs, hrs] at H hk1
    obtain ⟨o, ho⟩ : ∃ o, impl_UnrelatedPairs.f cs rs = o := ⟨_, rfl⟩
    rw [ho] at H
    cases o with
    | none => cases H
    | some A =>
    obtain ⟨ss, bb⟩ := A
    have H2 : spec_UnrelatedPairs.f k cs rs = some (ss, bb) ∧ ss.length ≤ 1000000 := by
      by_cases hx : spec_UnrelatedPairs.f k cs rs = some (ss, bb) ∧ ss.length ≤ 1000000
      · exact hx
      · simp only [if_neg hx] at H
        cases H
    obtain ⟨hsp, hsl⟩ := H2
    obtain rfl : r = true := by
      simp only [if_pos (show spec_UnrelatedPairs.f k cs rs = some (ss, bb) ∧ ss.length ≤ 1000000 from ⟨hsp, hsl⟩)] at H
      exact (Option.some.inj H).symm
    obtain ⟨k2, hk2⟩ := Ev.rounds (LB.eqRecord_ev cs rs hcl hrl)
    obtain ⟨mm, mx_, my_, hmm, _, hmk⟩ := LB.markRecord_ev cs rs 1 hcl hrl (by omega) (by omega)
    obtain ⟨k3, hk3⟩ := Ev.rounds hmk
    have HSP := Aside0.mk hsp
    have HIM := Aside0.mk ho
    have HK1 := Aside0.mk hk1
    have HK2 := Aside0.mk hk2
    have HK3 := Aside0.mk hk3
    have HSL := Aside0.mk hsl
    have hm0 : ¬ mm < 0 := by omega
    obtain ⟨qq, hqq⟩ : ∃ q, 1 + 2 * (ss.length : Int) = q := ⟨_, rfl⟩
    have HQQ := Aside0.mk hqq
    have hq0 : ¬ qq < 0 := by omega
    have HML := Aside0.mk (mkA_length 1 ss.length)
    have hne : (bb != bb) = false := bne_self_eq_false bb
    have hqe : (qq != qq) = false := bne_self_eq_false qq
    clear H hcs hrs hcl hrl hsp ho hk1 hk2 hk3 hmk hmm hsl hqq hl0 hl1 ht0
    go_enter Try.func8, Try.ntmps8
    go_upto_region 1 with (fail)
    try rw [HW.out]
    clear HW
    go_upto_region 5 with (go_at_call 9; (with_reducible refine (laws_szRecord.calls _ _ l0_0 _ _ l0_1 _ t _ (Kd.C_below HR0.out (by repeat (first | exact HBw.out | exact Below.refl _ _ | apply below_alloc | apply pw_below_drewN | apply below_drew1))) HC0.out (Kd.C_below HR1.out (by repeat (first | exact HBw.out | exact Below.refl _ _ | apply below_alloc | apply pw_below_drewN | apply below_drew1))) HC1.out HT.out).mono ?_); rintro e w1 ⟨rfl, hb⟩; have HBw : Aside0 (Below w.heap.size w w1) := Aside0.mk (below_chain (w := w) (by repeat (first | exact HBw.out | exact Below.refl _ _ | apply below_alloc | apply pw_below_drewN | apply below_drew1)) hb); have hb0 := pw_cell_below hb hb0; have hb1 := pw_cell_below hb hb1; clear hb)
    clear hc
    go_upto_region 6 with (first | (go_at_call 11; (refine (laws_toRecord.calls k1 _ _ l0_0 _ _ l0_1 cs rs _ (Kd.C_below HR0.out (by repeat (first | exact HBw.out | exact Below.refl _ _ | apply below_alloc | apply pw_below_drewN | apply below_drew1))) HC0.out (Kd.C_below HR1.out (by repeat (first | exact HBw.out | exact Below.refl _ _ | apply below_alloc | apply pw_below_drewN | apply below_drew1))) HC1.out HK1.out).mono ?_); rintro e w2 ⟨v0, v1, rfl, hR0, hR1, hb⟩; obtain ⟨vA, vc, rfl, hd0, hC0⟩ := Kd.R_reads hR0; obtain ⟨vB, vd, rfl, hd1, hC1⟩ := Kd.R_reads hR1; have HX0 := Aside0.mk hC0; have HX1 := Aside0.mk hC1; have HD0 := Aside0.mk hd0; have HD1 := Aside0.mk hd1; have HBw : Aside0 (Below w.heap.size w w2) := Aside0.mk (below_chain (w := w) (by repeat (first | exact HBw.out | exact Below.refl _ _ | apply below_alloc | apply pw_below_drewN | apply below_drew1)) hb); have hb0 := pw_cell_below hb hb0; have hb1 := pw_cell_below hb hb1; clear hR0 hR1 hC0 hC1 hd0 hd1 hb) | (go_at_call 37; (refine (spec_UnrelatedPairs.calls k _ _ cs _ _ rs ss bb _ HX0.out HD0.out HX1.out HD1.out HSP.out).mono ?_); rintro e w3 ⟨v2, rfl, hS, hb⟩; obtain ⟨A2, c2, rfl, hc2, hC2⟩ := Kd.R_reads hS; have HW0 := Aside0.mk hC2; have HC2 := Aside0.mk hc2; have HBw : Aside0 (Below w.heap.size w w3) := Aside0.mk (below_chain (w := w) (by repeat (first | exact HBw.out | exact Below.refl _ _ | apply below_alloc | apply pw_below_drewN | apply below_drew1)) hb); have hb0 := pw_cell_below hb hb0; have hb1 := pw_cell_below hb hb1; clear hS hc2 hC2 hb))
    clear HX0 HX1 HD0 HD1
    obtain ⟨wa, rfl⟩ : ∃ x, x = w3 := ⟨_, rfl⟩
    have HA := Aside0.mk (Below.refl wa.heap.size wa)
    have HBwa := HBw
    clear HBw
    have HB0a := Aside0.mk hb0
    have HB1a := Aside0.mk hb1
    go_upto_region 7 with (go_at_call 11; (refine (laws_toRecord.calls k1 _ _ l0_0 _ _ l0_1 cs rs _ (Kd.C_below HR0.out (below_chain HBwa.out (by repeat (first | exact HA.out | exact Below.refl _ _ | apply below_alloc | apply pw_below_drewN | apply below_drew1)))) HC0.out (Kd.C_below HR1.out (below_chain HBwa.out (by repeat (first | exact HA.out | exact Below.refl _ _ | apply below_alloc | apply pw_below_drewN | apply below_drew1)))) HC1.out HK1.out).mono ?_); rintro e w4 ⟨u0, u1, rfl, hR0, hR1, hb⟩; obtain ⟨uA, uc, rfl, hd0, hC0⟩ := Kd.R_reads hR0; obtain ⟨uB, ud, rfl, hd1, hC1⟩ := Kd.R_reads hR1; have HX0 := Aside0.mk (Kd.R_lower hR0 HA.out.size); have HX1 := Aside0.mk (Kd.R_lower hR1 HA.out.size); have HD0 := Aside0.mk hd0; have HD1 := Aside0.mk hd1; have HA := Aside0.mk (below_chain (w := wa) (by repeat (first | exact HA.out | exact Below.refl _ _ | apply below_alloc | apply pw_below_drewN | apply below_drew1)) hb); have hb0 := pw_cell_below hb hb0; have hb1 := pw_cell_below hb hb1; clear hR0 hR1 hC0 hC1 hd0 hd1; clear hb)
    have hal := below_alloc (Below.refl w4.heap.size w4) (.cells #[.slice uA cs.length uc, .slice uB rs.length ud] 33 (0, 0))
    have BK := Aside0.mk (blk_new w4 (.cells #[.slice uA cs.length uc, .slice uB rs.length ud] 33 (0, 0)))
    have HX0 := Aside0.mk (Kd.R_mono (ok' := fun k => k < w4.heap.size) (Kd.R_below (Kd.R_bound HX0.out) hal) (fun k hk => hk.2.2.1))
    have HX1 := Aside0.mk (Kd.R_mono (ok' := fun k => k < w4.heap.size) (Kd.R_below (Kd.R_bound HX1.out) hal) (fun k hk => hk.2.2.1))
    have HA := Aside0.mk (below_chain (w := wa) HA.out hal)
    have hb0 := pw_cell_below hal hb0
    have hb1 := pw_cell_below hal hb1
    have HSZ := Aside0.mk (show (w4.alloc (.cells #[.slice uA cs.length uc, .slice uB rs.length ud] 33 (0, 0))).heap.size = w4.heap.size + 1 from by simp)
    obtain ⟨gx, hgx⟩ : ∃ g, w4.heap.size = g := ⟨_, rfl⟩
    generalize w4.alloc (.cells #[.slice uA cs.length uc, .slice uB rs.length ud] 33 (0, 0)) = wq at hal BK HX0 HX1 HA hb0 hb1 HSZ ⊢
    rw [hgx] at BK HX0 HX1 HSZ
    try rw [hgx]
    clear hal hgx
    have hz0 : wq.cell? ⟨gx, 0, none⟩ = some (.slice uA cs.length uc) := (blk_cell BK.out 0).trans rfl
    have hz1 : wq.cell? ⟨gx, 1, none⟩ = some (.slice uB rs.length ud) := (blk_cell BK.out 1).trans rfl
    clear BK
    go_upto_region 8 with (go_at_call 38; (refine (impl_UnrelatedPairs.calls _ _ cs _ _ rs ss bb _ (Kd.C_below (Kd.R_reads' HX0.out).2.2 (by repeat (first | exact Below.refl _ _ | apply below_alloc | apply pw_below_drewN | apply below_drew1))) HD0.out (Kd.C_below (Kd.R_reads' HX1.out).2.2 (by repeat (first | exact Below.refl _ _ | apply below_alloc | apply pw_below_drewN | apply below_drew1))) HD1.out HIM.out).mono ?_); rintro e w5 ⟨v5, rfl, hS, hb⟩; obtain ⟨A5, c5, rfl, hc5, hC5⟩ := Kd.R_reads hS; have HC5 := Aside0.mk hc5; have HG := Aside0.mk (Kd.R_mono (ok' := fun k => gx < k) (Kd.R_bound (Kd.R_lower hS (Nat.le_refl wq.heap.size))) (fun k hk => by have h1 := hk.2.1; have h2 := HSZ.out; omega)); have HG := Aside0.mk (Kd.R_lower HG.out HA.out.size); have HA := Aside0.mk (below_chain (w := wa) (by repeat (first | exact HA.out | exact Below.refl _ _ | apply below_alloc | apply pw_below_drewN | apply below_drew1)) hb); have hb0 := pw_cell_below hb hb0; have hb1 := pw_cell_below hb hb1; have hz0 := pw_cell_below hb hz0; have hz1 := pw_cell_below hb hz1; have HX0 := Aside0.mk (Kd.R_below HX0.out hb); have HX1 := Aside0.mk (Kd.R_below HX1.out hb); clear hS hc5 hC5; clear hb)
    clear HSZ
    go_upto_region 10 with (go_at_call 39; (refine (laws_eqIntA2S.calls _ _ _ _ ss _ (Kd.C_below (Kd.R_reads' HG.out).2.2 (by repeat (first | exact Below.refl _ _ | apply below_alloc | apply pw_below_drewN | apply below_drew1))) (Kd.C_below HW0.out (by repeat (first | exact HA.out | exact Below.refl _ _ | apply below_alloc | apply pw_below_drewN | apply below_drew1))) HSL.out).mono ?_); rintro e w6 ⟨rfl, hb⟩; have HA := Aside0.mk (below_chain (w := wa) (by repeat (first | exact HA.out | exact Below.refl _ _ | apply below_alloc | apply pw_below_drewN | apply below_drew1)) hb); have hb0 := pw_cell_below hb hb0; have hb1 := pw_cell_below hb hb1; have hz0 := pw_cell_below hb hz0; have hz1 := pw_cell_below hb hz1; have HX0 := Aside0.mk (Kd.R_below HX0.out hb); have HX1 := Aside0.mk (Kd.R_below HX1.out hb); have HG := Aside0.mk (Kd.R_below HG.out hb); clear hb)
    have HS0 := Aside0.mk (show (fun w' => w'.cell? ⟨w.heap.size, 0, none⟩ = some (.slice A0_0 l0_0.length c0_0) ∧ w'.cell? ⟨w.heap.size, 1, none⟩ = some (.slice A0_1 l0_1.length c0_1) ∧ w'.cell? ⟨gx, 0, none⟩ = some (.slice uA cs.length uc) ∧ w'.cell? ⟨gx, 1, none⟩ = some (.slice uB rs.length ud) ∧ Aside0 (Below wa.heap.size wa w') ∧ Aside0 (Kd.R k108 108 w' wa.heap.size (fun k => k < gx) (.slice uA cs.length uc) cs) ∧ Aside0 (Kd.R k100 100 w' wa.heap.size (fun k => k < gx) (.slice uB rs.length ud) rs) ∧ Aside0 (Kd.R k100 109 w' wa.heap.size (fun k => gx < k) (.slice A5 ss.length c5) ss)) w6.drew from ⟨hb0, hb1, hz0, hz1, ⟨below_drew1 HA.out⟩, ⟨Kd.R_drew HX0.out⟩, ⟨Kd.R_drew HX1.out⟩, ⟨Kd.R_drew HG.out⟩⟩)
    clear hb0 hb1 hz0 hz1 HA HX0 HX1 HG
    all_goals refine start_ (n := 5) (S := (fun w' => w'.cell? ⟨w.heap.size, 0, none⟩ = some (.slice A0_0 l0_0.length c0_0) ∧ w'.cell? ⟨w.heap.size, 1, none⟩ = some (.slice A0_1 l0_1.length c0_1) ∧ w'.cell? ⟨gx, 0, none⟩ = some (.slice uA cs.length uc) ∧ w'.cell? ⟨gx, 1, none⟩ = some (.slice uB rs.length ud) ∧ Aside0 (Below wa.heap.size wa w') ∧ Aside0 (Kd.R k108 108 w' wa.heap.size (fun k => k < gx) (.slice uA cs.length uc) cs) ∧ Aside0 (Kd.R k100 100 w' wa.heap.size (fun k => k < gx) (.slice uB rs.length ud) rs) ∧ Aside0 (Kd.R k100 109 w' wa.heap.size (fun k => gx < k) (.slice A5 ss.length c5) ss))) (ds := []) (bl 0 5) (by kernel_rfl) rfl rfl HS0.out (fun hHeld => ?_); refine with_tabW laws_FnExactUnrelatedPairs.tab10 laws_FnExactUnrelatedPairs.bits10 (fun HT_ HW_ => ?_)
    all_goals generalize w6.drew = wv at hHeld ⊢
    all_goals first | refine tA_ 0 (some 41) (bl 1 5) HT_.out HW_.out hHeld (h := ?_) | refine pO_ 0 (some 41) (bl 1 5) HT_.out (h := ?_)
    all_goals first | refine tA_ 1 (some 42) (bl 2 5) HT_.out HW_.out hHeld (h := ?_) | refine pO_ 1 (some 42) (bl 2 5) HT_.out (h := ?_)
    all_goals first | refine pO_ 2 (some 43) (bl 3 5) HT_.out (h := ?_) | (refine one_ (i := 2) (N := some 43) (bl 3 5) rfl rfl (one_of HT_.out (by kernel_rfl)) (by decide) (fun K hK => ?_); refine goes_ Try.func11 (by kernel_rfl) rfl #[.agg #[.slice A0_0 l0_0.length c0_0, .slice A0_1 l0_1.length c0_1]] (by rfl) rfl rfl (by (try simp only [List.map_toArray, List.map_cons, List.map_nil]); first | done | rfl) ?_; with_reducible refine (laws_toRecord.calls k1 _ _ l0_0 _ _ l0_1 cs rs _ (Kd.C_below HR0.out (below_chain HBwa.out hHeld.2.2.2.2.1.out)) HC0.out (Kd.C_below HR1.out (below_chain HBwa.out hHeld.2.2.2.2.1.out)) HC1.out HK1.out).mono ?_; rintro e w7 ⟨x0, x1, rfl, hR0, hR1, hb⟩; obtain ⟨xA, xc, rfl, hd0, hC0⟩ := Kd.R_reads hR0; obtain ⟨xB, xd, rfl, hd1, hC1⟩ := Kd.R_reads hR1; have HY0 := Aside0.mk hC0; have HY1 := Aside0.mk hC1; have HE0 := Aside0.mk hd0; have HE1 := Aside0.mk hd1; clear hR0 hR1 hC0 hC1 hd0 hd1; refine ⟨_, rfl, ?_⟩; refine hK.out _ _ ⟨pw_cell_below hb hHeld.1, pw_cell_below hb hHeld.2.1, pw_cell_below hb hHeld.2.2.1, pw_cell_below hb hHeld.2.2.2.1, ⟨below_chain hHeld.2.2.2.2.1.out hb⟩, ⟨Kd.R_below hHeld.2.2.2.2.2.1.out hb⟩, ⟨Kd.R_below hHeld.2.2.2.2.2.2.1.out hb⟩, ⟨Kd.R_below hHeld.2.2.2.2.2.2.2.out hb⟩⟩ (fun hHeld => ?_); clear hK K; refine norm_ (a' := ?_) ?_ ?_; rotate_left; (show Act.put _ (some 43) _ = _; simp only [Act.put, List.setIfInBounds_toArray, List.set_cons_zero, List.set_cons_succ, i64_w, i32_w]; rfl))
    all_goals first | refine pO_ 3 (some 44) (bl 4 5) HT_.out (h := ?_) | (refine one_ (i := 3) (N := some 44) (bl 4 5) rfl rfl (one_of HT_.out (by kernel_rfl)) (by decide) (fun K hK => ?_); refine goes_ Try.func14 (by kernel_rfl) rfl #[.agg #[.slice uA cs.length uc, .slice uB rs.length ud], .agg #[.slice xA cs.length xc, .slice xB rs.length xd]] (by rfl) rfl rfl (by (try simp only [List.map_toArray, List.map_cons, List.map_nil]); first | done | rfl) ?_; with_reducible refine (laws_eqRecord.calls k2 _ _ cs _ _ rs _ _ cs _ _ rs true _ (Kd.R_reads' hHeld.2.2.2.2.2.1.out).2.2 HD0.out (Kd.R_reads' hHeld.2.2.2.2.2.2.1.out).2.2 HD1.out HY0.out HE0.out HY1.out HE1.out HK2.out).mono ?_; rintro e w8 ⟨rfl, hb⟩; refine ⟨_, rfl, ?_⟩; refine hK.out _ _ ⟨pw_cell_below hb hHeld.1, pw_cell_below hb hHeld.2.1, pw_cell_below hb hHeld.2.2.1, pw_cell_below hb hHeld.2.2.2.1, ⟨below_chain hHeld.2.2.2.2.1.out hb⟩, ⟨Kd.R_below hHeld.2.2.2.2.2.1.out hb⟩, ⟨Kd.R_below hHeld.2.2.2.2.2.2.1.out hb⟩, ⟨Kd.R_below hHeld.2.2.2.2.2.2.2.out hb⟩⟩ (fun hHeld => ?_); clear hK K; refine norm_ (a' := ?_) ?_ ?_; rotate_left; (show Act.put _ (some 44) _ = _; simp only [Act.put, List.setIfInBounds_toArray, List.set_cons_zero, List.set_cons_succ, i64_w, i32_w]; rfl))
    all_goals first | refine pA_ 4 (some 45) (bl 5 5) HT_.out (h := ?_) | refine pO_ 4 (some 45) (bl 5 5) HT_.out (h := ?_)
    all_goals refine done_ (done_of HT_.out (by kernel_rfl)) ?_
    obtain ⟨hb0, hb1, hz0, hz1, HA, HX0, HX1, HG⟩ := hHeld
    obtain ⟨w9, hw9⟩ : ∃ x, w8 = x := ⟨_, rfl⟩
    rw [hw9] at hb0 hb1 hz0 hz1 HA HX0 HX1 HG ⊢
    clear hw9 HS0 HY0 HY1 HE0 HE1
    go_upto_region 14 with (go_at_call 15; (refine (laws_markRecord.calls k3 (fun k => k < gx) _ cs (fun k => k < gx) _ rs 1 mm mx_ my_ wa _ (by repeat (first | exact HA.out | exact Below.refl _ _ | apply below_alloc | apply pw_below_drewN | apply below_drew1)) (by (with_reducible repeat (first | apply Kd.R_alloc | apply Kd.R_drewN | apply Kd.R_drew)); exact HX0.out) (by (with_reducible repeat (first | apply Kd.R_alloc | apply Kd.R_drewN | apply Kd.R_drew)); exact HX1.out) HK3.out).mono ?_); rintro e w10 ⟨rfl, _, _, hb, hkp⟩; have HG := Aside0.mk (Kd.R_step HG.out (fun k hk hlt => hkp.2 k hlt (fun h => by rcases h with h | h <;> omega))); have HA := Aside0.mk hb; clear hb hkp hz0 hz1 HX0 HX1)
    have HHE := Aside0.mk (fun (W : World) (hC : Kd.C k100 W A5 ss.length (mkA 1 ss.length)) => show Calls Try.prog 41 #[.slice A5 ss.length c5, .int .i64 1] W (fun e w' => e = .returned (.int .i64 qq) ∧ Below W.heap.size W w') from by
      have h := laws_heldIntA2S.calls A5 c5 ss.length 1 W hC HSL.out (by omega)
      rw [HQQ.out] at h
      exact h)
    go_upto_region 17 with (go_at_call 39; (refine (laws_eqIntA2S.calls _ _ _ _ ss _ (Kd.C_below (Kd.R_reads' HG.out).2.2 (by repeat (first | exact Below.refl _ _ | apply below_alloc | apply pw_below_drewN | apply below_drew1))) (Kd.C_below HW0.out (by repeat (first | exact HA.out | exact Below.refl _ _ | apply below_alloc | apply pw_below_drewN | apply below_drew1))) HSL.out).mono ?_); rintro e w11 ⟨rfl, hb⟩; have HA := Aside0.mk (below_chain (w := wa) (by repeat (first | exact HA.out | exact Below.refl _ _ | apply below_alloc | apply pw_below_drewN | apply below_drew1)) hb); have HG := Aside0.mk (Kd.R_below HG.out hb); clear hb)
    go_upto_region 18 with (go_at_call 40; (refine (laws_markIntA2S.calls _ _ ss 1 wa.heap.size (fun k => gx < k) _ (by (with_reducible repeat (first | apply Kd.R_alloc | apply Kd.R_drewN | apply Kd.R_drew)); exact HG.out) HSL.out (by omega)).mono ?_); rintro e w12 ⟨rfl, hS, hg⟩; rw [HQQ.out]; have HA := Aside0.mk (below_of_grown (by repeat (first | exact HA.out | exact Below.refl _ _ | apply below_alloc | apply pw_below_drewN | apply below_drew1)) hg (fun b hb => Kd.R_base HG.out b hb)); have HG := Aside0.mk (show Kd.R k100 109 w12 wa.heap.size (fun k => gx < k) (.slice A5 ss.length c5) (mkA 1 ss.length) from hS); clear hS hg)
    go_upto_region 20 with (go_at_call 41; (refine (HHE.out _ (Kd.C_below (by have h := (Kd.R_reads' HG.out).2.2; rw [HML.out] at h; exact h) (by repeat (first | exact Below.refl _ _ | apply below_alloc | apply pw_below_drewN | apply below_drew1)))).mono ?_); rintro e w13 ⟨rfl, hb⟩; have HA := Aside0.mk (below_chain (w := wa) (by repeat (first | exact HA.out | exact Below.refl _ _ | apply below_alloc | apply pw_below_drewN | apply below_drew1)) hb); have HG := Aside0.mk (Kd.R_below HG.out hb); clear hb)
    have hb0 := (HA.out.cell (World.block_lt_of_cell? wa _ HB0a.out)).trans HB0a.out
    have hb1 := (HA.out.cell (World.block_lt_of_cell? wa _ HB1a.out)).trans HB1a.out
    go_upto_region 25 with (first | (go_at_call 11; (refine (laws_toRecord.calls k1 _ _ l0_0 _ _ l0_1 cs rs _ (Kd.C_below HR0.out (below_chain HBwa.out (by repeat (first | exact HA.out | exact Below.refl _ _ | apply below_alloc | apply pw_below_drewN | apply below_drew1)))) HC0.out (Kd.C_below HR1.out (below_chain HBwa.out (by repeat (first | exact HA.out | exact Below.refl _ _ | apply below_alloc | apply pw_below_drewN | apply below_drew1)))) HC1.out HK1.out).mono ?_); rintro e w14 ⟨y0, y1, rfl, hR0, hR1, hb⟩; obtain ⟨yA, yc, rfl, hd0, hC0⟩ := Kd.R_reads hR0; obtain ⟨yB, yd, rfl, hd1, hC1⟩ := Kd.R_reads hR1; have HX0 := Aside0.mk hC0; have HX1 := Aside0.mk hC1; have HD0 := Aside0.mk hd0; have HD1 := Aside0.mk hd1; have HA := Aside0.mk (below_chain (w := wa) (by repeat (first | exact HA.out | exact Below.refl _ _ | apply below_alloc | apply pw_below_drewN | apply below_drew1)) hb); have hb0 := pw_cell_below hb hb0; have hb1 := pw_cell_below hb hb1; have HG := Aside0.mk (Kd.R_below HG.out hb); clear hR0 hR1 hC0 hC1 hd0 hd1; clear hb) | (go_at_call 38; (refine (impl_UnrelatedPairs.calls _ _ cs _ _ rs ss bb _ (Kd.C_below HX0.out (by repeat (first | exact Below.refl _ _ | apply below_alloc | apply pw_below_drewN | apply below_drew1))) HD0.out (Kd.C_below HX1.out (by repeat (first | exact Below.refl _ _ | apply below_alloc | apply pw_below_drewN | apply below_drew1))) HD1.out HIM.out).mono ?_); rintro e w15 ⟨v6, rfl, hS, hb⟩; obtain ⟨A6, c6, rfl, hc6, hC6⟩ := Kd.R_reads hS; have HC6 := Aside0.mk hc6; have HG6 := Aside0.mk hS; have HA := Aside0.mk (below_chain (w := wa) (by repeat (first | exact HA.out | exact Below.refl _ _ | apply below_alloc | apply pw_below_drewN | apply below_drew1)) hb); have HG := Aside0.mk (Kd.R_below HG.out hb); clear hS hc6 hC6; clear hb))
    clear hb0 hb1
    go_upto_region 27 with (go_at_call 39; (refine (laws_eqIntA2S.calls _ _ _ _ ss _ (Kd.C_below (Kd.R_reads' HG6.out).2.2 (by repeat (first | exact Below.refl _ _ | apply below_alloc | apply pw_below_drewN | apply below_drew1))) (Kd.C_below HW0.out (by repeat (first | exact HA.out | exact Below.refl _ _ | apply below_alloc | apply pw_below_drewN | apply below_drew1))) HSL.out).mono ?_); rintro e w16 ⟨rfl, hb⟩; have HA := Aside0.mk (below_chain (w := wa) (by repeat (first | exact HA.out | exact Below.refl _ _ | apply below_alloc | apply pw_below_drewN | apply below_drew1)) hb); have HG := Aside0.mk (Kd.R_below HG.out hb); clear hb)
    go_wp2_with (go_at_call 41; (refine (HHE.out _ (Kd.C_below (by have h := (Kd.R_reads' HG.out).2.2; rw [HML.out] at h; exact h) (by repeat (first | exact Below.refl _ _ | apply below_alloc | apply pw_below_drewN | apply below_drew1)))).mono ?_); rintro e w17 ⟨rfl, hb⟩; have HA := Aside0.mk (below_chain (w := wa) (by repeat (first | exact HA.out | exact Below.refl _ _ | apply below_alloc | apply pw_below_drewN | apply below_drew1)) hb); clear hb)
    go_ret
    exact ⟨rfl, below_chain HBwa.out HA.out⟩

end Go.Proofs.Ytlbkoejpjpcgaaa.Q

-- Written by a program of this session (wip/xprint.py over the kit's printer).
import Derived.Test.YtdmbboijcaelcaaDoorQ0
import Derived.Test.YtdmbboijcaelcaaDoorQB0
import Derived.Test.YtdmbboijcaelcaaDoorQB1
import Derived.Test.YtdmbboijcaelcaaDoorQF46
import Derived.Test.YtdmbboijcaelcaaDoorQF47
import Derived.Test.YtdmbboijcaelcaaDoorQF48
import Derived.Test.YtdmbboijcaelcaaDoorQF49
import Derived.Test.YtdmbboijcaelcaaDoorQF50
import Derived.Test.YtdmbboijcaelcaaDoorQLBBaseB
import Derived.Test.YtdmbboijcaelcaaDoorQLBBaseMark
import Derived.Test.YtdmbboijcaelcaaDoorQM0
import Derived.Test.YtdmbboijcaelcaaDoorQP
import Derived.Test.YtdmbboijcaelcaaDoorFmt
namespace Go.Proofs.YtdmbboijcaelcaaDoor.Q
open Go.RowKit Go.Proofs.YtdmbboijcaelcaaDoorW.PrintWords Go.Proofs.YtdmbboijcaelcaaDoorW.PrintLast
set_option linter.unusedVariables false
set_option linter.unusedSimpArgs false

/-! ### laws_FnExactSplitByDepth: function 13 -/
instance laws_FnExactSplitByDepth.dec : DecidableEq S105 := fun a b =>
  if h : a.f0 = b.f0 ∧ a.f1 = b.f1 then isTrue (by cases a; cases b; simp only at h; rw [h.1, h.2]) else isFalse (fun e => h (by rw [e]; exact ⟨rfl, rfl⟩))
def laws_FnExactSplitByDepth.f (k : Nat) (l0_0 : List S119) (l0_1 : List S121) : Option Bool :=
  if 1048576 < l0_0.length ∨ 1048576 < l0_1.length then some true else
  match impl_SplitByDepth.f (l0_0.map LB.cvC) (l0_1.map LB.cvR) with
  | none => none
  | some A => if spec_SplitByDepth.f k (l0_0.map LB.cvC) (l0_1.map LB.cvR) = some A ∧ A.1.length ≤ 1000 ∧ (∀ r ∈ A.1, r.f1.length ≤ 1000) then some true else none
def laws_FnExactSplitByDepth.T10 : Bool × List (List Nat × List Nat) := (true, [([], []), ([], []), ([1], [1]), ([0, 2, 2], [0, 2]), ([3], [3])])
def laws_FnExactSplitByDepth.B10 : List Nat := [0, 0, 2, 7, 15]
theorem laws_FnExactSplitByDepth.tab10 : rtab .any (opsOf Tryd.f13 10) = laws_FnExactSplitByDepth.T10 := by kernel_rfl
theorem laws_FnExactSplitByDepth.bits10 : waitsOk laws_FnExactSplitByDepth.T10.2 laws_FnExactSplitByDepth.B10 = true := by kernel_rfl
set_option maxHeartbeats 16000000 in
set_option maxRecDepth 100000 in
theorem laws_FnExactSplitByDepth.calls (k : Nat) (A0_0 : Option Addr) (c0_0 : Nat) (l0_0 : List S119) (A0_1 : Option Addr) (c0_1 : Nat) (l0_1 : List S121) (r : Bool) (w : World) (hr0_0 : Kd.C k119 w A0_0 l0_0.length l0_0) (hc0_0 : l0_0.length ≤ c0_0) (hr0_1 : Kd.C k121 w A0_1 l0_1.length l0_1) (hc0_1 : l0_1.length ≤ c0_1) (hlw : LW w) (h : laws_FnExactSplitByDepth.f k l0_0 l0_1 = some r) :
    Calls Tryd.prog 13 #[.agg #[.slice A0_0 l0_0.length c0_0, .slice A0_1 l0_1.length c0_1]] w fun e w' => e = .returned (.bool r) ∧ Below w.heap.size w w' := by
  obtain ⟨t, ht, hc⟩ := LB.szRecord_eq l0_0 l0_1 hr0_0.2.1 hr0_1.2.1
  have HT := Aside0.mk ht
  clear ht
  have HLW := Aside0.mk hlw
  clear hlw
  have H := h
  unfold laws_FnExactSplitByDepth.f at H
  clear h
  have HR0 := Aside0.mk hr0_0
  have HR1 := Aside0.mk hr0_1
  have HC0 := Aside0.mk hc0_0
  have HC1 := Aside0.mk hc0_1
  clear hr0_0 hr0_1 hc0_0 hc0_1
  obtain ⟨wb, hwb⟩ : ∃ wb, (w).alloc (.cells #[.slice A0_0 l0_0.length c0_0, .slice A0_1 l0_1.length c0_1] 46 (0, 0)) = wb := ⟨_, rfl⟩
  have HBw := Aside0.mk (show Below w.heap.size w wb from by rw [← hwb]; repeat (first | exact Below.refl _ _ | apply below_alloc))
  have HWB := HBw
  have hhr : wb.heap[w.heap.size]? = some (.cells #[.slice A0_0 l0_0.length c0_0, .slice A0_1 l0_1.length c0_1] 46 (0, 0)) := by rw [← hwb]; have h := blk_new (w) (.cells #[.slice A0_0 l0_0.length c0_0, .slice A0_1 l0_1.length c0_1] 46 (0, 0)); rw [show (w).heap.size = w.heap.size from by rfl] at h; exact h
  have hb0 : wb.cell? ⟨w.heap.size, 0, none⟩ = some (.slice A0_0 l0_0.length c0_0) := (blk_cell hhr 0).trans rfl
  have hb1 : wb.cell? ⟨w.heap.size, 1, none⟩ = some (.slice A0_1 l0_1.length c0_1) := (blk_cell hhr 1).trans rfl
  have hbs : w.heap.size < wb.heap.size := blk_lt hhr
  have HW := Aside0.mk hwb
  clear hwb hhr
  rcases hc with hc | ⟨ht0, _, hl0, hl1⟩
  · obtain rfl : r = true := by
      split at H
      · exact (Option.some.inj H).symm
      · split at H
        · cases H
        · split at H
          · exact (Option.some.inj H).symm
          · cases H
    clear H
    go_enter Tryd.func13, Tryd.ntmps13
    go_upto_region 1 with (fail)
    try rw [HW.out]
    clear HW
    go_wp2_with (go_at_call 35; (with_reducible refine (laws_szRecord.calls _ _ l0_0 _ _ l0_1 _ t _ (Kd.C_below HR0.out (by repeat (first | exact HBw.out | exact Below.refl _ _ | apply below_alloc | apply pw_below_drewN | apply below_drew1))) HC0.out (Kd.C_below HR1.out (by repeat (first | exact HBw.out | exact Below.refl _ _ | apply below_alloc | apply pw_below_drewN | apply below_drew1))) HC1.out HT.out).mono ?_); rintro e w1 ⟨rfl, hb⟩; have HBw : Aside0 (Below w.heap.size w w1) := Aside0.mk (below_chain (w := w) (by repeat (first | exact HBw.out | exact Below.refl _ _ | apply below_alloc | apply pw_below_drewN | apply below_drew1)) hb); have hb0 := pw_cell_below hb hb0; clear hb)
    go_ret
    exact ⟨rfl, (by repeat (first | exact HBw.out | exact Below.refl _ _ | apply below_alloc | apply pw_below_drewN | apply below_drew1))⟩
  · have hc : ¬ t < 0 := by omega
    rw [if_neg (by omega)] at H
    obtain ⟨cs, hcs⟩ : ∃ cs, l0_0.map LB.cvC = cs := ⟨_, rfl⟩
    obtain ⟨rs, hrs⟩ : ∃ rs, l0_1.map LB.cvR = rs := ⟨_, rfl⟩
    obtain ⟨k1, hk1⟩ := Ev.rounds (LB.toRecord_ev l0_0 l0_1 hl0 hl1)
    have hcl : cs.length ≤ 1048576 := by rw [← hcs, List.length_map]; exact hl0
    have hrl : rs.length ≤ 1048576 := by rw [← hrs, List.length_map]; exact hl1
    rw [hcs, hrs] at H hk1
    obtain ⟨o, ho⟩ : ∃ o, impl_SplitByDepth.f cs rs = o := ⟨_, rfl⟩
    rw [ho] at H
    cases o with
    | none => cases H
    | some A =>
    obtain ⟨ss, bb⟩ := A
    have H2 : spec_SplitByDepth.f k cs rs = some (ss, bb) ∧ ss.length ≤ 1000 ∧ (∀ r ∈ ss, r.f1.length ≤ 1000) := by
      by_cases hx : spec_SplitByDepth.f k cs rs = some (ss, bb) ∧ ss.length ≤ 1000 ∧ (∀ r ∈ ss, r.f1.length ≤ 1000)
      · exact hx
      · simp only [if_neg hx] at H
        cases H
    obtain ⟨hsp, hsl, hsr⟩ := H2
    obtain rfl : r = true := by
      simp only [if_pos (show spec_SplitByDepth.f k cs rs = some (ss, bb) ∧ ss.length ≤ 1000 ∧ (∀ r ∈ ss, r.f1.length ≤ 1000) from ⟨hsp, hsl, hsr⟩)] at H
      exact (Option.some.inj H).symm
    obtain ⟨k2, hk2⟩ := Ev.rounds (LB.eqRecord_ev cs rs hcl hrl)
    obtain ⟨mm, mx_, my_, hmm, _, hmk⟩ := LB.markRecord_ev cs rs 1 hcl hrl (by omega) (by omega)
    obtain ⟨k3, hk3⟩ := Ev.rounds hmk
    obtain ⟨k4, hk4⟩ := Ev.rounds (LB.eqPhaseS_ev ss (by omega) (fun r hr => by have := hsr r hr; omega))
    obtain ⟨k5, hk5⟩ := Ev.rounds (LB.heldPhaseS_ev ss hsl hsr)
    have HSP := Aside0.mk hsp
    have HIM := Aside0.mk ho
    have HK1 := Aside0.mk hk1
    have HK2 := Aside0.mk hk2
    have HK3 := Aside0.mk hk3
    have HK4 := Aside0.mk hk4
    have HK5 := Aside0.mk hk5
    have HSL := Aside0.mk hsl
    have HSR := Aside0.mk hsr
    have hm0 : ¬ mm < 0 := by omega
    obtain ⟨qq, hqq⟩ : ∃ q, 1 + (LB.totPH ss : Int) = q := ⟨_, rfl⟩
    have HQQ := Aside0.mk hqq
    have hq0 : ¬ qq < 0 := by omega
    rw [hqq] at hk5 HK5
    have HML := Aside0.mk (LB.mkPH_len 0 ss)
    have hne : (bb != bb) = false := bne_self_eq_false bb
    have hqe : (qq != qq) = false := bne_self_eq_false qq
    clear H hcs hrs hcl hrl hsp ho hk1 hk2 hk3 hk4 hk5 hmk hmm hsl hsr hqq hl0 hl1 ht0
    go_enter Tryd.func13, Tryd.ntmps13
    go_upto_region 1 with (fail)
    try rw [HW.out]
    clear HW
    go_upto_region 5 with (go_at_call 35; (with_reducible refine (laws_szRecord.calls _ _ l0_0 _ _ l0_1 _ t _ (Kd.C_below HR0.out (by repeat (first | exact HBw.out | exact Below.refl _ _ | apply below_alloc | apply pw_below_drewN | apply below_drew1))) HC0.out (Kd.C_below HR1.out (by repeat (first | exact HBw.out | exact Below.refl _ _ | apply below_alloc | apply pw_below_drewN | apply below_drew1))) HC1.out HT.out).mono ?_); rintro e w1 ⟨rfl, hb⟩; have HBw : Aside0 (Below w.heap.size w w1) := Aside0.mk (below_chain (w := w) (by repeat (first | exact HBw.out | exact Below.refl _ _ | apply below_alloc | apply pw_below_drewN | apply below_drew1)) hb); have hb0 := pw_cell_below hb hb0; have hb1 := pw_cell_below hb hb1; clear hb)
    clear hc
    go_upto_region 6 with (first | (go_at_call 37; (refine (laws_toRecord.calls k1 _ _ l0_0 _ _ l0_1 cs rs _ (Kd.C_below HR0.out (by repeat (first | exact HBw.out | exact Below.refl _ _ | apply below_alloc | apply pw_below_drewN | apply below_drew1))) HC0.out (Kd.C_below HR1.out (by repeat (first | exact HBw.out | exact Below.refl _ _ | apply below_alloc | apply pw_below_drewN | apply below_drew1))) HC1.out HK1.out).mono ?_); rintro e w2 ⟨v0, v1, rfl, hR0, hR1, hb⟩; obtain ⟨vA, vc, rfl, hd0, hC0⟩ := Kd.R_reads hR0; obtain ⟨vB, vd, rfl, hd1, hC1⟩ := Kd.R_reads hR1; have HX0 := Aside0.mk hC0; have HX1 := Aside0.mk hC1; have HD0 := Aside0.mk hd0; have HD1 := Aside0.mk hd1; have HBw : Aside0 (Below w.heap.size w w2) := Aside0.mk (below_chain (w := w) (by repeat (first | exact HBw.out | exact Below.refl _ _ | apply below_alloc | apply pw_below_drewN | apply below_drew1)) hb); have hb0 := pw_cell_below hb hb0; have hb1 := pw_cell_below hb hb1; clear hR0 hR1 hC0 hC1 hd0 hd1 hb) | (go_at_call 46; (refine (spec_SplitByDepth.calls k _ _ cs _ _ rs ss bb _ HX0.out HD0.out HX1.out HD1.out HSP.out).mono ?_); rintro e w3 ⟨v2, rfl, hS, hb⟩; obtain ⟨A2, c2, rfl⟩ := Kd.N_slice hS; obtain ⟨_, hc2, hC2⟩ := Kd.N_reads' hS; have HW0 := Aside0.mk hC2; have HC2 := Aside0.mk hc2; have HBw : Aside0 (Below w.heap.size w w3) := Aside0.mk (below_chain (w := w) (by repeat (first | exact HBw.out | exact Below.refl _ _ | apply below_alloc | apply pw_below_drewN | apply below_drew1)) hb); have hb0 := pw_cell_below hb hb0; have hb1 := pw_cell_below hb hb1; clear hS hc2 hC2 hb))
    clear HX0 HX1 HD0 HD1
    obtain ⟨wa, rfl⟩ : ∃ x, x = w3 := ⟨_, rfl⟩
    have HA := Aside0.mk (Below.refl wa.heap.size wa)
    have HBwa := HBw
    clear HBw
    have HB0a := Aside0.mk hb0
    have HB1a := Aside0.mk hb1
    go_upto_region 7 with (go_at_call 37; (refine (laws_toRecord.calls k1 _ _ l0_0 _ _ l0_1 cs rs _ (Kd.C_below HR0.out (below_chain HBwa.out (by repeat (first | exact HA.out | exact Below.refl _ _ | apply below_alloc | apply pw_below_drewN | apply below_drew1)))) HC0.out (Kd.C_below HR1.out (below_chain HBwa.out (by repeat (first | exact HA.out | exact Below.refl _ _ | apply below_alloc | apply pw_below_drewN | apply below_drew1)))) HC1.out HK1.out).mono ?_); rintro e w4 ⟨u0, u1, rfl, hR0, hR1, hb⟩; obtain ⟨uA, uc, rfl, hd0, hC0⟩ := Kd.R_reads hR0; obtain ⟨uB, ud, rfl, hd1, hC1⟩ := Kd.R_reads hR1; have HX0 := Aside0.mk (Kd.R_lower hR0 HA.out.size); have HX1 := Aside0.mk (Kd.R_lower hR1 HA.out.size); have HD0 := Aside0.mk hd0; have HD1 := Aside0.mk hd1; have HA := Aside0.mk (below_chain (w := wa) (by repeat (first | exact HA.out | exact Below.refl _ _ | apply below_alloc | apply pw_below_drewN | apply below_drew1)) hb); have hb0 := pw_cell_below hb hb0; have hb1 := pw_cell_below hb hb1; clear hR0 hR1 hC0 hC1 hd0 hd1; clear hb)
    have hal := below_alloc (Below.refl w4.heap.size w4) (.cells #[.slice uA cs.length uc, .slice uB rs.length ud] 52 (0, 0))
    have BK := Aside0.mk (blk_new w4 (.cells #[.slice uA cs.length uc, .slice uB rs.length ud] 52 (0, 0)))
    have HX0 := Aside0.mk (Kd.R_mono (ok' := fun k => k < w4.heap.size) (Kd.R_below (Kd.R_bound HX0.out) hal) (fun k hk => hk.2.2.1))
    have HX1 := Aside0.mk (Kd.R_mono (ok' := fun k => k < w4.heap.size) (Kd.R_below (Kd.R_bound HX1.out) hal) (fun k hk => hk.2.2.1))
    have HA := Aside0.mk (below_chain (w := wa) HA.out hal)
    have hb0 := pw_cell_below hal hb0
    have hb1 := pw_cell_below hal hb1
    have HSZ := Aside0.mk (show (w4.alloc (.cells #[.slice uA cs.length uc, .slice uB rs.length ud] 52 (0, 0))).heap.size = w4.heap.size + 1 from by simp)
    obtain ⟨gx, hgx⟩ : ∃ g, w4.heap.size = g := ⟨_, rfl⟩
    generalize w4.alloc (.cells #[.slice uA cs.length uc, .slice uB rs.length ud] 52 (0, 0)) = wq at hal BK HX0 HX1 HA hb0 hb1 HSZ ⊢
    rw [hgx] at BK HX0 HX1 HSZ
    try rw [hgx]
    clear hal hgx
    have hz0 : wq.cell? ⟨gx, 0, none⟩ = some (.slice uA cs.length uc) := (blk_cell BK.out 0).trans rfl
    have hz1 : wq.cell? ⟨gx, 1, none⟩ = some (.slice uB rs.length ud) := (blk_cell BK.out 1).trans rfl
    clear BK
    go_upto_region 8 with (go_at_call 47; (refine (impl_SplitByDepth.calls _ _ cs _ _ rs ss bb _ (Kd.C_below (Kd.R_reads' HX0.out).2.2 (by repeat (first | exact Below.refl _ _ | apply below_alloc | apply pw_below_drewN | apply below_drew1))) HD0.out (Kd.C_below (Kd.R_reads' HX1.out).2.2 (by repeat (first | exact Below.refl _ _ | apply below_alloc | apply pw_below_drewN | apply below_drew1))) HD1.out (LW.below HLW.out (below_chain HBwa.out (by repeat (first | exact HA.out | exact Below.refl _ _ | apply below_alloc | apply pw_below_drewN | apply below_drew1)))) HIM.out).mono ?_); rintro e w5 ⟨v5, rfl, hS, hb⟩; obtain ⟨A5, c5, rfl, hc5, hC5⟩ := Kd.S_reads hS; have HC5 := Aside0.mk hc5; have HG := Aside0.mk (Kd.S_mono (ok' := fun k => gx < k) (Kd.S_bound (Kd.S_lower hS (Nat.le_refl wq.heap.size))) (fun k hk => by have h1 := hk.2.1; have h2 := HSZ.out; omega)); have HG := Aside0.mk (Kd.S_lower HG.out HA.out.size); have HA := Aside0.mk (below_chain (w := wa) (by repeat (first | exact HA.out | exact Below.refl _ _ | apply below_alloc | apply pw_below_drewN | apply below_drew1)) hb); have hb0 := pw_cell_below hb hb0; have hb1 := pw_cell_below hb hb1; have hz0 := pw_cell_below hb hz0; have hz1 := pw_cell_below hb hz1; have HX0 := Aside0.mk (Kd.R_below HX0.out hb); have HX1 := Aside0.mk (Kd.R_below HX1.out hb); clear hS hc5 hC5; clear hb)
    clear HSZ
    go_upto_region 10 with (go_at_call 48; (refine (laws_eqPhaseS.calls k4 _ _ ss _ _ ss true _ (Kd.C_below (Kd.S_reads' HG.out).2.2 (by repeat (first | exact Below.refl _ _ | apply below_alloc | apply pw_below_drewN | apply below_drew1))) HC5.out (Kd.C_below HW0.out (by repeat (first | exact HA.out | exact Below.refl _ _ | apply below_alloc | apply pw_below_drewN | apply below_drew1))) HC2.out HK4.out).mono ?_); rintro e w6 ⟨rfl, hb⟩; have HA := Aside0.mk (below_chain (w := wa) (by repeat (first | exact HA.out | exact Below.refl _ _ | apply below_alloc | apply pw_below_drewN | apply below_drew1)) hb); have hb0 := pw_cell_below hb hb0; have hb1 := pw_cell_below hb hb1; have hz0 := pw_cell_below hb hz0; have hz1 := pw_cell_below hb hz1; have HX0 := Aside0.mk (Kd.R_below HX0.out hb); have HX1 := Aside0.mk (Kd.R_below HX1.out hb); have HG := Aside0.mk (Kd.S_below HG.out hb); clear hb)
    have HS0 := Aside0.mk (show (fun w' => w'.cell? ⟨w.heap.size, 0, none⟩ = some (.slice A0_0 l0_0.length c0_0) ∧ w'.cell? ⟨w.heap.size, 1, none⟩ = some (.slice A0_1 l0_1.length c0_1) ∧ w'.cell? ⟨gx, 0, none⟩ = some (.slice uA cs.length uc) ∧ w'.cell? ⟨gx, 1, none⟩ = some (.slice uB rs.length ud) ∧ Aside0 (Below wa.heap.size wa w') ∧ Aside0 (Kd.R k94 94 w' wa.heap.size (fun k => k < gx) (.slice uA cs.length uc) cs) ∧ Aside0 (Kd.R k96 96 w' wa.heap.size (fun k => k < gx) (.slice uB rs.length ud) rs) ∧ Aside0 (Kd.S k105 105 w' wa.heap.size (fun k => gx < k) (.slice A5 ss.length c5) ss)) w6.drew from ⟨hb0, hb1, hz0, hz1, ⟨below_drew1 HA.out⟩, ⟨Kd.R_drew HX0.out⟩, ⟨Kd.R_drew HX1.out⟩, ⟨Kd.S_drew HG.out⟩⟩)
    clear hb0 hb1 hz0 hz1 HA HX0 HX1 HG
    all_goals refine start_ (n := 5) (S := (fun w' => w'.cell? ⟨w.heap.size, 0, none⟩ = some (.slice A0_0 l0_0.length c0_0) ∧ w'.cell? ⟨w.heap.size, 1, none⟩ = some (.slice A0_1 l0_1.length c0_1) ∧ w'.cell? ⟨gx, 0, none⟩ = some (.slice uA cs.length uc) ∧ w'.cell? ⟨gx, 1, none⟩ = some (.slice uB rs.length ud) ∧ Aside0 (Below wa.heap.size wa w') ∧ Aside0 (Kd.R k94 94 w' wa.heap.size (fun k => k < gx) (.slice uA cs.length uc) cs) ∧ Aside0 (Kd.R k96 96 w' wa.heap.size (fun k => k < gx) (.slice uB rs.length ud) rs) ∧ Aside0 (Kd.S k105 105 w' wa.heap.size (fun k => gx < k) (.slice A5 ss.length c5) ss))) (ds := []) (bl 0 5) (by kernel_rfl) rfl rfl HS0.out (fun hHeld => ?_); refine with_tabW laws_FnExactSplitByDepth.tab10 laws_FnExactSplitByDepth.bits10 (fun HT_ HW_ => ?_)
    all_goals generalize w6.drew = wv at hHeld ⊢
    all_goals first | refine tA_ 0 (some 41) (bl 1 5) HT_.out HW_.out hHeld (h := ?_) | refine pO_ 0 (some 41) (bl 1 5) HT_.out (h := ?_)
    all_goals first | refine tA_ 1 (some 42) (bl 2 5) HT_.out HW_.out hHeld (h := ?_) | refine pO_ 1 (some 42) (bl 2 5) HT_.out (h := ?_)
    all_goals first | refine pO_ 2 (some 43) (bl 3 5) HT_.out (h := ?_) | (refine one_ (i := 2) (N := some 43) (bl 3 5) rfl rfl (one_of HT_.out (by kernel_rfl)) (by decide) (fun K hK => ?_); refine goes_ Tryd.func37 (by kernel_rfl) rfl #[.agg #[.slice A0_0 l0_0.length c0_0, .slice A0_1 l0_1.length c0_1]] (by rfl) rfl rfl (by (try simp only [List.map_toArray, List.map_cons, List.map_nil]); first | done | rfl) ?_; with_reducible refine (laws_toRecord.calls k1 _ _ l0_0 _ _ l0_1 cs rs _ (Kd.C_below HR0.out (below_chain HBwa.out hHeld.2.2.2.2.1.out)) HC0.out (Kd.C_below HR1.out (below_chain HBwa.out hHeld.2.2.2.2.1.out)) HC1.out HK1.out).mono ?_; rintro e w7 ⟨x0, x1, rfl, hR0, hR1, hb⟩; obtain ⟨xA, xc, rfl, hd0, hC0⟩ := Kd.R_reads hR0; obtain ⟨xB, xd, rfl, hd1, hC1⟩ := Kd.R_reads hR1; have HY0 := Aside0.mk hC0; have HY1 := Aside0.mk hC1; have HE0 := Aside0.mk hd0; have HE1 := Aside0.mk hd1; clear hR0 hR1 hC0 hC1 hd0 hd1; refine ⟨_, rfl, ?_⟩; refine hK.out _ _ ⟨pw_cell_below hb hHeld.1, pw_cell_below hb hHeld.2.1, pw_cell_below hb hHeld.2.2.1, pw_cell_below hb hHeld.2.2.2.1, ⟨below_chain hHeld.2.2.2.2.1.out hb⟩, ⟨Kd.R_below hHeld.2.2.2.2.2.1.out hb⟩, ⟨Kd.R_below hHeld.2.2.2.2.2.2.1.out hb⟩, ⟨Kd.S_below hHeld.2.2.2.2.2.2.2.out hb⟩⟩ (fun hHeld => ?_); clear hK K; refine norm_ (a' := ?_) ?_ ?_; rotate_left; (show Act.put _ (some 43) _ = _; simp only [Act.put, List.setIfInBounds_toArray, List.set_cons_zero, List.set_cons_succ, i64_w, i32_w]; rfl))
    all_goals first | refine pO_ 3 (some 44) (bl 4 5) HT_.out (h := ?_) | (refine one_ (i := 3) (N := some 44) (bl 4 5) rfl rfl (one_of HT_.out (by kernel_rfl)) (by decide) (fun K hK => ?_); refine goes_ Tryd.func39 (by kernel_rfl) rfl #[.agg #[.slice uA cs.length uc, .slice uB rs.length ud], .agg #[.slice xA cs.length xc, .slice xB rs.length xd]] (by rfl) rfl rfl (by (try simp only [List.map_toArray, List.map_cons, List.map_nil]); first | done | rfl) ?_; with_reducible refine (laws_eqRecord.calls k2 _ _ cs _ _ rs _ _ cs _ _ rs true _ (Kd.R_reads' hHeld.2.2.2.2.2.1.out).2.2 HD0.out (Kd.R_reads' hHeld.2.2.2.2.2.2.1.out).2.2 HD1.out HY0.out HE0.out HY1.out HE1.out HK2.out).mono ?_; rintro e w8 ⟨rfl, hb⟩; refine ⟨_, rfl, ?_⟩; refine hK.out _ _ ⟨pw_cell_below hb hHeld.1, pw_cell_below hb hHeld.2.1, pw_cell_below hb hHeld.2.2.1, pw_cell_below hb hHeld.2.2.2.1, ⟨below_chain hHeld.2.2.2.2.1.out hb⟩, ⟨Kd.R_below hHeld.2.2.2.2.2.1.out hb⟩, ⟨Kd.R_below hHeld.2.2.2.2.2.2.1.out hb⟩, ⟨Kd.S_below hHeld.2.2.2.2.2.2.2.out hb⟩⟩ (fun hHeld => ?_); clear hK K; refine norm_ (a' := ?_) ?_ ?_; rotate_left; (show Act.put _ (some 44) _ = _; simp only [Act.put, List.setIfInBounds_toArray, List.set_cons_zero, List.set_cons_succ, i64_w, i32_w]; rfl))
    all_goals first | refine pA_ 4 (some 45) (bl 5 5) HT_.out (h := ?_) | refine pO_ 4 (some 45) (bl 5 5) HT_.out (h := ?_)
    all_goals refine done_ (done_of HT_.out (by kernel_rfl)) ?_
    obtain ⟨hb0, hb1, hz0, hz1, HA, HX0, HX1, HG⟩ := hHeld
    obtain ⟨w9, hw9⟩ : ∃ x, w8 = x := ⟨_, rfl⟩
    rw [hw9] at hb0 hb1 hz0 hz1 HA HX0 HX1 HG ⊢
    clear hw9 HS0 HY0 HY1 HE0 HE1
    go_upto_region 14 with (go_at_call 42; (refine (laws_markRecord.calls k3 (fun k => k < gx) _ cs (fun k => k < gx) _ rs 1 mm mx_ my_ wa _ (by repeat (first | exact HA.out | exact Below.refl _ _ | apply below_alloc | apply pw_below_drewN | apply below_drew1)) (by (with_reducible repeat (first | apply Kd.R_alloc | apply Kd.R_drewN | apply Kd.R_drew)); exact HX0.out) (by (with_reducible repeat (first | apply Kd.R_alloc | apply Kd.R_drewN | apply Kd.R_drew)); exact HX1.out) HK3.out).mono ?_); rintro e w10 ⟨rfl, _, _, hb, hkp⟩; have HG := Aside0.mk (Kd.S_step HG.out (fun k hk hlt => hkp.2 k hlt (fun h => by rcases h with h | h <;> omega))); have HA := Aside0.mk hb; clear hb hkp hz0 hz1 HX0 HX1)
    have HHE := Aside0.mk (fun (W : World) (hC : Kd.C k105 W A5 ss.length (LB.mkPH 0 ss)) => show Calls Tryd.prog 50 #[.slice A5 ss.length c5, .int .i64 1] W (fun e w' => e = .returned (.int .i64 qq) ∧ Below W.heap.size W w') from by
      have h := laws_heldPhaseS.calls k5 A5 c5 (LB.mkPH 0 ss) 1 qq W (by rw [HML.out]; exact hC) (by rw [HML.out]; exact HC5.out) HK5.out
      rw [HML.out] at h
      exact h)
    go_upto_region 17 with (go_at_call 48; (refine (laws_eqPhaseS.calls k4 _ _ ss _ _ ss true _ (Kd.C_below (Kd.S_reads' HG.out).2.2 (by repeat (first | exact Below.refl _ _ | apply below_alloc | apply pw_below_drewN | apply below_drew1))) HC5.out (Kd.C_below HW0.out (by repeat (first | exact HA.out | exact Below.refl _ _ | apply below_alloc | apply pw_below_drewN | apply below_drew1))) HC2.out HK4.out).mono ?_); rintro e w11 ⟨rfl, hb⟩; have HA := Aside0.mk (below_chain (w := wa) (by repeat (first | exact HA.out | exact Below.refl _ _ | apply below_alloc | apply pw_below_drewN | apply below_drew1)) hb); have HG := Aside0.mk (Kd.S_below HG.out hb); clear hb)
    go_upto_region 18 with (go_at_call 49; (refine (laws_markPhaseS.calls _ _ ss wa _ (by repeat (first | exact HA.out | exact Below.refl _ _ | apply below_alloc | apply pw_below_drewN | apply below_drew1)) (by (with_reducible repeat (first | apply Kd.S_alloc | apply Kd.S_drewN | apply Kd.S_drew)); exact HG.out) HSL.out HSR.out).mono ?_); rintro e w12 ⟨rfl, hS, hb⟩; rw [HQQ.out]; have HG := Aside0.mk hS; have HA := Aside0.mk hb; clear hS hb)
    go_upto_region 20 with (go_at_call 50; (refine (HHE.out _ (Kd.C_below (by have h := (Kd.S_reads' HG.out).2.2; rw [HML.out] at h; exact h) (by repeat (first | exact Below.refl _ _ | apply below_alloc | apply pw_below_drewN | apply below_drew1)))).mono ?_); rintro e w13 ⟨rfl, hb⟩; have HA := Aside0.mk (below_chain (w := wa) (by repeat (first | exact HA.out | exact Below.refl _ _ | apply below_alloc | apply pw_below_drewN | apply below_drew1)) hb); have HG := Aside0.mk (Kd.S_below HG.out hb); clear hb)
    have hb0 := (HA.out.cell (World.block_lt_of_cell? wa _ HB0a.out)).trans HB0a.out
    have hb1 := (HA.out.cell (World.block_lt_of_cell? wa _ HB1a.out)).trans HB1a.out
    go_upto_region 25 with (first | (go_at_call 37; (refine (laws_toRecord.calls k1 _ _ l0_0 _ _ l0_1 cs rs _ (Kd.C_below HR0.out (below_chain HBwa.out (by repeat (first | exact HA.out | exact Below.refl _ _ | apply below_alloc | apply pw_below_drewN | apply below_drew1)))) HC0.out (Kd.C_below HR1.out (below_chain HBwa.out (by repeat (first | exact HA.out | exact Below.refl _ _ | apply below_alloc | apply pw_below_drewN | apply below_drew1)))) HC1.out HK1.out).mono ?_); rintro e w14 ⟨y0, y1, rfl, hR0, hR1, hb⟩; obtain ⟨yA, yc, rfl, hd0, hC0⟩ := Kd.R_reads hR0; obtain ⟨yB, yd, rfl, hd1, hC1⟩ := Kd.R_reads hR1; have HX0 := Aside0.mk hC0; have HX1 := Aside0.mk hC1; have HD0 := Aside0.mk hd0; have HD1 := Aside0.mk hd1; have HA := Aside0.mk (below_chain (w := wa) (by repeat (first | exact HA.out | exact Below.refl _ _ | apply below_alloc | apply pw_below_drewN | apply below_drew1)) hb); have hb0 := pw_cell_below hb hb0; have hb1 := pw_cell_below hb hb1; have HG := Aside0.mk (Kd.S_below HG.out hb); clear hR0 hR1 hC0 hC1 hd0 hd1; clear hb) | (go_at_call 47; (refine (impl_SplitByDepth.calls _ _ cs _ _ rs ss bb _ (Kd.C_below HX0.out (by repeat (first | exact Below.refl _ _ | apply below_alloc | apply pw_below_drewN | apply below_drew1))) HD0.out (Kd.C_below HX1.out (by repeat (first | exact Below.refl _ _ | apply below_alloc | apply pw_below_drewN | apply below_drew1))) HD1.out (LW.below HLW.out (below_chain HBwa.out (by repeat (first | exact HA.out | exact Below.refl _ _ | apply below_alloc | apply pw_below_drewN | apply below_drew1)))) HIM.out).mono ?_); rintro e w15 ⟨v6, rfl, hS, hb⟩; obtain ⟨A6, c6, rfl, hc6, hC6⟩ := Kd.S_reads hS; have HC6 := Aside0.mk hc6; have HG6 := Aside0.mk hS; have HA := Aside0.mk (below_chain (w := wa) (by repeat (first | exact HA.out | exact Below.refl _ _ | apply below_alloc | apply pw_below_drewN | apply below_drew1)) hb); have HG := Aside0.mk (Kd.S_below HG.out hb); clear hS hc6 hC6; clear hb))
    clear hb0 hb1
    go_upto_region 27 with (go_at_call 48; (refine (laws_eqPhaseS.calls k4 _ _ ss _ _ ss true _ (Kd.C_below (Kd.S_reads' HG6.out).2.2 (by repeat (first | exact Below.refl _ _ | apply below_alloc | apply pw_below_drewN | apply below_drew1))) HC6.out (Kd.C_below HW0.out (by repeat (first | exact HA.out | exact Below.refl _ _ | apply below_alloc | apply pw_below_drewN | apply below_drew1))) HC2.out HK4.out).mono ?_); rintro e w16 ⟨rfl, hb⟩; have HA := Aside0.mk (below_chain (w := wa) (by repeat (first | exact HA.out | exact Below.refl _ _ | apply below_alloc | apply pw_below_drewN | apply below_drew1)) hb); have HG := Aside0.mk (Kd.S_below HG.out hb); clear hb)
    go_wp2_with (go_at_call 50; (refine (HHE.out _ (Kd.C_below (by have h := (Kd.S_reads' HG.out).2.2; rw [HML.out] at h; exact h) (by repeat (first | exact Below.refl _ _ | apply below_alloc | apply pw_below_drewN | apply below_drew1)))).mono ?_); rintro e w17 ⟨rfl, hb⟩; have HA := Aside0.mk (below_chain (w := wa) (by repeat (first | exact HA.out | exact Below.refl _ _ | apply below_alloc | apply pw_below_drewN | apply below_drew1)) hb); clear hb)
    go_ret
    exact ⟨rfl, below_chain HBwa.out HA.out⟩

end Go.Proofs.YtdmbboijcaelcaaDoor.Q

-- Written by a program of this session (wip/xprint.py over the kit's printer).
import Derived.Test.YtenphfagdpkjaaaQ0
import Derived.Test.YtenphfagdpkjaaaQB0
import Derived.Test.YtenphfagdpkjaaaQB1
import Derived.Test.YtenphfagdpkjaaaQB2
import Derived.Test.YtenphfagdpkjaaaQF29
import Derived.Test.YtenphfagdpkjaaaQF34
import Derived.Test.YtenphfagdpkjaaaQF35
import Derived.Test.YtenphfagdpkjaaaQLBBaseB
import Derived.Test.YtenphfagdpkjaaaQLBBaseHeldC
import Derived.Test.YtenphfagdpkjaaaQLBBaseHeldR
import Derived.Test.YtenphfagdpkjaaaQLBBaseMark
import Derived.Test.YtenphfagdpkjaaaQLBBaseRec
import Derived.Test.YtenphfagdpkjaaaQM0
import Derived.Test.YtenphfagdpkjaaaQM1
import Derived.Test.YtenphfagdpkjaaaQP
namespace Go.Proofs.Ytenphfagdpkjaaa.Q
open Go.RowKit Go.Proofs.YtenphfagdpkjaaaW.PrintWords Go.Proofs.YtenphfagdpkjaaaW.PrintLast
set_option linter.unusedVariables false
set_option linter.unusedSimpArgs false

/-! ### laws_FnExactPhaseRecord: function 9 -/
instance laws_FnExactPhaseRecord.decC : DecidableEq S77 := fun a b => if h : a.f0 = b.f0 ∧ a.f1 = b.f1 then isTrue (by cases a; cases b; obtain ⟨h1, h2⟩ := h; simp only at h1 h2; rw [h1, h2]) else isFalse (fun e => h (by rw [e]; exact ⟨rfl, rfl⟩))
instance laws_FnExactPhaseRecord.decR : DecidableEq S91 := fun a b => if h : a.f0 = b.f0 ∧ a.f1 = b.f1 then isTrue (by cases a; cases b; obtain ⟨h1, h2⟩ := h; simp only at h1 h2; rw [h1, h2]) else isFalse (fun e => h (by rw [e]; exact ⟨rfl, rfl⟩))
/-- What the size check lets in. -/
def laws_FnExactPhaseRecord.Ok (l0_0 : List S100) (l0_1 : List S102) (ps : List S64) : Prop := l0_0.length ≤ 1048576 ∧ l0_1.length ≤ 1048576 ∧ ps.length ≤ 1048576 ∧ LB.totPH ps ≤ 4194304
instance (l0_0 : List S100) (l0_1 : List S102) (ps : List S64) : Decidable (laws_FnExactPhaseRecord.Ok l0_0 l0_1 ps) := by unfold laws_FnExactPhaseRecord.Ok; infer_instance
def laws_FnExactPhaseRecord.f (k : Nat) (l0_0 : List S100) (l0_1 : List S102) (l1 : List S61) : Option Bool :=
  (laws_szRecord.f l0_0 l0_1 1048576).bind fun t => if t < 0 then some true else
  (laws_szPhaseS.f k l1 t).bind fun u => if u < 0 then some true else
  (laws_toPhaseS.f k l1).bind fun ps =>
  match impl_PhaseRecord.f (l0_0.map LB.cvC) (l0_1.map LB.cvR) ps with
  | none => none
  | some A => (spec_PhaseRecord.f k (l0_0.map LB.cvC) (l0_1.map LB.cvR) ps).bind fun A' => (laws_eqPhaseS.f k ps ps).bind fun q => if q = true ∧ A' = A ∧ laws_FnExactPhaseRecord.Ok l0_0 l0_1 ps ∧ A.1.length ≤ 1000 ∧ A.2.1.length ≤ 1000 then some true else none
def laws_FnExactPhaseRecord.T14 : Bool × List (List Nat × List Nat) := (true, [([], []), ([], []), ([1], [1]), ([0, 2, 2], [0, 2]), ([3], [3])])
def laws_FnExactPhaseRecord.B14 : List Nat := [0, 0, 2, 7, 15]
theorem laws_FnExactPhaseRecord.tab14 : rtab .any (opsOf Try.f9 14) = laws_FnExactPhaseRecord.T14 := by kernel_rfl
theorem laws_FnExactPhaseRecord.bits14 : waitsOk laws_FnExactPhaseRecord.T14.2 laws_FnExactPhaseRecord.B14 = true := by kernel_rfl
set_option maxHeartbeats 16000000 in
set_option maxRecDepth 100000 in
theorem laws_FnExactPhaseRecord.calls (k : Nat) (A0_0 : Option Addr) (c0_0 : Nat) (l0_0 : List S100) (A0_1 : Option Addr) (c0_1 : Nat) (l0_1 : List S102) (A1 : Option Addr) (c1 : Nat) (l1 : List S61) (r : Bool) (w : World) (hr0_0 : Kd.C k100 w A0_0 l0_0.length l0_0) (hc0_0 : l0_0.length ≤ c0_0) (hr0_1 : Kd.C k102 w A0_1 l0_1.length l0_1) (hc0_1 : l0_1.length ≤ c0_1) (hr1 : Kd.C k61 w A1 l1.length l1) (hc1 : l1.length ≤ c1) (h : laws_FnExactPhaseRecord.f k l0_0 l0_1 l1 = some r) :
    Calls Try.prog 9 #[.agg #[.slice A0_0 l0_0.length c0_0, .slice A0_1 l0_1.length c0_1], .slice A1 l1.length c1] w fun e w' => e = .returned (.bool r) ∧ Below w.heap.size w w' := by
  obtain ⟨t, ht, _⟩ := LB.szRecord_eq l0_0 l0_1 hr0_0.2.1 hr0_1.2.1
  have HT := Aside0.mk ht
  have HP1 := Aside0.mk hr1
  have HPC := Aside0.mk hc1
  have H := h
  unfold laws_FnExactPhaseRecord.f at H
  rw [ht, Option.bind_some] at H
  clear h ht hr1 hc1
  have HR0 := Aside0.mk hr0_0
  have HR1 := Aside0.mk hr0_1
  have HC0 := Aside0.mk hc0_0
  have HC1 := Aside0.mk hc0_1
  clear hr0_0 hr0_1 hc0_0 hc0_1
  obtain ⟨wb, hwb⟩ : ∃ wb, (w).alloc (.cells #[.slice A0_0 l0_0.length c0_0, .slice A0_1 l0_1.length c0_1] 25 (0, 0)) = wb := ⟨_, rfl⟩
  have HBw := Aside0.mk (show Below w.heap.size w wb from by rw [← hwb]; repeat (first | exact Below.refl _ _ | apply below_alloc))
  have HWB := HBw
  have hhr : wb.heap[w.heap.size]? = some (.cells #[.slice A0_0 l0_0.length c0_0, .slice A0_1 l0_1.length c0_1] 25 (0, 0)) := by rw [← hwb]; have h := blk_new (w) (.cells #[.slice A0_0 l0_0.length c0_0, .slice A0_1 l0_1.length c0_1] 25 (0, 0)); rw [show (w).heap.size = w.heap.size from by rfl] at h; exact h
  have hb0 : wb.cell? ⟨w.heap.size, 0, none⟩ = some (.slice A0_0 l0_0.length c0_0) := (blk_cell hhr 0).trans rfl
  have hb1 : wb.cell? ⟨w.heap.size, 1, none⟩ = some (.slice A0_1 l0_1.length c0_1) := (blk_cell hhr 1).trans rfl
  have hbs : w.heap.size < wb.heap.size := blk_lt hhr
  have HW := Aside0.mk hwb
  clear hwb hhr
  by_cases hc : t < 0
  · rw [if_pos hc] at H
    obtain rfl : r = true := (Option.some.inj H).symm
    clear H
    go_enter Try.func9, Try.ntmps9
    go_upto_region 1 with (fail)
    try rw [HW.out]
    clear HW
    go_wp2_with (go_at_call 11; (with_reducible refine (laws_szRecord.calls _ _ l0_0 _ _ l0_1 _ t _ (Kd.C_below HR0.out (by repeat (first | exact HBw.out | exact Below.refl _ _ | apply below_alloc | apply pw_below_drewN | apply below_drew1))) HC0.out (Kd.C_below HR1.out (by repeat (first | exact HBw.out | exact Below.refl _ _ | apply below_alloc | apply pw_below_drewN | apply below_drew1))) HC1.out HT.out).mono ?_); rintro e w1 ⟨rfl, hb⟩; have HBw : Aside0 (Below w.heap.size w w1) := Aside0.mk (below_chain (w := w) (by repeat (first | exact HBw.out | exact Below.refl _ _ | apply below_alloc | apply pw_below_drewN | apply below_drew1)) hb); have hb0 := pw_cell_below hb hb0; have hb1 := pw_cell_below hb hb1; clear hb)
    go_ret
    exact ⟨rfl, (by repeat (first | exact HBw.out | exact Below.refl _ _ | apply below_alloc | apply pw_below_drewN | apply below_drew1))⟩
  · rw [if_neg hc] at H
    obtain ⟨ou, hou⟩ : ∃ o, laws_szPhaseS.f k l1 t = o := ⟨_, rfl⟩
    rw [hou] at H
    cases ou with
    | none => cases H
    | some u =>
    have HU := Aside0.mk hou
    rw [Option.bind_some] at H
    clear hou
    by_cases hcu : u < 0
    · rw [if_pos hcu] at H
      obtain rfl : r = true := (Option.some.inj H).symm
      clear H
      go_enter Try.func9, Try.ntmps9
      go_upto_region 1 with (fail)
      try rw [HW.out]
      clear HW
      go_wp2_with (first | (go_at_call 11; (with_reducible refine (laws_szRecord.calls _ _ l0_0 _ _ l0_1 _ t _ (Kd.C_below HR0.out (by repeat (first | exact HBw.out | exact Below.refl _ _ | apply below_alloc | apply pw_below_drewN | apply below_drew1))) HC0.out (Kd.C_below HR1.out (by repeat (first | exact HBw.out | exact Below.refl _ _ | apply below_alloc | apply pw_below_drewN | apply below_drew1))) HC1.out HT.out).mono ?_); rintro e w1 ⟨rfl, hb⟩; have HBw : Aside0 (Below w.heap.size w w1) := Aside0.mk (below_chain (w := w) (by repeat (first | exact HBw.out | exact Below.refl _ _ | apply below_alloc | apply pw_below_drewN | apply below_drew1)) hb); have hb0 := pw_cell_below hb hb0; have hb1 := pw_cell_below hb hb1; clear hb) | (go_at_call 12; (with_reducible refine (laws_szPhaseS.calls k _ _ l1 t u _ (Kd.C_below HP1.out (by repeat (first | exact HBw.out | exact Below.refl _ _ | apply below_alloc | apply pw_below_drewN | apply below_drew1))) HPC.out HU.out).mono ?_); rintro e w1 ⟨rfl, hb⟩; have HBw : Aside0 (Below w.heap.size w w1) := Aside0.mk (below_chain (w := w) (by repeat (first | exact HBw.out | exact Below.refl _ _ | apply below_alloc | apply pw_below_drewN | apply below_drew1)) hb); have hb0 := pw_cell_below hb hb0; have hb1 := pw_cell_below hb hb1; clear hb))
      go_ret
      exact ⟨rfl, (by repeat (first | exact HBw.out | exact Below.refl _ _ | apply below_alloc | apply pw_below_drewN | apply below_drew1))⟩
    · rw [if_neg hcu] at H
      obtain ⟨op, hop⟩ : ∃ o, laws_toPhaseS.f k l1 = o := ⟨_, rfl⟩
      rw [hop] at H
      cases op with
      | none => cases H
      | some ps =>
      have HKP := Aside0.mk hop
      obtain ⟨kp, hkp⟩ : ∃ q, q = k := ⟨_, rfl⟩
      rw [← hkp] at HKP
      rw [Option.bind_some] at H
      clear hop hkp
      obtain ⟨cs, hcs⟩ : ∃ cs, l0_0.map LB.cvC = cs := ⟨_, rfl⟩
      obtain ⟨rs, hrs⟩ : ∃ rs, l0_1.map LB.cvR = rs := ⟨_, rfl⟩
      rw [hcs, hrs] at H
      obtain ⟨o, ho⟩ : ∃ o, impl_PhaseRecord.f cs rs ps = o := ⟨_, rfl⟩
      rw [ho] at H
      cases o with
      | none => cases H
      | some A =>
      obtain ⟨os, hos⟩ : ∃ o, spec_PhaseRecord.f k cs rs ps = o := ⟨_, rfl⟩
      simp only [hos] at H
      cases os with
      | none => cases H
      | some A' =>
      rw [Option.bind_some] at H
      obtain ⟨oq, hoq⟩ : ∃ o, laws_eqPhaseS.f k ps ps = o := ⟨_, rfl⟩
      rw [hoq] at H
      cases oq with
      | none => cases H
      | some q0 =>
      rw [Option.bind_some] at H
      have H2 : q0 = true ∧ A' = A ∧ laws_FnExactPhaseRecord.Ok l0_0 l0_1 ps ∧ A.1.length ≤ 1000 ∧ A.2.1.length ≤ 1000 := by
        by_cases hx : q0 = true ∧ A' = A ∧ laws_FnExactPhaseRecord.Ok l0_0 l0_1 ps ∧ A.1.length ≤ 1000 ∧ A.2.1.length ≤ 1000
        · exact hx
        · rw [if_neg hx] at H
          cases H
      rw [if_pos H2] at H
      obtain rfl : r = true := (Option.some.inj H).symm
      obtain ⟨rfl, rfl, ⟨hl0, hl1, hlp, htp⟩, hsl⟩ := H2
      obtain ⟨rc, rr, bb⟩ := A'
      obtain ⟨hsc, hsr⟩ : rc.length ≤ 1000 ∧ rr.length ≤ 1000 := hsl
      obtain ⟨k1, hk1⟩ := Ev.rounds (LB.toRecord_ev l0_0 l0_1 hl0 hl1)
      have hcl : cs.length ≤ 1048576 := by rw [← hcs, List.length_map]; exact hl0
      have hrl : rs.length ≤ 1048576 := by rw [← hrs, List.length_map]; exact hl1
      rw [hcs, hrs] at hk1
      obtain ⟨k2, hk2⟩ := Ev.rounds (LB.eqRecord_ev cs rs hcl hrl)
      obtain ⟨mm, mx_, my_, hmm, hmm2, hmk⟩ := LB.markRecord_ev cs rs 1 hcl hrl (by omega) (by omega)
      obtain ⟨k3, hk3⟩ := Ev.rounds hmk
      obtain ⟨k4, hk4⟩ := Ev.rounds (LB.eqRecord_ev rc rr (by omega) (by omega))
      obtain ⟨k5, hk5⟩ := Ev.rounds (LB.markRec_pairs rc rr (by omega) (by omega))
      obtain ⟨k6, hk6⟩ := Ev.rounds (LB.heldRec_pairs rc.length rr.length (by omega) (by omega))
      obtain ⟨mc, hmc⟩ : ∃ pc, LB.pairsC 1 rc.length = pc := ⟨_, rfl⟩
      obtain ⟨mr, hmr⟩ : ∃ pr, LB.pairsR (1 + 2 * (rc.length : Int)) rr.length = pr := ⟨_, rfl⟩
      have HLC := Aside0.mk (show mc.length = rc.length from by rw [← hmc, LB.pairsC_length])
      have HLR := Aside0.mk (show mr.length = rr.length from by rw [← hmr, LB.pairsR_length])
      obtain ⟨qq, hqq⟩ : ∃ q, 1 + 2 * (rc.length : Int) + 2 * (rr.length : Int) = q := ⟨_, rfl⟩
      rw [hmc, hmr, hqq] at hk5 hk6
      have HSP := Aside0.mk hos
      have HIM := Aside0.mk ho
      have HKE := Aside0.mk hoq
      have HK1 := Aside0.mk hk1
      have HK2 := Aside0.mk hk2
      have HK3 := Aside0.mk hk3
      have HK4 := Aside0.mk hk4
      have HK5 := Aside0.mk hk5
      have HK6 := Aside0.mk hk6
      have HLP := Aside0.mk hlp
      have HTP := Aside0.mk htp
      have HM1 := Aside0.mk hmm
      have HM2 := Aside0.mk hmm2
      obtain ⟨mp, hmp⟩ : ∃ q, mm + (LB.totPH ps : Int) = q := ⟨_, rfl⟩
      have HMP := Aside0.mk hmp
      have hm0 : ¬ mp < 0 := by omega
      have hq0 : ¬ qq < 0 := by omega
      have hne : (bb != bb) = false := bne_self_eq_false bb
      have hqe : (qq != qq) = false := bne_self_eq_false qq
      clear H hcs hrs hcl hrl hos ho hoq hk1 hk2 hk3 hk4 hk5 hk6 hmk hmm hmm2 hsc hsr hqq hl0 hl1 hlp htp hmp hmc hmr
      go_enter Try.func9, Try.ntmps9
      go_upto_region 1 with (fail)
      try rw [HW.out]
      clear HW
      go_upto_region 8 with (first | (go_at_call 11; (with_reducible refine (laws_szRecord.calls _ _ l0_0 _ _ l0_1 _ t _ (Kd.C_below HR0.out (by repeat (first | exact HBw.out | exact Below.refl _ _ | apply below_alloc | apply pw_below_drewN | apply below_drew1))) HC0.out (Kd.C_below HR1.out (by repeat (first | exact HBw.out | exact Below.refl _ _ | apply below_alloc | apply pw_below_drewN | apply below_drew1))) HC1.out HT.out).mono ?_); rintro e w1 ⟨rfl, hb⟩; have HBw : Aside0 (Below w.heap.size w w1) := Aside0.mk (below_chain (w := w) (by repeat (first | exact HBw.out | exact Below.refl _ _ | apply below_alloc | apply pw_below_drewN | apply below_drew1)) hb); have hb0 := pw_cell_below hb hb0; have hb1 := pw_cell_below hb hb1; clear hb) | (go_at_call 12; (with_reducible refine (laws_szPhaseS.calls k _ _ l1 t u _ (Kd.C_below HP1.out (by repeat (first | exact HBw.out | exact Below.refl _ _ | apply below_alloc | apply pw_below_drewN | apply below_drew1))) HPC.out HU.out).mono ?_); rintro e w1 ⟨rfl, hb⟩; have HBw : Aside0 (Below w.heap.size w w1) := Aside0.mk (below_chain (w := w) (by repeat (first | exact HBw.out | exact Below.refl _ _ | apply below_alloc | apply pw_below_drewN | apply below_drew1)) hb); have hb0 := pw_cell_below hb hb0; have hb1 := pw_cell_below hb hb1; clear hb))
      clear hc hcu
      go_upto_region 9 with (first | (go_at_call 14; (refine (laws_toRecord.calls k1 _ _ l0_0 _ _ l0_1 cs rs _ (Kd.C_below HR0.out (by repeat (first | exact HBw.out | exact Below.refl _ _ | apply below_alloc | apply pw_below_drewN | apply below_drew1))) HC0.out (Kd.C_below HR1.out (by repeat (first | exact HBw.out | exact Below.refl _ _ | apply below_alloc | apply pw_below_drewN | apply below_drew1))) HC1.out HK1.out).mono ?_); rintro e w2 ⟨v0, v1, rfl, hR0, hR1, hb⟩; obtain ⟨vA, vc, rfl, hd0, hC0⟩ := Kd.R_reads hR0; obtain ⟨vB, vd, rfl, hd1, hC1⟩ := Kd.R_reads hR1; have HX0 := Aside0.mk hC0; have HX1 := Aside0.mk hC1; have HD0 := Aside0.mk hd0; have HD1 := Aside0.mk hd1; have HBw : Aside0 (Below w.heap.size w w2) := Aside0.mk (below_chain (w := w) (by repeat (first | exact HBw.out | exact Below.refl _ _ | apply below_alloc | apply pw_below_drewN | apply below_drew1)) hb); have hb0 := pw_cell_below hb hb0; have hb1 := pw_cell_below hb hb1; clear hR0 hR1 hC0 hC1 hd0 hd1 hb) | (go_at_call 15; (refine (laws_toPhaseS.calls kp _ _ l1 ps _ (Kd.C_below HP1.out (by repeat (first | exact HBw.out | exact Below.refl _ _ | apply below_alloc | apply pw_below_drewN | apply below_drew1))) HPC.out HKP.out).mono ?_); rintro e w2 ⟨v2, rfl, hR2, hb⟩; obtain ⟨vP, vq, rfl, hd2, hC2⟩ := Kd.S_reads hR2; have HX0 := Aside0.mk (Kd.C_below HX0.out hb); have HX1 := Aside0.mk (Kd.C_below HX1.out hb); have HXQ := Aside0.mk hC2; have HDP := Aside0.mk hd2; have HBw : Aside0 (Below w.heap.size w w2) := Aside0.mk (below_chain (w := w) (by repeat (first | exact HBw.out | exact Below.refl _ _ | apply below_alloc | apply pw_below_drewN | apply below_drew1)) hb); have hb0 := pw_cell_below hb hb0; have hb1 := pw_cell_below hb hb1; clear hR2 hC2 hd2 hb) | (go_at_call 34; (refine (spec_PhaseRecord.calls k _ _ cs _ _ rs _ _ ps rc rr bb _ HX0.out HD0.out HX1.out HD1.out HXQ.out HDP.out HSP.out).mono ?_); rintro e w3 ⟨v2, v3, rfl, hS, hS', hb⟩; obtain ⟨WA, wcA, rfl, hc2, hC2⟩ := Kd.R_reads hS; obtain ⟨WB, wcB, rfl, hc3, hC3⟩ := Kd.R_reads hS'; have HW0 := Aside0.mk hC2; have HWc0 := Aside0.mk hc2; have HW1 := Aside0.mk hC3; have HWc1 := Aside0.mk hc3; have HBw : Aside0 (Below w.heap.size w w3) := Aside0.mk (below_chain (w := w) (by repeat (first | exact HBw.out | exact Below.refl _ _ | apply below_alloc | apply pw_below_drewN | apply below_drew1)) hb); have hb0 := pw_cell_below hb hb0; have hb1 := pw_cell_below hb hb1; clear hS hc2 hC2 hS' hc3 hC3 hb))
      clear HX0 HX1 HD0 HD1 HXQ HDP
      have hal := below_alloc (Below.refl w3.heap.size w3) (.cells #[.slice WA rc.length wcA, .slice WB rr.length wcB] 33 (0, 0))
      have BWo := Aside0.mk (blk_new w3 (.cells #[.slice WA rc.length wcA, .slice WB rr.length wcB] 33 (0, 0)))
      have HW0 := Aside0.mk (Kd.C_below HW0.out hal)
      have HW1 := Aside0.mk (Kd.C_below HW1.out hal)
      have HBwa := Aside0.mk (below_chain HBw.out hal)
      have hb0 := pw_cell_below hal hb0
      have hb1 := pw_cell_below hal hb1
      obtain ⟨gw, hgw⟩ : ∃ g, w3.heap.size = g := ⟨_, rfl⟩
      generalize w3.alloc (.cells #[.slice WA rc.length wcA, .slice WB rr.length wcB] 33 (0, 0)) = wa at hal BWo HW0 HW1 HBwa hb0 hb1 ⊢
      rw [hgw] at BWo
      try rw [hgw]
      have HW0a := Aside0.mk (show wa.cell? ⟨gw, 0, none⟩ = some (.slice WA rc.length wcA) from (blk_cell BWo.out 0).trans rfl)
      have HW1a := Aside0.mk (show wa.cell? ⟨gw, 1, none⟩ = some (.slice WB rr.length wcB) from (blk_cell BWo.out 1).trans rfl)
      clear hal hgw BWo HBw
      have HA := Aside0.mk (Below.refl wa.heap.size wa)
      have HB0a := Aside0.mk hb0
      have HB1a := Aside0.mk hb1
      go_upto_region 10 with (go_at_call 14; (refine (laws_toRecord.calls k1 _ _ l0_0 _ _ l0_1 cs rs _ (Kd.C_below HR0.out (below_chain HBwa.out (wz_ HA.out))) HC0.out (Kd.C_below HR1.out (below_chain HBwa.out (wz_ HA.out))) HC1.out HK1.out).mono ?_); rintro e w4 ⟨u0, u1, rfl, hR0, hR1, hb⟩; obtain ⟨uA, uc, rfl, hd0, hC0⟩ := Kd.R_reads hR0; obtain ⟨uB, ud, rfl, hd1, hC1⟩ := Kd.R_reads hR1; have HX0 := Aside0.mk (Kd.R_lower hR0 HA.out.size); have HX1 := Aside0.mk (Kd.R_lower hR1 HA.out.size); have HD0 := Aside0.mk hd0; have HD1 := Aside0.mk hd1; have HA := Aside0.mk (below_chain (wz_ HA.out) hb); have hb0 := pw_cell_below hb hb0; have hb1 := pw_cell_below hb hb1; clear hR0 hR1 hC0 hC1 hd0 hd1; clear hb)
      have hal := below_alloc (Below.refl w4.heap.size w4) (.cells #[.slice uA cs.length uc, .slice uB rs.length ud] 33 (0, 0))
      have BK := Aside0.mk (blk_new w4 (.cells #[.slice uA cs.length uc, .slice uB rs.length ud] 33 (0, 0)))
      have HX0 := Aside0.mk (Kd.R_mono (ok' := fun k => k < w4.heap.size) (Kd.R_below (Kd.R_bound HX0.out) hal) (fun k hk => hk.2.2.1))
      have HX1 := Aside0.mk (Kd.R_mono (ok' := fun k => k < w4.heap.size) (Kd.R_below (Kd.R_bound HX1.out) hal) (fun k hk => hk.2.2.1))
      have HA := Aside0.mk (below_chain (w := wa) HA.out hal)
      have hb0 := pw_cell_below hal hb0
      have hb1 := pw_cell_below hal hb1
      have HSZ := Aside0.mk (show (w4.alloc (.cells #[.slice uA cs.length uc, .slice uB rs.length ud] 33 (0, 0))).heap.size = w4.heap.size + 1 from by simp)
      obtain ⟨gx, hgx⟩ : ∃ g, w4.heap.size = g := ⟨_, rfl⟩
      generalize w4.alloc (.cells #[.slice uA cs.length uc, .slice uB rs.length ud] 33 (0, 0)) = wq at hal BK HX0 HX1 HA hb0 hb1 HSZ ⊢
      rw [hgx] at BK HX0 HX1 HSZ
      try rw [hgx]
      clear hal hgx
      have hz0 : wq.cell? ⟨gx, 0, none⟩ = some (.slice uA cs.length uc) := (blk_cell BK.out 0).trans rfl
      have hz1 : wq.cell? ⟨gx, 1, none⟩ = some (.slice uB rs.length ud) := (blk_cell BK.out 1).trans rfl
      clear BK
      go_upto_region 11 with (go_at_call 15; (refine (laws_toPhaseS.calls kp _ _ l1 ps _ (Kd.C_below HP1.out (below_chain HBwa.out (wz_ HA.out))) HPC.out HKP.out).mono ?_); rintro e w5 ⟨p2, rfl, hR2, hb⟩; obtain ⟨pP, pq, rfl, hd2, hC2⟩ := Kd.S_reads hR2; have HXP := Aside0.mk (Kd.S_lower (Kd.S_mono (ok' := fun k => gx < k ∧ k < w5.heap.size) (Kd.S_bound hR2) (fun k hk => ⟨by have h1 := hk.2.1; have h2 := HSZ.out; omega, hk.2.2.1⟩)) HA.out.size); have HDP := Aside0.mk hd2; have HA := Aside0.mk (below_chain (wz_ HA.out) hb); have hb0 := pw_cell_below hb hb0; have hb1 := pw_cell_below hb hb1; have hz0 := pw_cell_below hb hz0; have hz1 := pw_cell_below hb hz1; have HX0 := Aside0.mk (Kd.R_below HX0.out hb); have HX1 := Aside0.mk (Kd.R_below HX1.out hb); clear hR2 hC2 hd2; clear hb)
      clear HSZ
      obtain ⟨pA, rfl⟩ : ∃ x, x = pP := ⟨_, rfl⟩
      obtain ⟨pc, rfl⟩ : ∃ x, x = pq := ⟨_, rfl⟩
      obtain ⟨gy, hgy⟩ : ∃ g, w5.heap.size = g := ⟨_, rfl⟩
      have HGY := Aside0.mk hgy
      have GXY := Aside0.mk (show gx < gy from by rw [← hgy]; exact World.block_lt_of_cell? w5 _ hz0)
      rw [hgy] at HXP
      clear hgy
      go_upto_region 12 with (go_at_call 35; (refine (impl_PhaseRecord.calls _ _ cs _ _ rs _ _ ps rc rr bb _ (cz_ (Kd.R_reads' HX0.out).2.2) HD0.out (cz_ (Kd.R_reads' HX1.out).2.2) HD1.out (cz_ (Kd.S_reads' HXP.out).2.2) HDP.out HIM.out).mono ?_); rintro e w6 ⟨v5, v6, rfl, hS, hS', hb⟩; obtain ⟨GA, gcA, rfl, hc5, hC5⟩ := Kd.R_reads hS; obtain ⟨GB, gcB, rfl, hc6, hC6⟩ := Kd.R_reads hS'; have HGc0 := Aside0.mk hc5; have HGc1 := Aside0.mk hc6; have HG0 := Aside0.mk (Kd.R_lower (Kd.R_mono (ok' := fun k => gy ≤ k ∧ k < w6.heap.size) (Kd.R_bound hS) (fun k hk => ⟨by have h1 := hk.2.1; have h2 := HGY.out; omega, hk.2.2.1⟩)) HA.out.size); have HG1 := Aside0.mk (Kd.R_lower (Kd.R_mono (ok' := fun k => gy ≤ k ∧ k < w6.heap.size) (Kd.R_bound hS') (fun k hk => ⟨by have h1 := hk.2.1; have h2 := HGY.out; omega, hk.2.2.1⟩)) HA.out.size); have HGS := Aside0.mk (show gy ≤ w6.heap.size from by have h1 := hb.size; have h2 := HGY.out; omega); have HA := Aside0.mk (below_chain (wz_ HA.out) hb); have hb0 := pw_cell_below hb hb0; have hb1 := pw_cell_below hb hb1; have hz0 := pw_cell_below hb hz0; have hz1 := pw_cell_below hb hz1; have HX0 := Aside0.mk (Kd.R_below HX0.out hb); have HX1 := Aside0.mk (Kd.R_below HX1.out hb); have HXP := Aside0.mk (Kd.S_below HXP.out hb); clear hS hc5 hC5 hS' hc6 hC6; clear hb)
      have hal := below_alloc (Below.refl w6.heap.size w6) (.cells #[.slice GA rc.length gcA, .slice GB rr.length gcB] 33 (0, 0))
      have BG := Aside0.mk (blk_new w6 (.cells #[.slice GA rc.length gcA, .slice GB rr.length gcB] 33 (0, 0)))
      have HG0 := Aside0.mk (Kd.R_below HG0.out hal)
      have HG1 := Aside0.mk (Kd.R_below HG1.out hal)
      have HX0 := Aside0.mk (Kd.R_below HX0.out hal)
      have HX1 := Aside0.mk (Kd.R_below HX1.out hal)
      have HXP := Aside0.mk (Kd.S_below HXP.out hal)
      have HA := Aside0.mk (below_chain (w := wa) HA.out hal)
      have hb0 := pw_cell_below hal hb0
      have hb1 := pw_cell_below hal hb1
      have hz0 := pw_cell_below hal hz0
      have hz1 := pw_cell_below hal hz1
      obtain ⟨bg, hbg⟩ : ∃ g, w6.heap.size = g := ⟨_, rfl⟩
      generalize w6.alloc (.cells #[.slice GA rc.length gcA, .slice GB rr.length gcB] 33 (0, 0)) = wr at hal BG HG0 HG1 HX0 HX1 HXP HA hb0 hb1 hz0 hz1 ⊢
      rw [hbg] at BG HG0 HG1 HGS
      try rw [hbg]
      clear hal hbg HGY
      have hw0 := (HA.out.cell (World.block_lt_of_cell? wa _ HW0a.out)).trans HW0a.out
      have hw1 := (HA.out.cell (World.block_lt_of_cell? wa _ HW1a.out)).trans HW1a.out
      have hg0 : wr.cell? ⟨bg, 0, none⟩ = some (.slice GA rc.length gcA) := (blk_cell BG.out 0).trans rfl
      have hg1 : wr.cell? ⟨bg, 1, none⟩ = some (.slice GB rr.length gcB) := (blk_cell BG.out 1).trans rfl
      go_upto_region 14 with (go_at_call 17; (refine (laws_eqRecord.calls k4 _ _ rc _ _ rr _ _ rc _ _ rr true _ (cz_ (Kd.R_reads' HG0.out).2.2) HGc0.out (cz_ (Kd.R_reads' HG1.out).2.2) HGc1.out (Kd.C_below HW0.out (wz_ HA.out)) HWc0.out (Kd.C_below HW1.out (wz_ HA.out)) HWc1.out HK4.out).mono ?_); rintro e w7 ⟨rfl, hb⟩; have HA := Aside0.mk (below_chain (wz_ HA.out) hb); have hb0 := pw_cell_below hb hb0; have hb1 := pw_cell_below hb hb1; have hz0 := pw_cell_below hb hz0; have hz1 := pw_cell_below hb hz1; have HX0 := Aside0.mk (Kd.R_below HX0.out hb); have HX1 := Aside0.mk (Kd.R_below HX1.out hb); have HXP := Aside0.mk (Kd.S_below HXP.out hb); have HG0 := Aside0.mk (Kd.R_below HG0.out hb); have HG1 := Aside0.mk (Kd.R_below HG1.out hb); have BG := Aside0.mk (blk_below BG.out hb); clear hb)
      clear hw0 hw1 hg0 hg1
      have HS0 := Aside0.mk (show (fun w' => w'.cell? ⟨w.heap.size, 0, none⟩ = some (.slice A0_0 l0_0.length c0_0) ∧ w'.cell? ⟨w.heap.size, 1, none⟩ = some (.slice A0_1 l0_1.length c0_1) ∧ w'.cell? ⟨gx, 0, none⟩ = some (.slice uA cs.length uc) ∧ w'.cell? ⟨gx, 1, none⟩ = some (.slice uB rs.length ud) ∧ Aside0 (Below wa.heap.size wa w') ∧ Aside0 (Kd.R k77 77 w' wa.heap.size (fun k => k < gx) (.slice uA cs.length uc) cs) ∧ Aside0 (Kd.R k91 91 w' wa.heap.size (fun k => k < gx) (.slice uB rs.length ud) rs) ∧ Aside0 (Kd.S k64 64 w' wa.heap.size (fun k => gx < k ∧ k < gy) (.slice pA ps.length pc) ps) ∧ Aside0 (Kd.R k77 77 w' wa.heap.size (fun k => gy ≤ k ∧ k < bg) (.slice GA rc.length gcA) rc) ∧ Aside0 (Kd.R k91 91 w' wa.heap.size (fun k => gy ≤ k ∧ k < bg) (.slice GB rr.length gcB) rr) ∧ Aside0 (w'.heap[bg]? = some (.cells #[.slice GA rc.length gcA, .slice GB rr.length gcB] 33 (0, 0)))) w7.drew from ⟨hb0, hb1, hz0, hz1, ⟨below_drew1 HA.out⟩, ⟨Kd.R_drew HX0.out⟩, ⟨Kd.R_drew HX1.out⟩, ⟨Kd.S_drew HXP.out⟩, ⟨Kd.R_drew HG0.out⟩, ⟨Kd.R_drew HG1.out⟩, ⟨blk_drew BG.out⟩⟩)
      clear hb0 hb1 hz0 hz1 HA HX0 HX1 HXP HG0 HG1 BG
      all_goals refine start_ (n := 5) (S := (fun w' => w'.cell? ⟨w.heap.size, 0, none⟩ = some (.slice A0_0 l0_0.length c0_0) ∧ w'.cell? ⟨w.heap.size, 1, none⟩ = some (.slice A0_1 l0_1.length c0_1) ∧ w'.cell? ⟨gx, 0, none⟩ = some (.slice uA cs.length uc) ∧ w'.cell? ⟨gx, 1, none⟩ = some (.slice uB rs.length ud) ∧ Aside0 (Below wa.heap.size wa w') ∧ Aside0 (Kd.R k77 77 w' wa.heap.size (fun k => k < gx) (.slice uA cs.length uc) cs) ∧ Aside0 (Kd.R k91 91 w' wa.heap.size (fun k => k < gx) (.slice uB rs.length ud) rs) ∧ Aside0 (Kd.S k64 64 w' wa.heap.size (fun k => gx < k ∧ k < gy) (.slice pA ps.length pc) ps) ∧ Aside0 (Kd.R k77 77 w' wa.heap.size (fun k => gy ≤ k ∧ k < bg) (.slice GA rc.length gcA) rc) ∧ Aside0 (Kd.R k91 91 w' wa.heap.size (fun k => gy ≤ k ∧ k < bg) (.slice GB rr.length gcB) rr) ∧ Aside0 (w'.heap[bg]? = some (.cells #[.slice GA rc.length gcA, .slice GB rr.length gcB] 33 (0, 0))))) (ds := []) (bl 0 5) (by kernel_rfl) rfl rfl HS0.out (fun hHeld => ?_); refine with_tabW laws_FnExactPhaseRecord.tab14 laws_FnExactPhaseRecord.bits14 (fun HT_ HW_ => ?_)
      all_goals generalize w7.drew = wv at hHeld ⊢
      all_goals first | refine tA_ 0 (some 54) (bl 1 5) HT_.out HW_.out hHeld (h := ?_) | refine pO_ 0 (some 54) (bl 1 5) HT_.out (h := ?_)
      all_goals first | refine tA_ 1 (some 55) (bl 2 5) HT_.out HW_.out hHeld (h := ?_) | refine pO_ 1 (some 55) (bl 2 5) HT_.out (h := ?_)
      all_goals first | refine pO_ 2 (some 56) (bl 3 5) HT_.out (h := ?_) | (refine one_ (i := 2) (N := some 56) (bl 3 5) rfl rfl (one_of HT_.out (by kernel_rfl)) (by decide) (fun K hK => ?_); refine goes_ Try.func14 (by kernel_rfl) rfl #[.agg #[.slice A0_0 l0_0.length c0_0, .slice A0_1 l0_1.length c0_1]] (by rfl) rfl rfl (by (try simp only [List.map_toArray, List.map_cons, List.map_nil]); first | done | rfl) ?_; with_reducible refine (laws_toRecord.calls k1 _ _ l0_0 _ _ l0_1 cs rs _ (Kd.C_below HR0.out (below_chain HBwa.out hHeld.2.2.2.2.1.out)) HC0.out (Kd.C_below HR1.out (below_chain HBwa.out hHeld.2.2.2.2.1.out)) HC1.out HK1.out).mono ?_; rintro e w8 ⟨x0, x1, rfl, hR0, hR1, hb⟩; obtain ⟨xA, xc, rfl, hd0, hC0⟩ := Kd.R_reads hR0; obtain ⟨xB, xd, rfl, hd1, hC1⟩ := Kd.R_reads hR1; have HY0 := Aside0.mk hC0; have HY1 := Aside0.mk hC1; have HE0 := Aside0.mk hd0; have HE1 := Aside0.mk hd1; clear hR0 hR1 hC0 hC1 hd0 hd1; refine ⟨_, rfl, ?_⟩; refine hK.out _ _ ⟨pw_cell_below hb hHeld.1, pw_cell_below hb hHeld.2.1, pw_cell_below hb hHeld.2.2.1, pw_cell_below hb hHeld.2.2.2.1, ⟨below_chain hHeld.2.2.2.2.1.out hb⟩, ⟨Kd.R_below hHeld.2.2.2.2.2.1.out hb⟩, ⟨Kd.R_below hHeld.2.2.2.2.2.2.1.out hb⟩, ⟨Kd.S_below hHeld.2.2.2.2.2.2.2.1.out hb⟩, ⟨Kd.R_below hHeld.2.2.2.2.2.2.2.2.1.out hb⟩, ⟨Kd.R_below hHeld.2.2.2.2.2.2.2.2.2.1.out hb⟩, ⟨blk_below hHeld.2.2.2.2.2.2.2.2.2.2.out hb⟩⟩ (fun hHeld => ?_); clear hK K; refine norm_ (a' := ?_) ?_ ?_; rotate_left; (show Act.put _ (some 56) _ = _; simp only [Act.put, List.setIfInBounds_toArray, List.set_cons_zero, List.set_cons_succ, i64_w, i32_w]; rfl))
      all_goals first | refine pO_ 3 (some 57) (bl 4 5) HT_.out (h := ?_) | (refine one_ (i := 3) (N := some 57) (bl 4 5) rfl rfl (one_of HT_.out (by kernel_rfl)) (by decide) (fun K hK => ?_); refine goes_ Try.func17 (by kernel_rfl) rfl #[.agg #[.slice uA cs.length uc, .slice uB rs.length ud], .agg #[.slice xA cs.length xc, .slice xB rs.length xd]] (by rfl) rfl rfl (by (try simp only [List.map_toArray, List.map_cons, List.map_nil]); first | done | rfl) ?_; with_reducible refine (laws_eqRecord.calls k2 _ _ cs _ _ rs _ _ cs _ _ rs true _ (Kd.R_reads' hHeld.2.2.2.2.2.1.out).2.2 HD0.out (Kd.R_reads' hHeld.2.2.2.2.2.2.1.out).2.2 HD1.out HY0.out HE0.out HY1.out HE1.out HK2.out).mono ?_; rintro e w9 ⟨rfl, hb⟩; refine ⟨_, rfl, ?_⟩; refine hK.out _ _ ⟨pw_cell_below hb hHeld.1, pw_cell_below hb hHeld.2.1, pw_cell_below hb hHeld.2.2.1, pw_cell_below hb hHeld.2.2.2.1, ⟨below_chain hHeld.2.2.2.2.1.out hb⟩, ⟨Kd.R_below hHeld.2.2.2.2.2.1.out hb⟩, ⟨Kd.R_below hHeld.2.2.2.2.2.2.1.out hb⟩, ⟨Kd.S_below hHeld.2.2.2.2.2.2.2.1.out hb⟩, ⟨Kd.R_below hHeld.2.2.2.2.2.2.2.2.1.out hb⟩, ⟨Kd.R_below hHeld.2.2.2.2.2.2.2.2.2.1.out hb⟩, ⟨blk_below hHeld.2.2.2.2.2.2.2.2.2.2.out hb⟩⟩ (fun hHeld => ?_); clear hK K; refine norm_ (a' := ?_) ?_ ?_; rotate_left; (show Act.put _ (some 57) _ = _; simp only [Act.put, List.setIfInBounds_toArray, List.set_cons_zero, List.set_cons_succ, i64_w, i32_w]; rfl))
      all_goals first | refine pA_ 4 (some 58) (bl 5 5) HT_.out (h := ?_) | refine pO_ 4 (some 58) (bl 5 5) HT_.out (h := ?_)
      all_goals refine done_ (done_of HT_.out (by kernel_rfl)) ?_
      obtain ⟨hb0, hb1, hz0, hz1, HA, HX0, HX1, HXP, HG0, HG1, BG⟩ := hHeld
      obtain ⟨wz, hwz⟩ : ∃ x, w9 = x := ⟨_, rfl⟩
      rw [hwz] at hb0 hb1 hz0 hz1 HA HX0 HX1 HXP HG0 HG1 BG ⊢
      clear hwz HS0 HY0 HY1 HE0 HE1
      go_upto_region 19 with (first | (go_at_call 15; (refine (laws_toPhaseS.calls kp _ _ l1 ps _ (Kd.C_below HP1.out (below_chain HBwa.out (wz_ HA.out))) HPC.out HKP.out).mono ?_); rintro e w10 ⟨m2, rfl, hR2, hb⟩; obtain ⟨mP, mq, rfl, hd2, hC2⟩ := Kd.S_reads hR2; have HYP := Aside0.mk hC2; have HEP := Aside0.mk hd2; have HA := Aside0.mk (below_chain (wz_ HA.out) hb); have hb0 := pw_cell_below hb hb0; have hb1 := pw_cell_below hb hb1; have hz0 := pw_cell_below hb hz0; have hz1 := pw_cell_below hb hz1; have HX0 := Aside0.mk (Kd.R_below HX0.out hb); have HX1 := Aside0.mk (Kd.R_below HX1.out hb); have HXP := Aside0.mk (Kd.S_below HXP.out hb); have HG0 := Aside0.mk (Kd.R_below HG0.out hb); have HG1 := Aside0.mk (Kd.R_below HG1.out hb); have BG := Aside0.mk (blk_below BG.out hb); clear hR2 hC2 hd2; clear hb) | (go_at_call 18; (refine (laws_eqPhaseS.calls k _ _ ps _ _ ps true _ (cz_ (Kd.S_reads' HXP.out).2.2) HDP.out (cz_ HYP.out) HEP.out HKE.out).mono ?_); rintro e w11 ⟨rfl, hb⟩; have HA := Aside0.mk (below_chain (wz_ HA.out) hb); have hb0 := pw_cell_below hb hb0; have hb1 := pw_cell_below hb hb1; have hz0 := pw_cell_below hb hz0; have hz1 := pw_cell_below hb hz1; have HX0 := Aside0.mk (Kd.R_below HX0.out hb); have HX1 := Aside0.mk (Kd.R_below HX1.out hb); have HXP := Aside0.mk (Kd.S_below HXP.out hb); have HG0 := Aside0.mk (Kd.R_below HG0.out hb); have HG1 := Aside0.mk (Kd.R_below HG1.out hb); have BG := Aside0.mk (blk_below BG.out hb); clear hb))
      clear HYP HEP
      have HGG := Aside0.mk (show ∀ k, gy ≤ k → k < gx → False from fun k h1 h2 => by have h5 := GXY.out; omega)
      go_upto_region 20 with (go_at_call 28; (refine (laws_markRecord.calls k3 (fun k => k < gx) _ cs (fun k => k < gx) _ rs 1 mm mx_ my_ wa _ (wz_ HA.out) (rz_ HX0.out) (rz_ HX1.out) HK3.out).mono ?_); rintro e w12 ⟨rfl, _, _, hb, hkp⟩; have HXP := Aside0.mk (Kd.S_step HXP.out (fun k hk hlt => hkp.2 k hlt (fun h => by rcases h with h | h <;> omega))); have HG0 := Aside0.mk (Kd.R_step HG0.out (fun k hk hlt => hkp.2 k hlt (fun h => HGG.out k hk.1 (by rcases h with h | h <;> exact h)))); have HG1 := Aside0.mk (Kd.R_step HG1.out (fun k hk hlt => hkp.2 k hlt (fun h => HGG.out k hk.1 (by rcases h with h | h <;> exact h)))); have BG := Aside0.mk (blk_kept BG.out hkp (fun h => HGG.out bg HGS.out (by rcases h with h | h <;> exact h))); have HA := Aside0.mk hb; clear hb hkp hz0 hz1 HX0 HX1)
      go_upto_region 21 with (go_at_call 29; (refine (laws_markPhaseS.callsA _ _ ps mm wa _ (wz_ HA.out) (by (with_reducible repeat (first | apply Kd.R_alloc | apply Kd.R_drewN | apply Kd.R_drew | apply Kd.S_alloc | apply Kd.S_drewN | apply Kd.S_drew)); exact HXP.out) HM1.out HM2.out HLP.out HTP.out).mono ?_); rintro e w13 ⟨rfl, hb, hkp⟩; rw [HMP.out]; have HG0 := Aside0.mk (Kd.R_step HG0.out (fun k hk hlt => hkp.2 k hlt (fun h => by omega))); have HG1 := Aside0.mk (Kd.R_step HG1.out (fun k hk hlt => hkp.2 k hlt (fun h => by omega))); have BG := Aside0.mk (blk_kept BG.out hkp (fun h => by have := HGS.out; omega)); have HA := Aside0.mk hb; clear hb hkp HXP)
      have hw0 := (HA.out.cell (World.block_lt_of_cell? wa _ HW0a.out)).trans HW0a.out
      have hw1 := (HA.out.cell (World.block_lt_of_cell? wa _ HW1a.out)).trans HW1a.out
      have hg0 : w13.cell? ⟨bg, 0, none⟩ = some (.slice GA rc.length gcA) := (blk_cell BG.out 0).trans rfl
      have hg1 : w13.cell? ⟨bg, 1, none⟩ = some (.slice GB rr.length gcB) := (blk_cell BG.out 1).trans rfl
      go_upto_region 24 with (go_at_call 17; (refine (laws_eqRecord.calls k4 _ _ rc _ _ rr _ _ rc _ _ rr true _ (cz_ (Kd.R_reads' HG0.out).2.2) HGc0.out (cz_ (Kd.R_reads' HG1.out).2.2) HGc1.out (Kd.C_below HW0.out (wz_ HA.out)) HWc0.out (Kd.C_below HW1.out (wz_ HA.out)) HWc1.out HK4.out).mono ?_); rintro e w14 ⟨rfl, hb⟩; have HA := Aside0.mk (below_chain (wz_ HA.out) hb); have HG0 := Aside0.mk (Kd.R_below HG0.out hb); have HG1 := Aside0.mk (Kd.R_below HG1.out hb); have BG := Aside0.mk (blk_below BG.out hb); clear hb)
      clear hw0 hw1 hg0 hg1
      have hg0 : w14.cell? ⟨bg, 0, none⟩ = some (.slice GA rc.length gcA) := (blk_cell BG.out 0).trans rfl
      have hg1 : w14.cell? ⟨bg, 1, none⟩ = some (.slice GB rr.length gcB) := (blk_cell BG.out 1).trans rfl
      have HHE := Aside0.mk (fun (W : World) (hC : Kd.C k77 W GA rc.length mc) (hR : Kd.C k91 W GB rr.length mr) => show Calls Try.prog 36 #[.agg #[.slice GA rc.length gcA, .slice GB rr.length gcB], .int .i64 1] W (fun e w' => e = .returned (.int .i64 qq) ∧ Below W.heap.size W w') from by
        have h := laws_heldRecord.calls k6 GA gcA mc GB gcB mr 1 qq W (by rw [HLC.out]; exact hC) (by rw [HLC.out]; exact HGc0.out) (by rw [HLR.out]; exact hR) (by rw [HLR.out]; exact HGc1.out) HK6.out
        rw [HLC.out, HLR.out] at h
        exact h)
      go_upto_region 25 with (go_at_call 28; (refine (laws_markRecord.calls k5 (fun k => gy ≤ k ∧ k < bg) _ rc (fun k => gy ≤ k ∧ k < bg) _ rr 1 qq mc mr wa _ (wz_ HA.out) (rz_ HG0.out) (rz_ HG1.out) HK5.out).mono ?_); rintro e w15 ⟨rfl, hy0, hy1, hb, hkp⟩; have HG0 := Aside0.mk hy0; have HG1 := Aside0.mk hy1; have BG := Aside0.mk (blk_kept BG.out hkp (fun h => by rcases h with h | h <;> exact Nat.lt_irrefl _ h.2)); have HA := Aside0.mk hb; clear hb hkp hy0 hy1)
      clear hg0 hg1
      have hg0 : w15.cell? ⟨bg, 0, none⟩ = some (.slice GA rc.length gcA) := (blk_cell BG.out 0).trans rfl
      have hg1 : w15.cell? ⟨bg, 1, none⟩ = some (.slice GB rr.length gcB) := (blk_cell BG.out 1).trans rfl
      go_upto_region 31 with (go_at_call 36; (refine (HHE.out _ (Kd.C_below (by have h := (Kd.R_reads' HG0.out).2.2; rw [HLC.out] at h; exact h) (by repeat (first | exact Below.refl _ _ | apply below_alloc | apply pw_below_drewN | apply below_drew1))) (Kd.C_below (by have h := (Kd.R_reads' HG1.out).2.2; rw [HLR.out] at h; exact h) (by repeat (first | exact Below.refl _ _ | apply below_alloc | apply pw_below_drewN | apply below_drew1)))).mono ?_); rintro e w16 ⟨rfl, hb⟩; have HA := Aside0.mk (below_chain (wz_ HA.out) hb); have HG0 := Aside0.mk (Kd.R_below HG0.out hb); have HG1 := Aside0.mk (Kd.R_below HG1.out hb); have BG := Aside0.mk (blk_below BG.out hb); clear hb)
      clear hg0 hg1
      have hb0 := (HA.out.cell (World.block_lt_of_cell? wa _ HB0a.out)).trans HB0a.out
      have hb1 := (HA.out.cell (World.block_lt_of_cell? wa _ HB1a.out)).trans HB1a.out
      go_upto_region 32 with (first | (go_at_call 14; (refine (laws_toRecord.calls k1 _ _ l0_0 _ _ l0_1 cs rs _ (Kd.C_below HR0.out (below_chain HBwa.out (wz_ HA.out))) HC0.out (Kd.C_below HR1.out (below_chain HBwa.out (wz_ HA.out))) HC1.out HK1.out).mono ?_); rintro e w17 ⟨y0, y1, rfl, hR0, hR1, hb⟩; obtain ⟨yA, yc, rfl, hd0, hC0⟩ := Kd.R_reads hR0; obtain ⟨yB, yd, rfl, hd1, hC1⟩ := Kd.R_reads hR1; have HX0 := Aside0.mk hC0; have HX1 := Aside0.mk hC1; have HD0 := Aside0.mk hd0; have HD1 := Aside0.mk hd1; have HA := Aside0.mk (below_chain (wz_ HA.out) hb); have hb0 := pw_cell_below hb hb0; have hb1 := pw_cell_below hb hb1; have HG0 := Aside0.mk (Kd.R_below HG0.out hb); have HG1 := Aside0.mk (Kd.R_below HG1.out hb); have BG := Aside0.mk (blk_below BG.out hb); clear hR0 hR1 hC0 hC1 hd0 hd1; clear hb) | (go_at_call 15; (refine (laws_toPhaseS.calls kp _ _ l1 ps _ (Kd.C_below HP1.out (below_chain HBwa.out (wz_ HA.out))) HPC.out HKP.out).mono ?_); rintro e w18 ⟨z2, rfl, hR2, hb⟩; obtain ⟨zP, zq, rfl, hd2, hC2⟩ := Kd.S_reads hR2; have HX0 := Aside0.mk (Kd.C_below HX0.out hb); have HX1 := Aside0.mk (Kd.C_below HX1.out hb); have HXQ := Aside0.mk hC2; have HDP := Aside0.mk hd2; have HA := Aside0.mk (below_chain (wz_ HA.out) hb); have hb0 := pw_cell_below hb hb0; have hb1 := pw_cell_below hb hb1; have HG0 := Aside0.mk (Kd.R_below HG0.out hb); have HG1 := Aside0.mk (Kd.R_below HG1.out hb); have BG := Aside0.mk (blk_below BG.out hb); clear hR2 hC2 hd2; clear hb) | (go_at_call 35; (refine (impl_PhaseRecord.calls _ _ cs _ _ rs _ _ ps rc rr bb _ (cz_ HX0.out) HD0.out (cz_ HX1.out) HD1.out (cz_ HXQ.out) HDP.out HIM.out).mono ?_); rintro e w19 ⟨v7, v8, rfl, hS, hS', hb⟩; obtain ⟨hA, hcA, rfl, hc7, hC7⟩ := Kd.R_reads hS; obtain ⟨hB, hcB, rfl, hc8, hC8⟩ := Kd.R_reads hS'; have HHc0 := Aside0.mk hc7; have HHc1 := Aside0.mk hc8; have HH0 := Aside0.mk hC7; have HH1 := Aside0.mk hC8; have HA := Aside0.mk (below_chain (wz_ HA.out) hb); have HG0 := Aside0.mk (Kd.R_below HG0.out hb); have HG1 := Aside0.mk (Kd.R_below HG1.out hb); have BG := Aside0.mk (blk_below BG.out hb); clear hS hc7 hC7 hS' hc8 hC8; clear hb))
      clear hb0 hb1
      have hal := below_alloc (Below.refl w19.heap.size w19) (.cells #[.slice hA rc.length hcA, .slice hB rr.length hcB] 33 (0, 0))
      have BH := Aside0.mk (blk_new w19 (.cells #[.slice hA rc.length hcA, .slice hB rr.length hcB] 33 (0, 0)))
      have HG0 := Aside0.mk (Kd.R_below HG0.out hal)
      have HG1 := Aside0.mk (Kd.R_below HG1.out hal)
      have BG := Aside0.mk (blk_below BG.out hal)
      have HH0 := Aside0.mk (Kd.C_below HH0.out hal)
      have HH1 := Aside0.mk (Kd.C_below HH1.out hal)
      have HA := Aside0.mk (below_chain (w := wa) HA.out hal)
      obtain ⟨bh, hbh⟩ : ∃ g, w19.heap.size = g := ⟨_, rfl⟩
      generalize w19.alloc (.cells #[.slice hA rc.length hcA, .slice hB rr.length hcB] 33 (0, 0)) = wu at hal BH HG0 HG1 BG HH0 HH1 HA ⊢
      rw [hbh] at BH
      try rw [hbh]
      clear hal hbh
      have hw0 := (HA.out.cell (World.block_lt_of_cell? wa _ HW0a.out)).trans HW0a.out
      have hw1 := (HA.out.cell (World.block_lt_of_cell? wa _ HW1a.out)).trans HW1a.out
      have hh0 : wu.cell? ⟨bh, 0, none⟩ = some (.slice hA rc.length hcA) := (blk_cell BH.out 0).trans rfl
      have hh1 : wu.cell? ⟨bh, 1, none⟩ = some (.slice hB rr.length hcB) := (blk_cell BH.out 1).trans rfl
      go_upto_region 34 with (go_at_call 17; (refine (laws_eqRecord.calls k4 _ _ rc _ _ rr _ _ rc _ _ rr true _ (cz_ HH0.out) HHc0.out (cz_ HH1.out) HHc1.out (Kd.C_below HW0.out (wz_ HA.out)) HWc0.out (Kd.C_below HW1.out (wz_ HA.out)) HWc1.out HK4.out).mono ?_); rintro e w20 ⟨rfl, hb⟩; have HA := Aside0.mk (below_chain (wz_ HA.out) hb); have HG0 := Aside0.mk (Kd.R_below HG0.out hb); have HG1 := Aside0.mk (Kd.R_below HG1.out hb); have BG := Aside0.mk (blk_below BG.out hb); clear hb)
      clear hw0 hw1 hh0 hh1
      have hg0 : w20.cell? ⟨bg, 0, none⟩ = some (.slice GA rc.length gcA) := (blk_cell BG.out 0).trans rfl
      have hg1 : w20.cell? ⟨bg, 1, none⟩ = some (.slice GB rr.length gcB) := (blk_cell BG.out 1).trans rfl
      go_wp2_with (go_at_call 36; (refine (HHE.out _ (Kd.C_below (by have h := (Kd.R_reads' HG0.out).2.2; rw [HLC.out] at h; exact h) (by repeat (first | exact Below.refl _ _ | apply below_alloc | apply pw_below_drewN | apply below_drew1))) (Kd.C_below (by have h := (Kd.R_reads' HG1.out).2.2; rw [HLR.out] at h; exact h) (by repeat (first | exact Below.refl _ _ | apply below_alloc | apply pw_below_drewN | apply below_drew1)))).mono ?_); rintro e w21 ⟨rfl, hb⟩; have HA := Aside0.mk (below_chain (wz_ HA.out) hb); clear hb)
      go_ret
      exact ⟨rfl, below_chain HBwa.out HA.out⟩

end Go.Proofs.Ytenphfagdpkjaaa.Q

-- Written by a program of this session (wip/xprint.py over the kit's printer).
import Derived.Test.YtenphfagdpkjaaaQ0
import Derived.Test.YtenphfagdpkjaaaQB0
import Derived.Test.YtenphfagdpkjaaaQB1
import Derived.Test.YtenphfagdpkjaaaQB2
import Derived.Test.YtenphfagdpkjaaaQF29
import Derived.Test.YtenphfagdpkjaaaQF37
import Derived.Test.YtenphfagdpkjaaaQF38
import Derived.Test.YtenphfagdpkjaaaQF39
import Derived.Test.YtenphfagdpkjaaaQLBBaseB
import Derived.Test.YtenphfagdpkjaaaQLBBaseMark
import Derived.Test.YtenphfagdpkjaaaQM0
import Derived.Test.YtenphfagdpkjaaaQP
namespace Go.Proofs.Ytenphfagdpkjaaa.Q
open Go.RowKit Go.Proofs.YtenphfagdpkjaaaW.PrintWords Go.Proofs.YtenphfagdpkjaaaW.PrintLast
set_option linter.unusedVariables false
set_option linter.unusedSimpArgs false

/-! ### laws_FnExactMergePhases: function 10 -/
instance laws_FnExactMergePhases.decP : DecidableEq S64 := fun a b =>
  if h : a.f0 = b.f0 ∧ a.f1 = b.f1 then isTrue (by cases a; cases b; simp only at h; rw [h.1, h.2]) else isFalse (fun e => h (by rw [e]; exact ⟨rfl, rfl⟩))
def laws_FnExactMergePhases.cvP (x : S61) : S64 := ⟨x.f0, x.f1⟩
/-- What the size check lets in. -/
def laws_FnExactMergePhases.Ok (l0_0 : List S100) (l0_1 : List S102) (ps : List S64) : Prop := l0_0.length ≤ 1048576 ∧ l0_1.length ≤ 1048576 ∧ ps.length ≤ 1048576 ∧ LB.totPH ps ≤ 4194304
instance (l0_0 : List S100) (l0_1 : List S102) (ps : List S64) : Decidable (laws_FnExactMergePhases.Ok l0_0 l0_1 ps) := by unfold laws_FnExactMergePhases.Ok; infer_instance
def laws_FnExactMergePhases.f (k : Nat) (l0_0 : List S100) (l0_1 : List S102) (l1 : List S61) (a2 : Int) (a3 : Int) : Option Bool :=
  (laws_szRecord.f l0_0 l0_1 1048576).bind fun t => if t < 0 then some true else
  (laws_szPhaseS.f k l1 t).bind fun u => if u < 0 then some true else
  (laws_toPhaseS.f k l1).bind fun ps =>
  match impl_MergePhases.f (l0_0.map LB.cvC) (l0_1.map LB.cvR) ps a2 a3 with
  | none => none
  | some A => (spec_MergePhases.f k (l0_0.map LB.cvC) (l0_1.map LB.cvR) ps a2 a3).bind fun A' => (laws_eqPhaseS.f k ps ps).bind fun q => if q = true ∧ A' = A ∧ laws_FnExactMergePhases.Ok l0_0 l0_1 ps ∧ A.1.length ≤ 1000 ∧ (∀ r ∈ A.1, r.f1.length ≤ 1000) then some true else none
def laws_FnExactMergePhases.T14 : Bool × List (List Nat × List Nat) := (true, [([], []), ([], []), ([1], [1]), ([0, 2, 2], [0, 2]), ([3], [3])])
def laws_FnExactMergePhases.B14 : List Nat := [0, 0, 2, 7, 15]
theorem laws_FnExactMergePhases.tab14 : rtab .any (opsOf Try.f10 14) = laws_FnExactMergePhases.T14 := by kernel_rfl
theorem laws_FnExactMergePhases.bits14 : waitsOk laws_FnExactMergePhases.T14.2 laws_FnExactMergePhases.B14 = true := by kernel_rfl
set_option maxHeartbeats 16000000 in
set_option maxRecDepth 100000 in
theorem laws_FnExactMergePhases.calls (k : Nat) (A0_0 : Option Addr) (c0_0 : Nat) (l0_0 : List S100) (A0_1 : Option Addr) (c0_1 : Nat) (l0_1 : List S102) (A1 : Option Addr) (c1 : Nat) (l1 : List S61) (a2 : Int) (a3 : Int) (r : Bool) (w : World) (hr0_0 : Kd.C k100 w A0_0 l0_0.length l0_0) (hc0_0 : l0_0.length ≤ c0_0) (hr0_1 : Kd.C k102 w A0_1 l0_1.length l0_1) (hc0_1 : l0_1.length ≤ c0_1) (hr1 : Kd.C k61 w A1 l1.length l1) (hc1 : l1.length ≤ c1) (h : laws_FnExactMergePhases.f k l0_0 l0_1 l1 a2 a3 = some r) :
    Calls Try.prog 10 #[.agg #[.slice A0_0 l0_0.length c0_0, .slice A0_1 l0_1.length c0_1], .slice A1 l1.length c1, .int .i64 a2, .int .i64 a3] w fun e w' => e = .returned (.bool r) ∧ Below w.heap.size w w' := by
  obtain ⟨t, ht, _⟩ := LB.szRecord_eq l0_0 l0_1 hr0_0.2.1 hr0_1.2.1
  have HT := Aside0.mk ht
  have HP1 := Aside0.mk hr1
  have HPC := Aside0.mk hc1
  have H := h
  unfold laws_FnExactMergePhases.f at H
  rw [ht, Option.bind_some] at H
  clear h ht hr1 hc1
  have HR0 := Aside0.mk hr0_0
  have HR1 := Aside0.mk hr0_1
  have HC0 := Aside0.mk hc0_0
  have HC1 := Aside0.mk hc0_1
  clear hr0_0 hr0_1 hc0_0 hc0_1
  obtain ⟨wb, hwb⟩ : ∃ wb, (w).alloc (.cells #[.slice A0_0 l0_0.length c0_0, .slice A0_1 l0_1.length c0_1] 25 (0, 0)) = wb := ⟨_, rfl⟩
  have HBw := Aside0.mk (show Below w.heap.size w wb from by rw [← hwb]; repeat (first | exact Below.refl _ _ | apply below_alloc))
  have HWB := HBw
  have hhr : wb.heap[w.heap.size]? = some (.cells #[.slice A0_0 l0_0.length c0_0, .slice A0_1 l0_1.length c0_1] 25 (0, 0)) := by rw [← hwb]; have h := blk_new (w) (.cells #[.slice A0_0 l0_0.length c0_0, .slice A0_1 l0_1.length c0_1] 25 (0, 0)); rw [show (w).heap.size = w.heap.size from by rfl] at h; exact h
  have hb0 : wb.cell? ⟨w.heap.size, 0, none⟩ = some (.slice A0_0 l0_0.length c0_0) := (blk_cell hhr 0).trans rfl
  have hb1 : wb.cell? ⟨w.heap.size, 1, none⟩ = some (.slice A0_1 l0_1.length c0_1) := (blk_cell hhr 1).trans rfl
  have hbs : w.heap.size < wb.heap.size := blk_lt hhr
  have HW := Aside0.mk hwb
  clear hwb hhr
  by_cases hc : t < 0
  · rw [if_pos hc] at H
    obtain rfl : r = true := (Option.some.inj H).symm
    clear H
    go_enter Try.func10, Try.ntmps10
    go_upto_region 1 with (fail)
    try rw [HW.out]
    clear HW
    go_wp2_with (go_at_call 11; (with_reducible refine (laws_szRecord.calls _ _ l0_0 _ _ l0_1 _ t _ (Kd.C_below HR0.out (by repeat (first | exact HBw.out | exact Below.refl _ _ | apply below_alloc | apply pw_below_drewN | apply below_drew1))) HC0.out (Kd.C_below HR1.out (by repeat (first | exact HBw.out | exact Below.refl _ _ | apply below_alloc | apply pw_below_drewN | apply below_drew1))) HC1.out HT.out).mono ?_); rintro e w1 ⟨rfl, hb⟩; have HBw : Aside0 (Below w.heap.size w w1) := Aside0.mk (below_chain (w := w) (by repeat (first | exact HBw.out | exact Below.refl _ _ | apply below_alloc | apply pw_below_drewN | apply below_drew1)) hb); have hb0 := pw_cell_below hb hb0; have hb1 := pw_cell_below hb hb1; clear hb)
    go_ret
    exact ⟨rfl, (by repeat (first | exact HBw.out | exact Below.refl _ _ | apply below_alloc | apply pw_below_drewN | apply below_drew1))⟩
  · rw [if_neg hc] at H
    obtain ⟨ou, hou⟩ : ∃ o, laws_szPhaseS.f k l1 t = o := ⟨_, rfl⟩
    rw [hou] at H
    cases ou with
    | none => cases H
    | some u =>
    have HU := Aside0.mk hou
    rw [Option.bind_some] at H
    clear hou
    by_cases hcu : u < 0
    · rw [if_pos hcu] at H
      obtain rfl : r = true := (Option.some.inj H).symm
      clear H
      go_enter Try.func10, Try.ntmps10
      go_upto_region 1 with (fail)
      try rw [HW.out]
      clear HW
      go_wp2_with (first | (go_at_call 11; (with_reducible refine (laws_szRecord.calls _ _ l0_0 _ _ l0_1 _ t _ (Kd.C_below HR0.out (by repeat (first | exact HBw.out | exact Below.refl _ _ | apply below_alloc | apply pw_below_drewN | apply below_drew1))) HC0.out (Kd.C_below HR1.out (by repeat (first | exact HBw.out | exact Below.refl _ _ | apply below_alloc | apply pw_below_drewN | apply below_drew1))) HC1.out HT.out).mono ?_); rintro e w1 ⟨rfl, hb⟩; have HBw : Aside0 (Below w.heap.size w w1) := Aside0.mk (below_chain (w := w) (by repeat (first | exact HBw.out | exact Below.refl _ _ | apply below_alloc | apply pw_below_drewN | apply below_drew1)) hb); have hb0 := pw_cell_below hb hb0; have hb1 := pw_cell_below hb hb1; clear hb) | (go_at_call 12; (with_reducible refine (laws_szPhaseS.calls k _ _ l1 t u _ (Kd.C_below HP1.out (by repeat (first | exact HBw.out | exact Below.refl _ _ | apply below_alloc | apply pw_below_drewN | apply below_drew1))) HPC.out HU.out).mono ?_); rintro e w1 ⟨rfl, hb⟩; have HBw : Aside0 (Below w.heap.size w w1) := Aside0.mk (below_chain (w := w) (by repeat (first | exact HBw.out | exact Below.refl _ _ | apply below_alloc | apply pw_below_drewN | apply below_drew1)) hb); have hb0 := pw_cell_below hb hb0; have hb1 := pw_cell_below hb hb1; clear hb))
      go_ret
      exact ⟨rfl, (by repeat (first | exact HBw.out | exact Below.refl _ _ | apply below_alloc | apply pw_below_drewN | apply below_drew1))⟩
    · rw [if_neg hcu] at H
      obtain ⟨op, hop⟩ : ∃ o, laws_toPhaseS.f k l1 = o := ⟨_, rfl⟩
      rw [hop] at H
      cases op with
      | none => cases H
      | some ps =>
      have HKP := Aside0.mk hop
      obtain ⟨kp, hkp⟩ : ∃ q, q = k := ⟨_, rfl⟩
      rw [← hkp] at HKP
      rw [Option.bind_some] at H
      clear hop hkp
      obtain ⟨cs, hcs⟩ : ∃ cs, l0_0.map LB.cvC = cs := ⟨_, rfl⟩
      obtain ⟨rs, hrs⟩ : ∃ rs, l0_1.map LB.cvR = rs := ⟨_, rfl⟩
      rw [hcs, hrs] at H
      obtain ⟨o, ho⟩ : ∃ o, impl_MergePhases.f cs rs ps a2 a3 = o := ⟨_, rfl⟩
      rw [ho] at H
      cases o with
      | none => cases H
      | some A =>
      obtain ⟨os, hos⟩ : ∃ o, spec_MergePhases.f k cs rs ps a2 a3 = o := ⟨_, rfl⟩
      simp only [hos] at H
      cases os with
      | none => cases H
      | some A' =>
      rw [Option.bind_some] at H
      obtain ⟨oq, hoq⟩ : ∃ o, laws_eqPhaseS.f k ps ps = o := ⟨_, rfl⟩
      rw [hoq] at H
      cases oq with
      | none => cases H
      | some q0 =>
      rw [Option.bind_some] at H
      have H2 : q0 = true ∧ A' = A ∧ laws_FnExactMergePhases.Ok l0_0 l0_1 ps ∧ A.1.length ≤ 1000 ∧ (∀ r ∈ A.1, r.f1.length ≤ 1000) := by
        by_cases hx : q0 = true ∧ A' = A ∧ laws_FnExactMergePhases.Ok l0_0 l0_1 ps ∧ A.1.length ≤ 1000 ∧ (∀ r ∈ A.1, r.f1.length ≤ 1000)
        · exact hx
        · rw [if_neg hx] at H
          cases H
      rw [if_pos H2] at H
      obtain rfl : r = true := (Option.some.inj H).symm
      obtain ⟨rfl, rfl, ⟨hl0, hl1, hlp, htp⟩, hsl⟩ := H2
      obtain ⟨xs, bb⟩ := A'
      obtain ⟨k1, hk1⟩ := Ev.rounds (LB.toRecord_ev l0_0 l0_1 hl0 hl1)
      have hcl : cs.length ≤ 1048576 := by rw [← hcs, List.length_map]; exact hl0
      have hrl : rs.length ≤ 1048576 := by rw [← hrs, List.length_map]; exact hl1
      rw [hcs, hrs] at hk1
      obtain ⟨k2, hk2⟩ := Ev.rounds (LB.eqRecord_ev cs rs hcl hrl)
      obtain ⟨mm, mx_, my_, hmm, hmm2, hmk⟩ := LB.markRecord_ev cs rs 1 hcl hrl (by omega) (by omega)
      obtain ⟨k3, hk3⟩ := Ev.rounds hmk
      obtain ⟨hsl', hsr⟩ : xs.length ≤ 1000 ∧ (∀ r ∈ xs, r.f1.length ≤ 1000) := hsl
      obtain ⟨k4, hk4⟩ := Ev.rounds (LB.eqPhaseS_ev xs (by omega) (fun r hr => by have := hsr r hr; omega))
      obtain ⟨k6, hk6⟩ := Ev.rounds (LB.heldPhaseS_ev xs hsl' hsr)
      obtain ⟨qq, hqq⟩ : ∃ q, 1 + (LB.totPH xs : Int) = q := ⟨_, rfl⟩
      have HSR := Aside0.mk hsr
      obtain ⟨ms, hms⟩ : ∃ m, LB.mkPH 0 xs = m := ⟨_, rfl⟩
      have HML := Aside0.mk (show ms.length = xs.length from by rw [← hms]; exact LB.mkPH_len _ _)
      rw [hms, hqq] at hk6
      have HMS := Aside0.mk hms
      have HQQ := Aside0.mk hqq
      clear hsr
      have HSP := Aside0.mk hos
      have HIM := Aside0.mk ho
      have HKE := Aside0.mk hoq
      have HK1 := Aside0.mk hk1
      have HK2 := Aside0.mk hk2
      have HK3 := Aside0.mk hk3
      have HK4 := Aside0.mk hk4
      have HK6 := Aside0.mk hk6
      have HSL := Aside0.mk hsl'
      have HLP := Aside0.mk hlp
      have HTP := Aside0.mk htp
      have HM1 := Aside0.mk hmm
      have HM2 := Aside0.mk hmm2
      obtain ⟨mp, hmp⟩ : ∃ q, mm + (LB.totPH ps : Int) = q := ⟨_, rfl⟩
      have HMP := Aside0.mk hmp
      have hm0 : ¬ mp < 0 := by omega
      have hq0 : ¬ qq < 0 := by omega
      have hne : (bb != bb) = false := bne_self_eq_false bb
      have hqe : (qq != qq) = false := bne_self_eq_false qq
      clear H hcs hrs hcl hrl hos ho hoq hk1 hk2 hk3 hk4 hk6 hmk hmm hmm2 hsl' hqq hl0 hl1 hlp htp hmp hms
      go_enter Try.func10, Try.ntmps10
      go_upto_region 1 with (fail)
      try rw [HW.out]
      clear HW
      go_upto_region 8 with (first | (go_at_call 11; (with_reducible refine (laws_szRecord.calls _ _ l0_0 _ _ l0_1 _ t _ (Kd.C_below HR0.out (by repeat (first | exact HBw.out | exact Below.refl _ _ | apply below_alloc | apply pw_below_drewN | apply below_drew1))) HC0.out (Kd.C_below HR1.out (by repeat (first | exact HBw.out | exact Below.refl _ _ | apply below_alloc | apply pw_below_drewN | apply below_drew1))) HC1.out HT.out).mono ?_); rintro e w1 ⟨rfl, hb⟩; have HBw : Aside0 (Below w.heap.size w w1) := Aside0.mk (below_chain (w := w) (by repeat (first | exact HBw.out | exact Below.refl _ _ | apply below_alloc | apply pw_below_drewN | apply below_drew1)) hb); have hb0 := pw_cell_below hb hb0; have hb1 := pw_cell_below hb hb1; clear hb) | (go_at_call 12; (with_reducible refine (laws_szPhaseS.calls k _ _ l1 t u _ (Kd.C_below HP1.out (by repeat (first | exact HBw.out | exact Below.refl _ _ | apply below_alloc | apply pw_below_drewN | apply below_drew1))) HPC.out HU.out).mono ?_); rintro e w1 ⟨rfl, hb⟩; have HBw : Aside0 (Below w.heap.size w w1) := Aside0.mk (below_chain (w := w) (by repeat (first | exact HBw.out | exact Below.refl _ _ | apply below_alloc | apply pw_below_drewN | apply below_drew1)) hb); have hb0 := pw_cell_below hb hb0; have hb1 := pw_cell_below hb hb1; clear hb))
      clear hc hcu
      go_upto_region 9 with (first | (go_at_call 14; (refine (laws_toRecord.calls k1 _ _ l0_0 _ _ l0_1 cs rs _ (Kd.C_below HR0.out (by repeat (first | exact HBw.out | exact Below.refl _ _ | apply below_alloc | apply pw_below_drewN | apply below_drew1))) HC0.out (Kd.C_below HR1.out (by repeat (first | exact HBw.out | exact Below.refl _ _ | apply below_alloc | apply pw_below_drewN | apply below_drew1))) HC1.out HK1.out).mono ?_); rintro e w2 ⟨v0, v1, rfl, hR0, hR1, hb⟩; obtain ⟨vA, vc, rfl, hd0, hC0⟩ := Kd.R_reads hR0; obtain ⟨vB, vd, rfl, hd1, hC1⟩ := Kd.R_reads hR1; have HX0 := Aside0.mk hC0; have HX1 := Aside0.mk hC1; have HD0 := Aside0.mk hd0; have HD1 := Aside0.mk hd1; have HBw : Aside0 (Below w.heap.size w w2) := Aside0.mk (below_chain (w := w) (by repeat (first | exact HBw.out | exact Below.refl _ _ | apply below_alloc | apply pw_below_drewN | apply below_drew1)) hb); have hb0 := pw_cell_below hb hb0; have hb1 := pw_cell_below hb hb1; clear hR0 hR1 hC0 hC1 hd0 hd1 hb) | (go_at_call 15; (refine (laws_toPhaseS.calls kp _ _ l1 ps _ (Kd.C_below HP1.out (by repeat (first | exact HBw.out | exact Below.refl _ _ | apply below_alloc | apply pw_below_drewN | apply below_drew1))) HPC.out HKP.out).mono ?_); rintro e w2 ⟨v2, rfl, hR2, hb⟩; obtain ⟨vP, vq, rfl, hd2, hC2⟩ := Kd.S_reads hR2; have HX0 := Aside0.mk (Kd.C_below HX0.out hb); have HX1 := Aside0.mk (Kd.C_below HX1.out hb); have HXQ := Aside0.mk hC2; have HDP := Aside0.mk hd2; have HBw : Aside0 (Below w.heap.size w w2) := Aside0.mk (below_chain (w := w) (by repeat (first | exact HBw.out | exact Below.refl _ _ | apply below_alloc | apply pw_below_drewN | apply below_drew1)) hb); have hb0 := pw_cell_below hb hb0; have hb1 := pw_cell_below hb hb1; clear hR2 hC2 hd2 hb) | (go_at_call 37; (refine (spec_MergePhases.calls k _ _ cs _ _ rs _ _ ps a2 a3 xs bb _ HX0.out HD0.out HX1.out HD1.out HXQ.out HDP.out HSP.out).mono ?_); rintro e w3 ⟨v2, rfl, hS, hb⟩; obtain ⟨A2, c2, rfl, hc2, hC2⟩ := Kd.R_reads hS; have HW0 := Aside0.mk hC2; have HC2 := Aside0.mk hc2; have HBw : Aside0 (Below w.heap.size w w3) := Aside0.mk (below_chain (w := w) (by repeat (first | exact HBw.out | exact Below.refl _ _ | apply below_alloc | apply pw_below_drewN | apply below_drew1)) hb); have hb0 := pw_cell_below hb hb0; have hb1 := pw_cell_below hb hb1; clear hS hc2 hC2 hb))
      clear HX0 HX1 HD0 HD1 HXQ HDP
      obtain ⟨wa, rfl⟩ : ∃ x, x = w3 := ⟨_, rfl⟩
      have HA := Aside0.mk (Below.refl wa.heap.size wa)
      have HBwa := HBw
      clear HBw
      have HB0a := Aside0.mk hb0
      have HB1a := Aside0.mk hb1
      go_upto_region 10 with (go_at_call 14; (refine (laws_toRecord.calls k1 _ _ l0_0 _ _ l0_1 cs rs _ (Kd.C_below HR0.out (below_chain HBwa.out (by repeat (first | exact HA.out | exact Below.refl _ _ | apply below_alloc | apply pw_below_drewN | apply below_drew1)))) HC0.out (Kd.C_below HR1.out (below_chain HBwa.out (by repeat (first | exact HA.out | exact Below.refl _ _ | apply below_alloc | apply pw_below_drewN | apply below_drew1)))) HC1.out HK1.out).mono ?_); rintro e w4 ⟨u0, u1, rfl, hR0, hR1, hb⟩; obtain ⟨uA, uc, rfl, hd0, hC0⟩ := Kd.R_reads hR0; obtain ⟨uB, ud, rfl, hd1, hC1⟩ := Kd.R_reads hR1; have HX0 := Aside0.mk (Kd.R_lower hR0 HA.out.size); have HX1 := Aside0.mk (Kd.R_lower hR1 HA.out.size); have HD0 := Aside0.mk hd0; have HD1 := Aside0.mk hd1; have HA := Aside0.mk (below_chain (w := wa) (by repeat (first | exact HA.out | exact Below.refl _ _ | apply below_alloc | apply pw_below_drewN | apply below_drew1)) hb); have hb0 := pw_cell_below hb hb0; have hb1 := pw_cell_below hb hb1; clear hR0 hR1 hC0 hC1 hd0 hd1; clear hb)
      have hal := below_alloc (Below.refl w4.heap.size w4) (.cells #[.slice uA cs.length uc, .slice uB rs.length ud] 33 (0, 0))
      have BK := Aside0.mk (blk_new w4 (.cells #[.slice uA cs.length uc, .slice uB rs.length ud] 33 (0, 0)))
      have HX0 := Aside0.mk (Kd.R_mono (ok' := fun k => k < w4.heap.size) (Kd.R_below (Kd.R_bound HX0.out) hal) (fun k hk => hk.2.2.1))
      have HX1 := Aside0.mk (Kd.R_mono (ok' := fun k => k < w4.heap.size) (Kd.R_below (Kd.R_bound HX1.out) hal) (fun k hk => hk.2.2.1))
      have HA := Aside0.mk (below_chain (w := wa) HA.out hal)
      have hb0 := pw_cell_below hal hb0
      have hb1 := pw_cell_below hal hb1
      have HSZ := Aside0.mk (show (w4.alloc (.cells #[.slice uA cs.length uc, .slice uB rs.length ud] 33 (0, 0))).heap.size = w4.heap.size + 1 from by simp)
      obtain ⟨gx, hgx⟩ : ∃ g, w4.heap.size = g := ⟨_, rfl⟩
      generalize w4.alloc (.cells #[.slice uA cs.length uc, .slice uB rs.length ud] 33 (0, 0)) = wq at hal BK HX0 HX1 HA hb0 hb1 HSZ ⊢
      rw [hgx] at BK HX0 HX1 HSZ
      try rw [hgx]
      clear hal hgx
      have hz0 : wq.cell? ⟨gx, 0, none⟩ = some (.slice uA cs.length uc) := (blk_cell BK.out 0).trans rfl
      have hz1 : wq.cell? ⟨gx, 1, none⟩ = some (.slice uB rs.length ud) := (blk_cell BK.out 1).trans rfl
      clear BK
      go_upto_region 11 with (go_at_call 15; (refine (laws_toPhaseS.calls kp _ _ l1 ps _ (Kd.C_below HP1.out (below_chain HBwa.out (by repeat (first | exact HA.out | exact Below.refl _ _ | apply below_alloc | apply pw_below_drewN | apply below_drew1)))) HPC.out HKP.out).mono ?_); rintro e w5 ⟨p2, rfl, hR2, hb⟩; obtain ⟨pP, pq, rfl, hd2, hC2⟩ := Kd.S_reads hR2; have HXP := Aside0.mk (Kd.S_lower (Kd.S_mono (ok' := fun k => gx < k ∧ k < w5.heap.size) (Kd.S_bound hR2) (fun k hk => ⟨by have h1 := hk.2.1; have h2 := HSZ.out; omega, hk.2.2.1⟩)) HA.out.size); have HDP := Aside0.mk hd2; have HA := Aside0.mk (below_chain (w := wa) (by repeat (first | exact HA.out | exact Below.refl _ _ | apply below_alloc | apply pw_below_drewN | apply below_drew1)) hb); have hb0 := pw_cell_below hb hb0; have hb1 := pw_cell_below hb hb1; have hz0 := pw_cell_below hb hz0; have hz1 := pw_cell_below hb hz1; have HX0 := Aside0.mk (Kd.R_below HX0.out hb); have HX1 := Aside0.mk (Kd.R_below HX1.out hb); clear hR2 hC2 hd2; clear hb)
      clear HSZ
      obtain ⟨pA, rfl⟩ : ∃ x, x = pP := ⟨_, rfl⟩
      obtain ⟨pc, rfl⟩ : ∃ x, x = pq := ⟨_, rfl⟩
      obtain ⟨gy, hgy⟩ : ∃ g, w5.heap.size = g := ⟨_, rfl⟩
      have HGY := Aside0.mk hgy
      have GXY := Aside0.mk (show gx < gy from by rw [← hgy]; exact World.block_lt_of_cell? w5 _ hz0)
      rw [hgy] at HXP
      clear hgy
      go_upto_region 12 with (go_at_call 38; (refine (impl_MergePhases.calls _ _ cs _ _ rs _ _ ps a2 a3 xs bb _ (Kd.C_below (Kd.R_reads' HX0.out).2.2 (by repeat (first | exact Below.refl _ _ | apply below_alloc | apply pw_below_drewN | apply below_drew1))) HD0.out (Kd.C_below (Kd.R_reads' HX1.out).2.2 (by repeat (first | exact Below.refl _ _ | apply below_alloc | apply pw_below_drewN | apply below_drew1))) HD1.out (Kd.C_below (Kd.S_reads' HXP.out).2.2 (by repeat (first | exact Below.refl _ _ | apply below_alloc | apply pw_below_drewN | apply below_drew1))) HDP.out HIM.out).mono ?_); rintro e w6 ⟨v5, rfl, hS, hb⟩; obtain ⟨A5, c5, rfl, hc5, hC5⟩ := Kd.S_reads hS; have HC5 := Aside0.mk hc5; have HG := Aside0.mk (Kd.S_lower (Kd.S_mono (ok' := fun k => gy ≤ k) (Kd.S_bound hS) (fun k hk => by have h1 := hk.2.1; have h2 := HGY.out; omega)) HA.out.size); have HA := Aside0.mk (below_chain (w := wa) (by repeat (first | exact HA.out | exact Below.refl _ _ | apply below_alloc | apply pw_below_drewN | apply below_drew1)) hb); have hb0 := pw_cell_below hb hb0; have hb1 := pw_cell_below hb hb1; have hz0 := pw_cell_below hb hz0; have hz1 := pw_cell_below hb hz1; have HX0 := Aside0.mk (Kd.R_below HX0.out hb); have HX1 := Aside0.mk (Kd.R_below HX1.out hb); have HXP := Aside0.mk (Kd.S_below HXP.out hb); clear hS hc5 hC5; clear hb)
      have HGG := Aside0.mk (show ∀ k, gy ≤ k → k < gx → False from fun k h1 h2 => by have h5 := GXY.out; omega)
      clear HGY
      go_upto_region 14 with (go_at_call 18; (refine (laws_eqPhaseS.calls k4 _ _ xs _ _ xs true _ (Kd.C_below (Kd.S_reads' HG.out).2.2 (by repeat (first | exact Below.refl _ _ | apply below_alloc | apply pw_below_drewN | apply below_drew1))) HC5.out (Kd.C_below HW0.out (by repeat (first | exact HA.out | exact Below.refl _ _ | apply below_alloc | apply pw_below_drewN | apply below_drew1))) HC2.out HK4.out).mono ?_); rintro e w7 ⟨rfl, hd⟩; have hb := hd; clear hd; have HA := Aside0.mk (below_chain (w := wa) (by repeat (first | exact HA.out | exact Below.refl _ _ | apply below_alloc | apply pw_below_drewN | apply below_drew1)) hb); have hb0 := pw_cell_below hb hb0; have hb1 := pw_cell_below hb hb1; have hz0 := pw_cell_below hb hz0; have hz1 := pw_cell_below hb hz1; have HX0 := Aside0.mk (Kd.R_below HX0.out hb); have HX1 := Aside0.mk (Kd.R_below HX1.out hb); have HXP := Aside0.mk (Kd.S_below HXP.out hb); have HG := Aside0.mk (Kd.S_below HG.out hb); clear hb)
      have HS0 := Aside0.mk (show (fun w' => w'.cell? ⟨w.heap.size, 0, none⟩ = some (.slice A0_0 l0_0.length c0_0) ∧ w'.cell? ⟨w.heap.size, 1, none⟩ = some (.slice A0_1 l0_1.length c0_1) ∧ w'.cell? ⟨gx, 0, none⟩ = some (.slice uA cs.length uc) ∧ w'.cell? ⟨gx, 1, none⟩ = some (.slice uB rs.length ud) ∧ Aside0 (Below wa.heap.size wa w') ∧ Aside0 (Kd.R k77 77 w' wa.heap.size (fun k => k < gx) (.slice uA cs.length uc) cs) ∧ Aside0 (Kd.R k91 91 w' wa.heap.size (fun k => k < gx) (.slice uB rs.length ud) rs) ∧ Aside0 (Kd.S k64 64 w' wa.heap.size (fun k => gx < k ∧ k < gy) (.slice pA ps.length pc) ps) ∧ Aside0 (Kd.S k64 64 w' wa.heap.size (fun k => gy ≤ k) (.slice A5 xs.length c5) xs)) w7.drew from ⟨hb0, hb1, hz0, hz1, ⟨below_drew1 HA.out⟩, ⟨Kd.R_drew HX0.out⟩, ⟨Kd.R_drew HX1.out⟩, ⟨Kd.S_drew HXP.out⟩, ⟨Kd.S_drew HG.out⟩⟩)
      clear hb0 hb1 hz0 hz1 HA HX0 HX1 HXP HG
      all_goals refine start_ (n := 5) (S := (fun w' => w'.cell? ⟨w.heap.size, 0, none⟩ = some (.slice A0_0 l0_0.length c0_0) ∧ w'.cell? ⟨w.heap.size, 1, none⟩ = some (.slice A0_1 l0_1.length c0_1) ∧ w'.cell? ⟨gx, 0, none⟩ = some (.slice uA cs.length uc) ∧ w'.cell? ⟨gx, 1, none⟩ = some (.slice uB rs.length ud) ∧ Aside0 (Below wa.heap.size wa w') ∧ Aside0 (Kd.R k77 77 w' wa.heap.size (fun k => k < gx) (.slice uA cs.length uc) cs) ∧ Aside0 (Kd.R k91 91 w' wa.heap.size (fun k => k < gx) (.slice uB rs.length ud) rs) ∧ Aside0 (Kd.S k64 64 w' wa.heap.size (fun k => gx < k ∧ k < gy) (.slice pA ps.length pc) ps) ∧ Aside0 (Kd.S k64 64 w' wa.heap.size (fun k => gy ≤ k) (.slice A5 xs.length c5) xs))) (ds := []) (bl 0 5) (by kernel_rfl) rfl rfl HS0.out (fun hHeld => ?_); refine with_tabW laws_FnExactMergePhases.tab14 laws_FnExactMergePhases.bits14 (fun HT_ HW_ => ?_)
      all_goals generalize w7.drew = wv at hHeld ⊢
      all_goals first | refine tA_ 0 (some 62) (bl 1 5) HT_.out HW_.out hHeld (h := ?_) | refine pO_ 0 (some 62) (bl 1 5) HT_.out (h := ?_)
      all_goals first | refine tA_ 1 (some 63) (bl 2 5) HT_.out HW_.out hHeld (h := ?_) | refine pO_ 1 (some 63) (bl 2 5) HT_.out (h := ?_)
      all_goals first | refine pO_ 2 (some 64) (bl 3 5) HT_.out (h := ?_) | (refine one_ (i := 2) (N := some 64) (bl 3 5) rfl rfl (one_of HT_.out (by kernel_rfl)) (by decide) (fun K hK => ?_); refine goes_ Try.func14 (by kernel_rfl) rfl #[.agg #[.slice A0_0 l0_0.length c0_0, .slice A0_1 l0_1.length c0_1]] (by rfl) rfl rfl (by (try simp only [List.map_toArray, List.map_cons, List.map_nil]); first | done | rfl) ?_; with_reducible refine (laws_toRecord.calls k1 _ _ l0_0 _ _ l0_1 cs rs _ (Kd.C_below HR0.out (below_chain HBwa.out hHeld.2.2.2.2.1.out)) HC0.out (Kd.C_below HR1.out (below_chain HBwa.out hHeld.2.2.2.2.1.out)) HC1.out HK1.out).mono ?_; rintro e w8 ⟨x0, x1, rfl, hR0, hR1, hb⟩; obtain ⟨xA, xc, rfl, hd0, hC0⟩ := Kd.R_reads hR0; obtain ⟨xB, xd, rfl, hd1, hC1⟩ := Kd.R_reads hR1; have HY0 := Aside0.mk hC0; have HY1 := Aside0.mk hC1; have HE0 := Aside0.mk hd0; have HE1 := Aside0.mk hd1; clear hR0 hR1 hC0 hC1 hd0 hd1; refine ⟨_, rfl, ?_⟩; refine hK.out _ _ ⟨pw_cell_below hb hHeld.1, pw_cell_below hb hHeld.2.1, pw_cell_below hb hHeld.2.2.1, pw_cell_below hb hHeld.2.2.2.1, ⟨below_chain hHeld.2.2.2.2.1.out hb⟩, ⟨Kd.R_below hHeld.2.2.2.2.2.1.out hb⟩, ⟨Kd.R_below hHeld.2.2.2.2.2.2.1.out hb⟩, ⟨Kd.S_below hHeld.2.2.2.2.2.2.2.1.out hb⟩, ⟨Kd.S_below hHeld.2.2.2.2.2.2.2.2.out hb⟩⟩ (fun hHeld => ?_); clear hK K; refine norm_ (a' := ?_) ?_ ?_; rotate_left; (show Act.put _ (some 64) _ = _; simp only [Act.put, List.setIfInBounds_toArray, List.set_cons_zero, List.set_cons_succ, i64_w, i32_w]; rfl))
      all_goals first | refine pO_ 3 (some 65) (bl 4 5) HT_.out (h := ?_) | (refine one_ (i := 3) (N := some 65) (bl 4 5) rfl rfl (one_of HT_.out (by kernel_rfl)) (by decide) (fun K hK => ?_); refine goes_ Try.func17 (by kernel_rfl) rfl #[.agg #[.slice uA cs.length uc, .slice uB rs.length ud], .agg #[.slice xA cs.length xc, .slice xB rs.length xd]] (by rfl) rfl rfl (by (try simp only [List.map_toArray, List.map_cons, List.map_nil]); first | done | rfl) ?_; with_reducible refine (laws_eqRecord.calls k2 _ _ cs _ _ rs _ _ cs _ _ rs true _ (Kd.R_reads' hHeld.2.2.2.2.2.1.out).2.2 HD0.out (Kd.R_reads' hHeld.2.2.2.2.2.2.1.out).2.2 HD1.out HY0.out HE0.out HY1.out HE1.out HK2.out).mono ?_; rintro e w9 ⟨rfl, hb⟩; refine ⟨_, rfl, ?_⟩; refine hK.out _ _ ⟨pw_cell_below hb hHeld.1, pw_cell_below hb hHeld.2.1, pw_cell_below hb hHeld.2.2.1, pw_cell_below hb hHeld.2.2.2.1, ⟨below_chain hHeld.2.2.2.2.1.out hb⟩, ⟨Kd.R_below hHeld.2.2.2.2.2.1.out hb⟩, ⟨Kd.R_below hHeld.2.2.2.2.2.2.1.out hb⟩, ⟨Kd.S_below hHeld.2.2.2.2.2.2.2.1.out hb⟩, ⟨Kd.S_below hHeld.2.2.2.2.2.2.2.2.out hb⟩⟩ (fun hHeld => ?_); clear hK K; refine norm_ (a' := ?_) ?_ ?_; rotate_left; (show Act.put _ (some 65) _ = _; simp only [Act.put, List.setIfInBounds_toArray, List.set_cons_zero, List.set_cons_succ, i64_w, i32_w]; rfl))
      all_goals first | refine pA_ 4 (some 66) (bl 5 5) HT_.out (h := ?_) | refine pO_ 4 (some 66) (bl 5 5) HT_.out (h := ?_)
      all_goals refine done_ (done_of HT_.out (by kernel_rfl)) ?_
      obtain ⟨hb0, hb1, hz0, hz1, HA, HX0, HX1, HXP, HG⟩ := hHeld
      obtain ⟨wz, hwz⟩ : ∃ x, w9 = x := ⟨_, rfl⟩
      rw [hwz] at hb0 hb1 hz0 hz1 HA HX0 HX1 HXP HG ⊢
      clear hwz HS0 HY0 HY1 HE0 HE1
      go_upto_region 19 with (first | (go_at_call 15; (refine (laws_toPhaseS.calls kp _ _ l1 ps _ (Kd.C_below HP1.out (below_chain HBwa.out (by repeat (first | exact HA.out | exact Below.refl _ _ | apply below_alloc | apply pw_below_drewN | apply below_drew1)))) HPC.out HKP.out).mono ?_); rintro e w10 ⟨m2, rfl, hR2, hb⟩; obtain ⟨mP, mq, rfl, hd2, hC2⟩ := Kd.S_reads hR2; have HYP := Aside0.mk hC2; have HEP := Aside0.mk hd2; have HA := Aside0.mk (below_chain (w := wa) (by repeat (first | exact HA.out | exact Below.refl _ _ | apply below_alloc | apply pw_below_drewN | apply below_drew1)) hb); have hb0 := pw_cell_below hb hb0; have hb1 := pw_cell_below hb hb1; have hz0 := pw_cell_below hb hz0; have hz1 := pw_cell_below hb hz1; have HX0 := Aside0.mk (Kd.R_below HX0.out hb); have HX1 := Aside0.mk (Kd.R_below HX1.out hb); have HXP := Aside0.mk (Kd.S_below HXP.out hb); have HG := Aside0.mk (Kd.S_below HG.out hb); clear hR2 hC2 hd2; clear hb) | (go_at_call 18; (refine (laws_eqPhaseS.calls k _ _ ps _ _ ps true _ (Kd.C_below (Kd.S_reads' HXP.out).2.2 (by repeat (first | exact Below.refl _ _ | apply below_alloc | apply pw_below_drewN | apply below_drew1))) HDP.out (Kd.C_below HYP.out (by repeat (first | exact Below.refl _ _ | apply below_alloc | apply pw_below_drewN | apply below_drew1))) HEP.out HKE.out).mono ?_); rintro e w11 ⟨rfl, hb⟩; have HA := Aside0.mk (below_chain (w := wa) (by repeat (first | exact HA.out | exact Below.refl _ _ | apply below_alloc | apply pw_below_drewN | apply below_drew1)) hb); have hb0 := pw_cell_below hb hb0; have hb1 := pw_cell_below hb hb1; have hz0 := pw_cell_below hb hz0; have hz1 := pw_cell_below hb hz1; have HX0 := Aside0.mk (Kd.R_below HX0.out hb); have HX1 := Aside0.mk (Kd.R_below HX1.out hb); have HXP := Aside0.mk (Kd.S_below HXP.out hb); have HG := Aside0.mk (Kd.S_below HG.out hb); clear hb))
      clear HYP HEP
      go_upto_region 20 with (go_at_call 28; (refine (laws_markRecord.calls k3 (fun k => k < gx) _ cs (fun k => k < gx) _ rs 1 mm mx_ my_ wa _ (by repeat (first | exact HA.out | exact Below.refl _ _ | apply below_alloc | apply pw_below_drewN | apply below_drew1)) (by (with_reducible repeat (first | apply Kd.R_alloc | apply Kd.R_drewN | apply Kd.R_drew | apply Kd.S_alloc | apply Kd.S_drewN | apply Kd.S_drew)); exact HX0.out) (by (with_reducible repeat (first | apply Kd.R_alloc | apply Kd.R_drewN | apply Kd.R_drew | apply Kd.S_alloc | apply Kd.S_drewN | apply Kd.S_drew)); exact HX1.out) HK3.out).mono ?_); rintro e w12 ⟨rfl, _, _, hb, hkp⟩; have HXP := Aside0.mk (Kd.S_step HXP.out (fun k hk hlt => hkp.2 k hlt (fun h => by rcases h with h | h <;> omega))); have HG := Aside0.mk (Kd.S_bound HG.out); have HG := Aside0.mk (Kd.S_mono (ok' := fun k => gy ≤ k) (Kd.S_step HG.out (fun k hk hlt => hkp.2 k hlt (fun h => HGG.out k hk.1 (by rcases h with h | h <;> exact h)))) (fun k hk => hk.1)); have HA := Aside0.mk hb; clear hb hkp hz0 hz1 HX0 HX1)
      go_upto_region 21 with (go_at_call 29; (refine (laws_markPhaseS.callsA _ _ ps mm wa _ (by repeat (first | exact HA.out | exact Below.refl _ _ | apply below_alloc | apply pw_below_drewN | apply below_drew1)) (by (with_reducible repeat (first | apply Kd.R_alloc | apply Kd.R_drewN | apply Kd.R_drew | apply Kd.S_alloc | apply Kd.S_drewN | apply Kd.S_drew)); exact HXP.out) HM1.out HM2.out HLP.out HTP.out).mono ?_); rintro e w13 ⟨rfl, hb, hkp⟩; rw [HMP.out]; have HG := Aside0.mk (Kd.S_step HG.out (fun k hk hlt => hkp.2 k hlt (fun h => by omega))); have HA := Aside0.mk hb; clear hb hkp HXP)
      go_upto_region 24 with (go_at_call 18; (refine (laws_eqPhaseS.calls k4 _ _ xs _ _ xs true _ (Kd.C_below (Kd.S_reads' HG.out).2.2 (by repeat (first | exact Below.refl _ _ | apply below_alloc | apply pw_below_drewN | apply below_drew1))) HC5.out (Kd.C_below HW0.out (by repeat (first | exact HA.out | exact Below.refl _ _ | apply below_alloc | apply pw_below_drewN | apply below_drew1))) HC2.out HK4.out).mono ?_); rintro e w14 ⟨rfl, hd⟩; have hb := hd; clear hd; have HA := Aside0.mk (below_chain (w := wa) (by repeat (first | exact HA.out | exact Below.refl _ _ | apply below_alloc | apply pw_below_drewN | apply below_drew1)) hb); have HG := Aside0.mk (Kd.S_below HG.out hb); clear hb)
      have HHE := Aside0.mk (fun (W : World) (hC : Kd.C k64 W A5 xs.length ms) => show Calls Try.prog 39 #[.slice A5 xs.length c5, .int .i64 1] W (fun e w' => e = .returned (.int .i64 qq) ∧ Below W.heap.size W w') from by
        have h := laws_heldPhaseS.calls k6 A5 c5 ms 1 qq W (by rw [HML.out]; exact hC) (by rw [HML.out]; exact HC5.out) HK6.out
        rw [HML.out] at h
        exact h)
      go_upto_region 25 with (go_at_call 29; (refine (laws_markPhaseS.calls _ _ xs wa _ (by repeat (first | exact HA.out | exact Below.refl _ _ | apply below_alloc | apply pw_below_drewN | apply below_drew1)) (by (with_reducible repeat (first | apply Kd.R_alloc | apply Kd.R_drewN | apply Kd.R_drew | apply Kd.S_alloc | apply Kd.S_drewN | apply Kd.S_drew)); exact HG.out) HSL.out HSR.out).mono ?_); rintro e w15 ⟨rfl, hS, hb⟩; rw [HQQ.out]; rw [HMS.out] at hS; have HG := Aside0.mk hS; have HA := Aside0.mk hb; clear hS hb)
      go_upto_region 31 with (go_at_call 39; (refine (HHE.out _ (Kd.C_below (by have h := (Kd.S_reads' HG.out).2.2; rw [HML.out] at h; exact h) (by repeat (first | exact Below.refl _ _ | apply below_alloc | apply pw_below_drewN | apply below_drew1)))).mono ?_); rintro e w16 ⟨rfl, hb⟩; have HA := Aside0.mk (below_chain (w := wa) (by repeat (first | exact HA.out | exact Below.refl _ _ | apply below_alloc | apply pw_below_drewN | apply below_drew1)) hb); have HG := Aside0.mk (Kd.S_below HG.out hb); clear hb)
      have hb0 := (HA.out.cell (World.block_lt_of_cell? wa _ HB0a.out)).trans HB0a.out
      have hb1 := (HA.out.cell (World.block_lt_of_cell? wa _ HB1a.out)).trans HB1a.out
      go_upto_region 32 with (first | (go_at_call 14; (refine (laws_toRecord.calls k1 _ _ l0_0 _ _ l0_1 cs rs _ (Kd.C_below HR0.out (below_chain HBwa.out (by repeat (first | exact HA.out | exact Below.refl _ _ | apply below_alloc | apply pw_below_drewN | apply below_drew1)))) HC0.out (Kd.C_below HR1.out (below_chain HBwa.out (by repeat (first | exact HA.out | exact Below.refl _ _ | apply below_alloc | apply pw_below_drewN | apply below_drew1)))) HC1.out HK1.out).mono ?_); rintro e w17 ⟨y0, y1, rfl, hR0, hR1, hb⟩; obtain ⟨yA, yc, rfl, hd0, hC0⟩ := Kd.R_reads hR0; obtain ⟨yB, yd, rfl, hd1, hC1⟩ := Kd.R_reads hR1; have HX0 := Aside0.mk hC0; have HX1 := Aside0.mk hC1; have HD0 := Aside0.mk hd0; have HD1 := Aside0.mk hd1; have HA := Aside0.mk (below_chain (w := wa) (by repeat (first | exact HA.out | exact Below.refl _ _ | apply below_alloc | apply pw_below_drewN | apply below_drew1)) hb); have hb0 := pw_cell_below hb hb0; have hb1 := pw_cell_below hb hb1; have HG := Aside0.mk (Kd.S_below HG.out hb); clear hR0 hR1 hC0 hC1 hd0 hd1; clear hb) | (go_at_call 15; (refine (laws_toPhaseS.calls kp _ _ l1 ps _ (Kd.C_below HP1.out (below_chain HBwa.out (by repeat (first | exact HA.out | exact Below.refl _ _ | apply below_alloc | apply pw_below_drewN | apply below_drew1)))) HPC.out HKP.out).mono ?_); rintro e w18 ⟨z2, rfl, hR2, hb⟩; obtain ⟨zP, zq, rfl, hd2, hC2⟩ := Kd.S_reads hR2; have HX0 := Aside0.mk (Kd.C_below HX0.out hb); have HX1 := Aside0.mk (Kd.C_below HX1.out hb); have HXQ := Aside0.mk hC2; have HDP := Aside0.mk hd2; have HA := Aside0.mk (below_chain (w := wa) (by repeat (first | exact HA.out | exact Below.refl _ _ | apply below_alloc | apply pw_below_drewN | apply below_drew1)) hb); have hb0 := pw_cell_below hb hb0; have hb1 := pw_cell_below hb hb1; have HG := Aside0.mk (Kd.S_below HG.out hb); clear hR2 hC2 hd2; clear hb) | (go_at_call 38; (refine (impl_MergePhases.calls _ _ cs _ _ rs _ _ ps a2 a3 xs bb _ (Kd.C_below HX0.out (by repeat (first | exact Below.refl _ _ | apply below_alloc | apply pw_below_drewN | apply below_drew1))) HD0.out (Kd.C_below HX1.out (by repeat (first | exact Below.refl _ _ | apply below_alloc | apply pw_below_drewN | apply below_drew1))) HD1.out (Kd.C_below HXQ.out (by repeat (first | exact Below.refl _ _ | apply below_alloc | apply pw_below_drewN | apply below_drew1))) HDP.out HIM.out).mono ?_); rintro e w19 ⟨v6, rfl, hS, hb⟩; obtain ⟨A6, c6, rfl, hc6, hC6⟩ := Kd.S_reads hS; have HC6 := Aside0.mk hc6; have HG6 := Aside0.mk hS; have HA := Aside0.mk (below_chain (w := wa) (by repeat (first | exact HA.out | exact Below.refl _ _ | apply below_alloc | apply pw_below_drewN | apply below_drew1)) hb); have HG := Aside0.mk (Kd.S_below HG.out hb); clear hS hc6 hC6; clear hb))
      clear hb0 hb1
      go_upto_region 34 with (go_at_call 18; (refine (laws_eqPhaseS.calls k4 _ _ xs _ _ xs true _ (Kd.C_below (Kd.S_reads' HG6.out).2.2 (by repeat (first | exact Below.refl _ _ | apply below_alloc | apply pw_below_drewN | apply below_drew1))) HC6.out (Kd.C_below HW0.out (by repeat (first | exact HA.out | exact Below.refl _ _ | apply below_alloc | apply pw_below_drewN | apply below_drew1))) HC2.out HK4.out).mono ?_); rintro e w20 ⟨rfl, hd⟩; have hb := hd; clear hd; have HA := Aside0.mk (below_chain (w := wa) (by repeat (first | exact HA.out | exact Below.refl _ _ | apply below_alloc | apply pw_below_drewN | apply below_drew1)) hb); have HG := Aside0.mk (Kd.S_below HG.out hb); clear hb)
      go_wp2_with (go_at_call 39; (refine (HHE.out _ (Kd.C_below (by have h := (Kd.S_reads' HG.out).2.2; rw [HML.out] at h; exact h) (by repeat (first | exact Below.refl _ _ | apply below_alloc | apply pw_below_drewN | apply below_drew1)))).mono ?_); rintro e w21 ⟨rfl, hb⟩; have HA := Aside0.mk (below_chain (w := wa) (by repeat (first | exact HA.out | exact Below.refl _ _ | apply below_alloc | apply pw_below_drewN | apply below_drew1)) hb); clear hb)
      go_ret
      exact ⟨rfl, below_chain HBwa.out HA.out⟩

end Go.Proofs.Ytenphfagdpkjaaa.Q

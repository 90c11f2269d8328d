-- Written by a program of this session (wip/xprint.py over the kit's printer).
import Derived.Test.YtlmdmnenljmdgaaQ0
import Derived.Test.YtlmdmnenljmdgaaQB0
import Derived.Test.YtlmdmnenljmdgaaQB1
import Derived.Test.YtlmdmnenljmdgaaQF22
import Derived.Test.YtlmdmnenljmdgaaQF23
import Derived.Test.YtlmdmnenljmdgaaQLBBaseB
import Derived.Test.YtlmdmnenljmdgaaQLBBaseHeldC
import Derived.Test.YtlmdmnenljmdgaaQLBBaseHeldR
import Derived.Test.YtlmdmnenljmdgaaQLBBaseMark
import Derived.Test.YtlmdmnenljmdgaaQLBBaseRec
import Derived.Test.YtlmdmnenljmdgaaQM0
import Derived.Test.YtlmdmnenljmdgaaQM1
import Derived.Test.YtlmdmnenljmdgaaQP
namespace Go.Proofs.Ytlmdmnenljmdgaa.Q
open Go.RowKit Go.Proofs.YtlmdmnenljmdgaaW.PrintWords Go.Proofs.YtlmdmnenljmdgaaW.PrintLast
set_option linter.unusedVariables false
set_option linter.unusedSimpArgs false

/-! ### laws_FnExactRenumberContext: function 6 -/
instance laws_FnExactRenumberContext.decC : DecidableEq S44 := fun a b => if h : a.f0 = b.f0 ∧ a.f1 = b.f1 then isTrue (by cases a; cases b; obtain ⟨h1, h2⟩ := h; simp only at h1 h2; rw [h1, h2]) else isFalse (fun e => h (by rw [e]; exact ⟨rfl, rfl⟩))
instance laws_FnExactRenumberContext.decR : DecidableEq S36 := fun a b => if h : a.f0 = b.f0 ∧ a.f1 = b.f1 then isTrue (by cases a; cases b; obtain ⟨h1, h2⟩ := h; simp only at h1 h2; rw [h1, h2]) else isFalse (fun e => h (by rw [e]; exact ⟨rfl, rfl⟩))
def laws_FnExactRenumberContext.f (k : Nat) (l0_0 : List S42) (l0_1 : List S27) (a1 a2 : Int) : Option Bool :=
  if 1048576 < l0_0.length ∨ 1048576 < l0_1.length then some true else
  match impl_RenumberContext.f (l0_0.map LB.cvC) (l0_1.map LB.cvR) a1 a2 with
  | none => none
  | some A => if spec_RenumberContext.f k (l0_0.map LB.cvC) (l0_1.map LB.cvR) a1 a2 = some A ∧ A.1.length ≤ 1000 ∧ A.2.1.length ≤ 1000 then some true else none
def laws_FnExactRenumberContext.T10 : Bool × List (List Nat × List Nat) := (true, [([], []), ([], []), ([1], [1]), ([0, 2, 2], [0, 2]), ([3], [3])])
def laws_FnExactRenumberContext.B10 : List Nat := [0, 0, 2, 7, 15]
theorem laws_FnExactRenumberContext.tab10 : rtab .any (opsOf Try.f6 10) = laws_FnExactRenumberContext.T10 := by kernel_rfl
theorem laws_FnExactRenumberContext.bits10 : waitsOk laws_FnExactRenumberContext.T10.2 laws_FnExactRenumberContext.B10 = true := by kernel_rfl
set_option maxHeartbeats 16000000 in
set_option maxRecDepth 100000 in
theorem laws_FnExactRenumberContext.calls (k : Nat) (A0_0 : Option Addr) (c0_0 : Nat) (l0_0 : List S42) (A0_1 : Option Addr) (c0_1 : Nat) (l0_1 : List S27) (a1 a2 : Int) (r : Bool) (w : World) (hr0_0 : Kd.C k42 w A0_0 l0_0.length l0_0) (hc0_0 : l0_0.length ≤ c0_0) (hr0_1 : Kd.C k27 w A0_1 l0_1.length l0_1) (hc0_1 : l0_1.length ≤ c0_1) (h : laws_FnExactRenumberContext.f k l0_0 l0_1 a1 a2 = some r) :
    Calls Try.prog 6 #[.agg #[.slice A0_0 l0_0.length c0_0, .slice A0_1 l0_1.length c0_1], .int .i64 a1, .int .i64 a2] w fun e w' => e = .returned (.bool r) ∧ Below w.heap.size w w' := by
  obtain ⟨t, ht, hc⟩ := LB.szRecord_eq l0_0 l0_1 hr0_0.2.1 hr0_1.2.1
  have HT := Aside0.mk ht
  clear ht
  have H := h
  unfold laws_FnExactRenumberContext.f at H
  clear h
  have HR0 := Aside0.mk hr0_0
  have HR1 := Aside0.mk hr0_1
  have HC0 := Aside0.mk hc0_0
  have HC1 := Aside0.mk hc0_1
  clear hr0_0 hr0_1 hc0_0 hc0_1
  obtain ⟨wb, hwb⟩ : ∃ wb, (w).alloc (.cells #[.slice A0_0 l0_0.length c0_0, .slice A0_1 l0_1.length c0_1] 25 (0, 0)) = wb := ⟨_, rfl⟩
  have HBw := Aside0.mk (show Below w.heap.size w wb from by rw [← hwb]; repeat (first | exact Below.refl _ _ | apply below_alloc))
  have HWB := HBw
  have hhr : wb.heap[w.heap.size]? = some (.cells #[.slice A0_0 l0_0.length c0_0, .slice A0_1 l0_1.length c0_1] 25 (0, 0)) := by rw [← hwb]; have h := blk_new (w) (.cells #[.slice A0_0 l0_0.length c0_0, .slice A0_1 l0_1.length c0_1] 25 (0, 0)); rw [show (w).heap.size = w.heap.size from by rfl] at h; exact h
  have hb0 : wb.cell? ⟨w.heap.size, 0, none⟩ = some (.slice A0_0 l0_0.length c0_0) := (blk_cell hhr 0).trans rfl
  have hb1 : wb.cell? ⟨w.heap.size, 1, none⟩ = some (.slice A0_1 l0_1.length c0_1) := (blk_cell hhr 1).trans rfl
  have hbs : w.heap.size < wb.heap.size := blk_lt hhr
  have HW := Aside0.mk hwb
  clear hwb hhr
  rcases hc with hc | ⟨ht0, _, hl0, hl1⟩
  · obtain rfl : r = true := by
      split at H
      · exact (Option.some.inj H).symm
      · split at H
        · cases H
        · split at H
          · exact (Option.some.inj H).symm
          · cases H
    clear H
    go_enter Try.func6, Try.ntmps6
    go_upto_region 1 with (fail)
    try rw [HW.out]
    clear HW
    go_wp2_with (go_at_call 9; (with_reducible refine (laws_szRecord.calls _ _ l0_0 _ _ l0_1 _ t _ (Kd.C_below HR0.out (by repeat (first | exact HBw.out | exact Below.refl _ _ | apply below_alloc | apply pw_below_drewN | apply below_drew1))) HC0.out (Kd.C_below HR1.out (by repeat (first | exact HBw.out | exact Below.refl _ _ | apply below_alloc | apply pw_below_drewN | apply below_drew1))) HC1.out HT.out).mono ?_); rintro e w1 ⟨rfl, hb⟩; have HBw : Aside0 (Below w.heap.size w w1) := Aside0.mk (below_chain (w := w) (by repeat (first | exact HBw.out | exact Below.refl _ _ | apply below_alloc | apply pw_below_drewN | apply below_drew1)) hb); have hb0 := pw_cell_below hb hb0; clear hb)
    go_ret
    exact ⟨rfl, (by repeat (first | exact HBw.out | exact Below.refl _ _ | apply below_alloc | apply pw_below_drewN | apply below_drew1))⟩
  · have hc : ¬ t < 0 := by omega
    rw [if_neg (by omega)] at H
    obtain ⟨cs, hcs⟩ : ∃ cs, l0_0.map LB.cvC = cs := ⟨_, rfl⟩
    obtain ⟨rs, hrs⟩ : ∃ rs, l0_1.map LB.cvR = rs := ⟨_, rfl⟩
    obtain ⟨k1, hk1⟩ := Ev.rounds (LB.toRecord_ev l0_0 l0_1 hl0 hl1)
    have hcl : cs.length ≤ 1048576 := by rw [← hcs, List.length_map]; exact hl0
    have hrl : rs.length ≤ 1048576 := by rw [← hrs, List.length_map]; exact hl1
    rw [hcs, hrs] at H hk1
    obtain ⟨o, ho⟩ : ∃ o, impl_RenumberContext.f cs rs a1 a2 = o := ⟨_, rfl⟩
    rw [ho] at H
    cases o with
    | none => cases H
    | some A =>
    obtain ⟨rc, rr, bb⟩ := A
    have H2 : spec_RenumberContext.f k cs rs a1 a2 = some (rc, rr, bb) ∧ rc.length ≤ 1000 ∧ rr.length ≤ 1000 := by
      by_cases hx : spec_RenumberContext.f k cs rs a1 a2 = some (rc, rr, bb) ∧ rc.length ≤ 1000 ∧ rr.length ≤ 1000
      · exact hx
      · simp only [if_neg hx] at H
        cases H
    obtain ⟨hsp, hsc, hsr⟩ := H2
    obtain rfl : r = true := by
      simp only [if_pos (show spec_RenumberContext.f k cs rs a1 a2 = some (rc, rr, bb) ∧ rc.length ≤ 1000 ∧ rr.length ≤ 1000 from ⟨hsp, hsc, hsr⟩)] at H
      exact (Option.some.inj H).symm
    obtain ⟨k2, hk2⟩ := Ev.rounds (LB.eqRecord_ev cs rs hcl hrl)
    obtain ⟨mm, mx_, my_, hmm, _, hmk⟩ := LB.markRecord_ev cs rs 1 hcl hrl (by omega) (by omega)
    obtain ⟨k3, hk3⟩ := Ev.rounds hmk
    obtain ⟨k4, hk4⟩ := Ev.rounds (LB.eqRecord_ev rc rr (by omega) (by omega))
    obtain ⟨k5, hk5⟩ := Ev.rounds (LB.markRec_pairs rc rr (by omega) (by omega))
    obtain ⟨k6, hk6⟩ := Ev.rounds (LB.heldRec_pairs rc.length rr.length (by omega) (by omega))
    obtain ⟨pc, hpc⟩ : ∃ pc, LB.pairsC 1 rc.length = pc := ⟨_, rfl⟩
    obtain ⟨pr, hpr⟩ : ∃ pr, LB.pairsR (1 + 2 * (rc.length : Int)) rr.length = pr := ⟨_, rfl⟩
    have HPC := Aside0.mk (show pc.length = rc.length from by rw [← hpc, LB.pairsC_length])
    have HPR := Aside0.mk (show pr.length = rr.length from by rw [← hpr, LB.pairsR_length])
    obtain ⟨qq, hqq⟩ : ∃ q, 1 + 2 * (rc.length : Int) + 2 * (rr.length : Int) = q := ⟨_, rfl⟩
    rw [hpc, hpr, hqq] at hk5 hk6
    have hq0 : ¬ qq < 0 := by omega
    have HSP := Aside0.mk hsp
    have HIM := Aside0.mk ho
    have HK1 := Aside0.mk hk1
    have HK2 := Aside0.mk hk2
    have HK3 := Aside0.mk hk3
    have HK4 := Aside0.mk hk4
    have HK5 := Aside0.mk hk5
    have HK6 := Aside0.mk hk6
    have hm0 : ¬ mm < 0 := by omega
    have hne : (bb != bb) = false := bne_self_eq_false bb
    have hqe : (qq != qq) = false := bne_self_eq_false qq
    clear H hcs hrs hcl hrl hsp ho hk1 hk2 hk3 hk4 hk5 hk6 hmk hmm hsc hsr hqq hl0 hl1 ht0 hpc hpr
    go_enter Try.func6, Try.ntmps6
    go_upto_region 1 with (fail)
    try rw [HW.out]
    clear HW
    go_upto_region 6 with (first | (go_at_call 9; (with_reducible refine (laws_szRecord.calls _ _ l0_0 _ _ l0_1 _ t _ (Kd.C_below HR0.out (by repeat (first | exact HBw.out | exact Below.refl _ _ | apply below_alloc | apply pw_below_drewN | apply below_drew1))) HC0.out (Kd.C_below HR1.out (by repeat (first | exact HBw.out | exact Below.refl _ _ | apply below_alloc | apply pw_below_drewN | apply below_drew1))) HC1.out HT.out).mono ?_); rintro e w1 ⟨rfl, hb⟩; have HBw : Aside0 (Below w.heap.size w w1) := Aside0.mk (below_chain (w := w) (by repeat (first | exact HBw.out | exact Below.refl _ _ | apply below_alloc | apply pw_below_drewN | apply below_drew1)) hb); have hb0 := pw_cell_below hb hb0; have hb1 := pw_cell_below hb hb1; clear hb) | (go_at_call 11; (refine (laws_toRecord.calls k1 _ _ l0_0 _ _ l0_1 cs rs _ (Kd.C_below HR0.out (by repeat (first | exact HBw.out | exact Below.refl _ _ | apply below_alloc | apply pw_below_drewN | apply below_drew1))) HC0.out (Kd.C_below HR1.out (by repeat (first | exact HBw.out | exact Below.refl _ _ | apply below_alloc | apply pw_below_drewN | apply below_drew1))) HC1.out HK1.out).mono ?_); rintro e w2 ⟨u0, u1, rfl, hR0, hR1, hb⟩; obtain ⟨yA, yc, rfl, hd0, hC0⟩ := Kd.R_reads hR0; obtain ⟨yB, yd, rfl, hd1, hC1⟩ := Kd.R_reads hR1; have HY0 := Aside0.mk hC0; have HY1 := Aside0.mk hC1; have HE0 := Aside0.mk hd0; have HE1 := Aside0.mk hd1; have HBw : Aside0 (Below w.heap.size w w2) := Aside0.mk (below_chain (w := w) (by repeat (first | exact HBw.out | exact Below.refl _ _ | apply below_alloc | apply pw_below_drewN | apply below_drew1)) hb); have hb0 := pw_cell_below hb hb0; have hb1 := pw_cell_below hb hb1; clear hb hR0 hR1 hC0 hC1 hd0 hd1) | (go_at_call 22; (refine (spec_RenumberContext.calls k _ _ cs _ _ rs a1 a2 rc rr bb _ (Kd.C_below HY0.out (by repeat (first | exact Below.refl _ _ | apply below_alloc | apply pw_below_drewN | apply below_drew1))) HE0.out (Kd.C_below HY1.out (by repeat (first | exact Below.refl _ _ | apply below_alloc | apply pw_below_drewN | apply below_drew1))) HE1.out HSP.out).mono ?_); rintro e w4 ⟨u0, u1, rfl, hR0, hR1, hb⟩; obtain ⟨WA, wcA, rfl, _, _⟩ := Kd.R_reads hR0; obtain ⟨WB, wcB, rfl, _, _⟩ := Kd.R_reads hR1; have HW0 := Aside0.mk (Kd.R_lower hR0 HBw.out.size); have HW1 := Aside0.mk (Kd.R_lower hR1 HBw.out.size); have HBw : Aside0 (Below w.heap.size w w4) := Aside0.mk (below_chain (w := w) (by repeat (first | exact HBw.out | exact Below.refl _ _ | apply below_alloc | apply pw_below_drewN | apply below_drew1)) hb); have hb0 := pw_cell_below hb hb0; have hb1 := pw_cell_below hb hb1; clear hb hR0 hR1 HY0 HY1 HE0 HE1))
    clear hc
    have hal := below_alloc (Below.refl w4.heap.size w4) (.cells #[.slice WA rc.length wcA, .slice WB rr.length wcB] 32 (0, 0))
    have BW := Aside0.mk (blk_new w4 (.cells #[.slice WA rc.length wcA, .slice WB rr.length wcB] 32 (0, 0)))
    have HW0 := Aside0.mk (Kd.R_below HW0.out hal)
    have HW1 := Aside0.mk (Kd.R_below HW1.out hal)
    have HBwa := Aside0.mk (below_chain (w := w) HBw.out hal)
    have hb0 := pw_cell_below hal hb0
    have hb1 := pw_cell_below hal hb1
    obtain ⟨bw, hbw⟩ : ∃ g, w4.heap.size = g := ⟨_, rfl⟩
    generalize w4.alloc (.cells #[.slice WA rc.length wcA, .slice WB rr.length wcB] 32 (0, 0)) = wa at hal BW HW0 HW1 HBwa hb0 hb1 ⊢
    rw [hbw] at BW
    try rw [hbw]
    clear hal hbw HBw
    have HWc0 := Aside0.mk (Kd.R_reads' HW0.out).2.1
    have HWc1 := Aside0.mk (Kd.R_reads' HW1.out).2.1
    have HW0 := Aside0.mk (Kd.R_reads' HW0.out).2.2
    have HW1 := Aside0.mk (Kd.R_reads' HW1.out).2.2
    have HA := Aside0.mk (Below.refl wa.heap.size wa)
    have HB0a := Aside0.mk hb0
    have HB1a := Aside0.mk hb1
    go_upto_region 7 with (go_at_call 11; (refine (laws_toRecord.calls k1 _ _ l0_0 _ _ l0_1 cs rs _ (Kd.C_below HR0.out (below_chain HBwa.out (by repeat (first | exact HA.out | exact Below.refl _ _ | apply below_alloc | apply pw_below_drewN | apply below_drew1)))) HC0.out (Kd.C_below HR1.out (below_chain HBwa.out (by repeat (first | exact HA.out | exact Below.refl _ _ | apply below_alloc | apply pw_below_drewN | apply below_drew1)))) HC1.out HK1.out).mono ?_); rintro e w5 ⟨u0, u1, rfl, hR0, hR1, hb⟩; obtain ⟨uA, uc, rfl, hd0, _⟩ := Kd.R_reads hR0; obtain ⟨uB, ud, rfl, hd1, _⟩ := Kd.R_reads hR1; have HXR0 := Aside0.mk (Kd.R_lower hR0 HA.out.size); have HXR1 := Aside0.mk (Kd.R_lower hR1 HA.out.size); have HD0 := Aside0.mk hd0; have HD1 := Aside0.mk hd1; have HA := Aside0.mk (below_chain (w := wa) (by repeat (first | exact HA.out | exact Below.refl _ _ | apply below_alloc | apply pw_below_drewN | apply below_drew1)) hb); have hb0 := pw_cell_below hb hb0; have hb1 := pw_cell_below hb hb1; clear hR0 hR1 hd0 hd1 hb)
    have hal := below_alloc (Below.refl w5.heap.size w5) (.cells #[.slice uA cs.length uc, .slice uB rs.length ud] 32 (0, 0))
    have BX := Aside0.mk (blk_new w5 (.cells #[.slice uA cs.length uc, .slice uB rs.length ud] 32 (0, 0)))
    have HXR0 := Aside0.mk (Kd.R_mono (ok' := fun k => k < w5.heap.size) (Kd.R_below (Kd.R_bound HXR0.out) hal) (fun k hk => hk.2.2.1))
    have HXR1 := Aside0.mk (Kd.R_mono (ok' := fun k => k < w5.heap.size) (Kd.R_below (Kd.R_bound HXR1.out) hal) (fun k hk => hk.2.2.1))
    have HA := Aside0.mk (below_chain (w := wa) HA.out hal)
    have hb0 := pw_cell_below hal hb0
    have hb1 := pw_cell_below hal hb1
    obtain ⟨gx, hgx⟩ : ∃ g, w5.heap.size = g := ⟨_, rfl⟩
    generalize w5.alloc (.cells #[.slice uA cs.length uc, .slice uB rs.length ud] 32 (0, 0)) = wq at hal BX HXR0 HXR1 HA hb0 hb1 ⊢
    rw [hgx] at BX HXR0 HXR1
    try rw [hgx]
    clear hal hgx
    have hz0 : wq.cell? ⟨gx, 0, none⟩ = some (.slice uA cs.length uc) := (blk_cell BX.out 0).trans rfl
    have hz1 : wq.cell? ⟨gx, 1, none⟩ = some (.slice uB rs.length ud) := (blk_cell BX.out 1).trans rfl
    have HGX := Aside0.mk (blk_lt BX.out)
    clear BX
    go_upto_region 8 with (go_at_call 23; (refine (impl_RenumberContext.calls _ _ cs _ _ rs a1 a2 rc rr bb _ (Kd.C_below (Kd.R_reads' HXR0.out).2.2 (by repeat (first | exact Below.refl _ _ | apply below_alloc | apply pw_below_drewN | apply below_drew1))) HD0.out (Kd.C_below (Kd.R_reads' HXR1.out).2.2 (by repeat (first | exact Below.refl _ _ | apply below_alloc | apply pw_below_drewN | apply below_drew1))) HD1.out HIM.out).mono ?_); rintro e w7 ⟨u0, u1, rfl, hR0, hR1, hb⟩; obtain ⟨GA, gcA, rfl, _, _⟩ := Kd.R_reads hR0; obtain ⟨GB, gcB, rfl, _, _⟩ := Kd.R_reads hR1; have HG0 := Aside0.mk (Kd.R_lower (Kd.R_mono (ok' := (fun k => some k = (.slice GA rc.length gcA : Value).ownBlock ∧ gx < k)) (Kd.R_tight2 rfl (Kd.R_bound hR0)) (fun k hk => ⟨hk.1, Nat.lt_of_lt_of_le (Nat.lt_of_lt_of_le HGX.out (show Below wq.heap.size wq _ from (by repeat (first | exact Below.refl _ _ | apply below_alloc | apply pw_below_drewN | apply below_drew1))).size) hk.2.2.1⟩)) HA.out.size); have HG1 := Aside0.mk (Kd.R_lower (Kd.R_mono (ok' := (fun k => some k = (.slice GB rr.length gcB : Value).ownBlock ∧ gx < k)) (Kd.R_tight2 rfl (Kd.R_bound hR1)) (fun k hk => ⟨hk.1, Nat.lt_of_lt_of_le (Nat.lt_of_lt_of_le HGX.out (show Below wq.heap.size wq _ from (by repeat (first | exact Below.refl _ _ | apply below_alloc | apply pw_below_drewN | apply below_drew1))).size) hk.2.2.1⟩)) HA.out.size); have HA := Aside0.mk (below_chain (w := wa) (by repeat (first | exact HA.out | exact Below.refl _ _ | apply below_alloc | apply pw_below_drewN | apply below_drew1)) hb); have hb0 := pw_cell_below hb hb0; have hb1 := pw_cell_below hb hb1; have hz0 := pw_cell_below hb hz0; have hz1 := pw_cell_below hb hz1; have HXR0 := Aside0.mk (Kd.R_below HXR0.out hb); have HXR1 := Aside0.mk (Kd.R_below HXR1.out hb); clear hR0 hR1 hb)
    have hal := below_alloc (Below.refl w7.heap.size w7) (.cells #[.slice GA rc.length gcA, .slice GB rr.length gcB] 32 (0, 0))
    have BG := Aside0.mk (blk_new w7 (.cells #[.slice GA rc.length gcA, .slice GB rr.length gcB] 32 (0, 0)))
    have HGL := Aside0.mk (World.block_lt_of_cell? _ _ hz0)
    have HG0 := Aside0.mk (Kd.R_below HG0.out hal)
    have HG1 := Aside0.mk (Kd.R_below HG1.out hal)
    have HXR0 := Aside0.mk (Kd.R_below HXR0.out hal)
    have HXR1 := Aside0.mk (Kd.R_below HXR1.out hal)
    have HA := Aside0.mk (below_chain (w := wa) HA.out hal)
    have hb0 := pw_cell_below hal hb0
    have hb1 := pw_cell_below hal hb1
    have hz0 := pw_cell_below hal hz0
    have hz1 := pw_cell_below hal hz1
    obtain ⟨bg, hbg⟩ : ∃ g, w7.heap.size = g := ⟨_, rfl⟩
    generalize w7.alloc (.cells #[.slice GA rc.length gcA, .slice GB rr.length gcB] 32 (0, 0)) = wg at hal BG HXR0 HXR1 HG0 HG1 HA hb0 hb1 hz0 hz1 ⊢
    rw [hbg] at BG HGL
    try rw [hbg]
    clear hal hbg
    have HGc0 := Aside0.mk (Kd.R_reads' HG0.out).2.1
    have HGc1 := Aside0.mk (Kd.R_reads' HG1.out).2.1
    have hw0 : wg.cell? ⟨bw, 0, none⟩ = some (.slice WA rc.length wcA) := (HA.out.cell (blk_lt BW.out)).trans ((blk_cell BW.out 0).trans rfl)
    have hw1 : wg.cell? ⟨bw, 1, none⟩ = some (.slice WB rr.length wcB) := (HA.out.cell (blk_lt BW.out)).trans ((blk_cell BW.out 1).trans rfl)
    have hg0 : wg.cell? ⟨bg, 0, none⟩ = some (.slice GA rc.length gcA) := (blk_cell BG.out 0).trans rfl
    have hg1 : wg.cell? ⟨bg, 1, none⟩ = some (.slice GB rr.length gcB) := (blk_cell BG.out 1).trans rfl
    go_upto_region 10 with (go_at_call 14; (refine (laws_eqRecord.calls k4 _ _ rc _ _ rr _ _ rc _ _ rr true _ (Kd.C_below (Kd.R_reads' HG0.out).2.2 (by repeat (first | exact Below.refl _ _ | apply below_alloc | apply pw_below_drewN | apply below_drew1))) HGc0.out (Kd.C_below (Kd.R_reads' HG1.out).2.2 (by repeat (first | exact Below.refl _ _ | apply below_alloc | apply pw_below_drewN | apply below_drew1))) HGc1.out (Kd.C_below HW0.out (by repeat (first | exact HA.out | exact Below.refl _ _ | apply below_alloc | apply pw_below_drewN | apply below_drew1))) HWc0.out (Kd.C_below HW1.out (by repeat (first | exact HA.out | exact Below.refl _ _ | apply below_alloc | apply pw_below_drewN | apply below_drew1))) HWc1.out HK4.out).mono ?_); rintro e w8 ⟨rfl, hb⟩; have HA := Aside0.mk (below_chain (w := wa) (by repeat (first | exact HA.out | exact Below.refl _ _ | apply below_alloc | apply pw_below_drewN | apply below_drew1)) hb); have hb0 := pw_cell_below hb hb0; have hb1 := pw_cell_below hb hb1; have hz0 := pw_cell_below hb hz0; have hz1 := pw_cell_below hb hz1; have HXR0 := Aside0.mk (Kd.R_below HXR0.out hb); have HXR1 := Aside0.mk (Kd.R_below HXR1.out hb); have HG0 := Aside0.mk (Kd.R_below HG0.out hb); have HG1 := Aside0.mk (Kd.R_below HG1.out hb); have BG := Aside0.mk (blk_below BG.out hb); clear hb hw0 hw1 hg0 hg1)
    have HS0 := Aside0.mk (show (fun w' : World => w'.cell? ⟨w.heap.size, 0, none⟩ = some (.slice A0_0 l0_0.length c0_0) ∧ w'.cell? ⟨w.heap.size, 1, none⟩ = some (.slice A0_1 l0_1.length c0_1) ∧ w'.cell? ⟨gx, 0, none⟩ = some (.slice uA cs.length uc) ∧ w'.cell? ⟨gx, 1, none⟩ = some (.slice uB rs.length ud) ∧ Aside0 (Below wa.heap.size wa w') ∧ Aside0 (Kd.R k44 44 w' wa.heap.size (fun k => k < gx) (.slice uA cs.length uc) cs) ∧ Aside0 (Kd.R k36 36 w' wa.heap.size (fun k => k < gx) (.slice uB rs.length ud) rs) ∧ Aside0 (Kd.R k44 44 w' wa.heap.size (fun k => some k = (.slice GA rc.length gcA : Value).ownBlock ∧ gx < k) (.slice GA rc.length gcA) rc) ∧ Aside0 (Kd.R k36 36 w' wa.heap.size (fun k => some k = (.slice GB rr.length gcB : Value).ownBlock ∧ gx < k) (.slice GB rr.length gcB) rr) ∧ Aside0 (w'.heap[bg]? = some (.cells #[.slice GA rc.length gcA, .slice GB rr.length gcB] 32 (0, 0)))) w8.drew from ⟨hb0, hb1, hz0, hz1, ⟨below_drew1 HA.out⟩, ⟨Kd.R_drew HXR0.out⟩, ⟨Kd.R_drew HXR1.out⟩, ⟨Kd.R_drew HG0.out⟩, ⟨Kd.R_drew HG1.out⟩, ⟨blk_drew BG.out⟩⟩)
    clear hb0 hb1 hz0 hz1 HA HXR0 HXR1 HG0 HG1 BG
    all_goals refine start_ (n := 5) (S := (fun w' : World => w'.cell? ⟨w.heap.size, 0, none⟩ = some (.slice A0_0 l0_0.length c0_0) ∧ w'.cell? ⟨w.heap.size, 1, none⟩ = some (.slice A0_1 l0_1.length c0_1) ∧ w'.cell? ⟨gx, 0, none⟩ = some (.slice uA cs.length uc) ∧ w'.cell? ⟨gx, 1, none⟩ = some (.slice uB rs.length ud) ∧ Aside0 (Below wa.heap.size wa w') ∧ Aside0 (Kd.R k44 44 w' wa.heap.size (fun k => k < gx) (.slice uA cs.length uc) cs) ∧ Aside0 (Kd.R k36 36 w' wa.heap.size (fun k => k < gx) (.slice uB rs.length ud) rs) ∧ Aside0 (Kd.R k44 44 w' wa.heap.size (fun k => some k = (.slice GA rc.length gcA : Value).ownBlock ∧ gx < k) (.slice GA rc.length gcA) rc) ∧ Aside0 (Kd.R k36 36 w' wa.heap.size (fun k => some k = (.slice GB rr.length gcB : Value).ownBlock ∧ gx < k) (.slice GB rr.length gcB) rr) ∧ Aside0 (w'.heap[bg]? = some (.cells #[.slice GA rc.length gcA, .slice GB rr.length gcB] 32 (0, 0))))) (ds := []) (bl 0 5) (by kernel_rfl) rfl rfl HS0.out (fun hHeld => ?_); refine with_tabW laws_FnExactRenumberContext.tab10 laws_FnExactRenumberContext.bits10 (fun HT_ HW_ => ?_)
    all_goals generalize w8.drew = wv at hHeld ⊢
    all_goals first | refine tA_ 0 (some 49) (bl 1 5) HT_.out HW_.out hHeld (h := ?_) | refine pO_ 0 (some 49) (bl 1 5) HT_.out (h := ?_)
    all_goals first | refine tA_ 1 (some 50) (bl 2 5) HT_.out HW_.out hHeld (h := ?_) | refine pO_ 1 (some 50) (bl 2 5) HT_.out (h := ?_)
    all_goals first | refine pO_ 2 (some 51) (bl 3 5) HT_.out (h := ?_) | (refine one_ (i := 2) (N := some 51) (bl 3 5) rfl rfl (one_of HT_.out (by kernel_rfl)) (by decide) (fun K hK => ?_); refine goes_ Try.func11 (by kernel_rfl) rfl #[.agg #[.slice A0_0 l0_0.length c0_0, .slice A0_1 l0_1.length c0_1]] (by rfl) rfl rfl (by (try simp only [List.map_toArray, List.map_cons, List.map_nil]); first | done | rfl) ?_; with_reducible refine (laws_toRecord.calls k1 _ _ l0_0 _ _ l0_1 cs rs _ (Kd.C_below HR0.out (below_chain HBwa.out hHeld.2.2.2.2.1.out)) HC0.out (Kd.C_below HR1.out (below_chain HBwa.out hHeld.2.2.2.2.1.out)) HC1.out HK1.out).mono ?_; rintro e w9 ⟨y0, y1, rfl, hR0, hR1, hb⟩; obtain ⟨yA, yc, rfl, hd0, hC0⟩ := Kd.R_reads hR0; obtain ⟨yB, yd, rfl, hd1, hC1⟩ := Kd.R_reads hR1; have HY0 := Aside0.mk hC0; have HY1 := Aside0.mk hC1; have HE0 := Aside0.mk hd0; have HE1 := Aside0.mk hd1; clear hR0 hR1 hC0 hC1 hd0 hd1; refine ⟨_, rfl, ?_⟩; refine hK.out _ _ ⟨pw_cell_below hb hHeld.1, pw_cell_below hb hHeld.2.1, pw_cell_below hb hHeld.2.2.1, pw_cell_below hb hHeld.2.2.2.1, ⟨below_chain hHeld.2.2.2.2.1.out hb⟩, ⟨Kd.R_below hHeld.2.2.2.2.2.1.out hb⟩, ⟨Kd.R_below hHeld.2.2.2.2.2.2.1.out hb⟩, ⟨Kd.R_below hHeld.2.2.2.2.2.2.2.1.out hb⟩, ⟨Kd.R_below hHeld.2.2.2.2.2.2.2.2.1.out hb⟩, ⟨blk_below hHeld.2.2.2.2.2.2.2.2.2.out hb⟩⟩ (fun hHeld => ?_); clear hK K; refine norm_ (a' := ?_) ?_ ?_; rotate_left; (show Act.put _ (some 51) _ = _; simp only [Act.put, List.setIfInBounds_toArray, List.set_cons_zero, List.set_cons_succ, i64_w, i32_w]; rfl))
    all_goals first | refine pO_ 3 (some 52) (bl 4 5) HT_.out (h := ?_) | (refine one_ (i := 3) (N := some 52) (bl 4 5) rfl rfl (one_of HT_.out (by kernel_rfl)) (by decide) (fun K hK => ?_); refine goes_ Try.func14 (by kernel_rfl) rfl #[.agg #[.slice uA cs.length uc, .slice uB rs.length ud], .agg #[.slice yA cs.length yc, .slice yB rs.length yd]] (by rfl) rfl rfl (by (try simp only [List.map_toArray, List.map_cons, List.map_nil]); first | done | rfl) ?_; with_reducible refine (laws_eqRecord.calls k2 _ _ cs _ _ rs _ _ cs _ _ rs true _ (Kd.R_reads' hHeld.2.2.2.2.2.1.out).2.2 HD0.out (Kd.R_reads' hHeld.2.2.2.2.2.2.1.out).2.2 HD1.out HY0.out HE0.out HY1.out HE1.out HK2.out).mono ?_; rintro e w10 ⟨rfl, hb⟩; refine ⟨_, rfl, ?_⟩; refine hK.out _ _ ⟨pw_cell_below hb hHeld.1, pw_cell_below hb hHeld.2.1, pw_cell_below hb hHeld.2.2.1, pw_cell_below hb hHeld.2.2.2.1, ⟨below_chain hHeld.2.2.2.2.1.out hb⟩, ⟨Kd.R_below hHeld.2.2.2.2.2.1.out hb⟩, ⟨Kd.R_below hHeld.2.2.2.2.2.2.1.out hb⟩, ⟨Kd.R_below hHeld.2.2.2.2.2.2.2.1.out hb⟩, ⟨Kd.R_below hHeld.2.2.2.2.2.2.2.2.1.out hb⟩, ⟨blk_below hHeld.2.2.2.2.2.2.2.2.2.out hb⟩⟩ (fun hHeld => ?_); clear hK K; refine norm_ (a' := ?_) ?_ ?_; rotate_left; (show Act.put _ (some 52) _ = _; simp only [Act.put, List.setIfInBounds_toArray, List.set_cons_zero, List.set_cons_succ, i64_w, i32_w]; rfl))
    all_goals first | refine pA_ 4 (some 53) (bl 5 5) HT_.out (h := ?_) | refine pO_ 4 (some 53) (bl 5 5) HT_.out (h := ?_)
    all_goals refine done_ (done_of HT_.out (by kernel_rfl)) ?_
    obtain ⟨hb0, hb1, hz0, hz1, HA, HXR0, HXR1, HG0, HG1, BG⟩ := hHeld
    obtain ⟨w11, hw11⟩ : ∃ x, w10 = x := ⟨_, rfl⟩
    rw [hw11] at hb0 hb1 hz0 hz1 HA HXR0 HXR1 HG0 HG1 BG ⊢
    clear hw11 HS0 HY0 HY1 HE0 HE1
    go_upto_region 14 with (go_at_call 15; (refine (laws_markRecord.calls k3 (fun k => k < gx) _ cs (fun k => k < gx) _ rs 1 mm mx_ my_ wa _ (by repeat (first | exact HA.out | exact Below.refl _ _ | apply below_alloc | apply pw_below_drewN | apply below_drew1)) (by (with_reducible repeat (first | apply Kd.R_alloc | apply Kd.R_drewN | apply Kd.R_drew)); exact HXR0.out) (by (with_reducible repeat (first | apply Kd.R_alloc | apply Kd.R_drewN | apply Kd.R_drew)); exact HXR1.out) HK3.out).mono ?_); rintro e w12 ⟨rfl, _, _, hb, hkp⟩; have HG0 := Aside0.mk (Kd.R_kept HG0.out hkp (fun k hk h => by have := hk.2; rcases h with h | h <;> omega)); have HG1 := Aside0.mk (Kd.R_kept HG1.out hkp (fun k hk h => by have := hk.2; rcases h with h | h <;> omega)); have BG := Aside0.mk ((hkp.2 bg (blk_lt BG.out) (fun h => by have := HGL.out; rcases h with h | h <;> omega)).trans BG.out); have HA := Aside0.mk hb; clear hb hkp hz0 hz1 hb0 hb1 HXR0 HXR1)
    have hw0 : w12.cell? ⟨bw, 0, none⟩ = some (.slice WA rc.length wcA) := (HA.out.cell (blk_lt BW.out)).trans ((blk_cell BW.out 0).trans rfl)
    have hw1 : w12.cell? ⟨bw, 1, none⟩ = some (.slice WB rr.length wcB) := (HA.out.cell (blk_lt BW.out)).trans ((blk_cell BW.out 1).trans rfl)
    have hg0 : w12.cell? ⟨bg, 0, none⟩ = some (.slice GA rc.length gcA) := (blk_cell BG.out 0).trans rfl
    have hg1 : w12.cell? ⟨bg, 1, none⟩ = some (.slice GB rr.length gcB) := (blk_cell BG.out 1).trans rfl
    go_upto_region 17 with (go_at_call 14; (refine (laws_eqRecord.calls k4 _ _ rc _ _ rr _ _ rc _ _ rr true _ (Kd.C_below (Kd.R_reads' HG0.out).2.2 (by repeat (first | exact Below.refl _ _ | apply below_alloc | apply pw_below_drewN | apply below_drew1))) HGc0.out (Kd.C_below (Kd.R_reads' HG1.out).2.2 (by repeat (first | exact Below.refl _ _ | apply below_alloc | apply pw_below_drewN | apply below_drew1))) HGc1.out (Kd.C_below HW0.out (by repeat (first | exact HA.out | exact Below.refl _ _ | apply below_alloc | apply pw_below_drewN | apply below_drew1))) HWc0.out (Kd.C_below HW1.out (by repeat (first | exact HA.out | exact Below.refl _ _ | apply below_alloc | apply pw_below_drewN | apply below_drew1))) HWc1.out HK4.out).mono ?_); rintro e w13 ⟨rfl, hb⟩; have HA := Aside0.mk (below_chain (w := wa) (by repeat (first | exact HA.out | exact Below.refl _ _ | apply below_alloc | apply pw_below_drewN | apply below_drew1)) hb); have HG0 := Aside0.mk (Kd.R_below HG0.out hb); have HG1 := Aside0.mk (Kd.R_below HG1.out hb); have BG := Aside0.mk (blk_below BG.out hb); have hg0 := pw_cell_below hb hg0; have hg1 := pw_cell_below hb hg1; clear hb hw0 hw1)
    go_upto_region 19 with (go_at_call 15; (refine (laws_markRecord.calls k5 (fun k => some k = (.slice GA rc.length gcA : Value).ownBlock ∧ gx < k) _ rc (fun k => some k = (.slice GB rr.length gcB : Value).ownBlock ∧ gx < k) _ rr 1 qq pc pr wa _ (by repeat (first | exact HA.out | exact Below.refl _ _ | apply below_alloc | apply pw_below_drewN | apply below_drew1)) (by (with_reducible repeat (first | apply Kd.R_alloc | apply Kd.R_drewN | apply Kd.R_drew)); exact HG0.out) (by (with_reducible repeat (first | apply Kd.R_alloc | apply Kd.R_drewN | apply Kd.R_drew)); exact HG1.out) HK5.out).mono ?_); rintro e w14 ⟨rfl, hM0, hM1, hb, hkp⟩; have BG := Aside0.mk ((hkp.2 bg (blk_lt BG.out) (fun h => by rcases h with h | h; exact Kd.R_ne HG0.out BG.out (by decide) h.1; exact Kd.R_ne HG1.out BG.out (by decide) h.1)).trans BG.out); have HA := Aside0.mk hb; have HM0 := Aside0.mk (Kd.R_mono (ok' := fun _ => True) hM0 (fun _ _ => trivial)); have HM1 := Aside0.mk (Kd.R_mono (ok' := fun _ => True) hM1 (fun _ _ => trivial)); clear hb hkp hM0 hM1 hg0 hg1 HG0 HG1)
    have HHE := Aside0.mk (fun (W : World) (h0 : Kd.C k44 W GA rc.length pc) (h1 : Kd.C k36 W GB rr.length pr) => show Calls Try.prog 16 #[.agg #[.slice GA rc.length gcA, .slice GB rr.length gcB], .int .i64 1] W (fun e w' => e = .returned (.int .i64 qq) ∧ Below W.heap.size W w') from by
      have h := laws_heldRecord.calls k6 GA gcA pc GB gcB pr 1 qq W (by rw [HPC.out]; exact h0) (by rw [HPC.out]; exact HGc0.out) (by rw [HPR.out]; exact h1) (by rw [HPR.out]; exact HGc1.out) HK6.out
      rw [HPC.out, HPR.out] at h
      exact h)
    have hg0 : w14.cell? ⟨bg, 0, none⟩ = some (.slice GA rc.length gcA) := (blk_cell BG.out 0).trans rfl
    have hg1 : w14.cell? ⟨bg, 1, none⟩ = some (.slice GB rr.length gcB) := (blk_cell BG.out 1).trans rfl
    go_upto_region 24 with (go_at_call 16; (refine (HHE.out _ (Kd.C_below (by have h := (Kd.R_reads' HM0.out).2.2; rw [HPC.out] at h; exact h) (by repeat (first | exact Below.refl _ _ | apply below_alloc | apply pw_below_drewN | apply below_drew1))) (Kd.C_below (by have h := (Kd.R_reads' HM1.out).2.2; rw [HPR.out] at h; exact h) (by repeat (first | exact Below.refl _ _ | apply below_alloc | apply pw_below_drewN | apply below_drew1)))).mono ?_); rintro e w15 ⟨rfl, hb⟩; have HA := Aside0.mk (below_chain (w := wa) (by repeat (first | exact HA.out | exact Below.refl _ _ | apply below_alloc | apply pw_below_drewN | apply below_drew1)) hb); have HM0 := Aside0.mk (Kd.R_below HM0.out hb); have HM1 := Aside0.mk (Kd.R_below HM1.out hb); have BG := Aside0.mk (blk_below BG.out hb); clear hb hg0 hg1)
    have hb0 := (HA.out.cell (World.block_lt_of_cell? wa _ HB0a.out)).trans HB0a.out
    have hb1 := (HA.out.cell (World.block_lt_of_cell? wa _ HB1a.out)).trans HB1a.out
    go_upto_region 25 with (first | (go_at_call 11; (refine (laws_toRecord.calls k1 _ _ l0_0 _ _ l0_1 cs rs _ (Kd.C_below HR0.out (below_chain HBwa.out (by repeat (first | exact HA.out | exact Below.refl _ _ | apply below_alloc | apply pw_below_drewN | apply below_drew1)))) HC0.out (Kd.C_below HR1.out (below_chain HBwa.out (by repeat (first | exact HA.out | exact Below.refl _ _ | apply below_alloc | apply pw_below_drewN | apply below_drew1)))) HC1.out HK1.out).mono ?_); rintro e w16 ⟨u0, u1, rfl, hR0, hR1, hb⟩; obtain ⟨yA, yc, rfl, hd0, hC0⟩ := Kd.R_reads hR0; obtain ⟨yB, yd, rfl, hd1, hC1⟩ := Kd.R_reads hR1; have HY0 := Aside0.mk hC0; have HY1 := Aside0.mk hC1; have HE0 := Aside0.mk hd0; have HE1 := Aside0.mk hd1; have HA := Aside0.mk (below_chain (w := wa) (by repeat (first | exact HA.out | exact Below.refl _ _ | apply below_alloc | apply pw_below_drewN | apply below_drew1)) hb); have HM0 := Aside0.mk (Kd.R_below HM0.out hb); have HM1 := Aside0.mk (Kd.R_below HM1.out hb); have BG := Aside0.mk (blk_below BG.out hb); clear hR0 hR1 hd0 hd1 hC0 hC1 hb hb0 hb1) | (go_at_call 23; (refine (impl_RenumberContext.calls _ _ cs _ _ rs a1 a2 rc rr bb _ (Kd.C_below HY0.out (by repeat (first | exact Below.refl _ _ | apply below_alloc | apply pw_below_drewN | apply below_drew1))) HE0.out (Kd.C_below HY1.out (by repeat (first | exact Below.refl _ _ | apply below_alloc | apply pw_below_drewN | apply below_drew1))) HE1.out HIM.out).mono ?_); rintro e w18 ⟨u0, u1, rfl, hR0, hR1, hb⟩; obtain ⟨hA, hcA, rfl, hHc0, hH0⟩ := Kd.R_reads hR0; obtain ⟨hB, hcB, rfl, hHc1, hH1⟩ := Kd.R_reads hR1; have HH0 := Aside0.mk hH0; have HH1 := Aside0.mk hH1; have HHc0 := Aside0.mk hHc0; have HHc1 := Aside0.mk hHc1; have HA := Aside0.mk (below_chain (w := wa) (by repeat (first | exact HA.out | exact Below.refl _ _ | apply below_alloc | apply pw_below_drewN | apply below_drew1)) hb); have HM0 := Aside0.mk (Kd.R_below HM0.out hb); have HM1 := Aside0.mk (Kd.R_below HM1.out hb); have BG := Aside0.mk (blk_below BG.out hb); clear hR0 hR1 hb hH0 hH1 hHc0 hHc1 HY0 HY1))
    have hal := below_alloc (Below.refl w18.heap.size w18) (.cells #[.slice hA rc.length hcA, .slice hB rr.length hcB] 32 (0, 0))
    have BH := Aside0.mk (blk_new w18 (.cells #[.slice hA rc.length hcA, .slice hB rr.length hcB] 32 (0, 0)))
    have HH0 := Aside0.mk (Kd.C_below HH0.out hal)
    have HH1 := Aside0.mk (Kd.C_below HH1.out hal)
    have HM0 := Aside0.mk (Kd.R_below HM0.out hal)
    have HM1 := Aside0.mk (Kd.R_below HM1.out hal)
    have BG := Aside0.mk (blk_below BG.out hal)
    have HA := Aside0.mk (below_chain (w := wa) HA.out hal)
    obtain ⟨bh, hbh⟩ : ∃ g, w18.heap.size = g := ⟨_, rfl⟩
    generalize w18.alloc (.cells #[.slice hA rc.length hcA, .slice hB rr.length hcB] 32 (0, 0)) = wh at hal BH HH0 HH1 HM0 HM1 BG HA ⊢
    rw [hbh] at BH
    try rw [hbh]
    clear hal hbh
    have hw0 : wh.cell? ⟨bw, 0, none⟩ = some (.slice WA rc.length wcA) := (HA.out.cell (blk_lt BW.out)).trans ((blk_cell BW.out 0).trans rfl)
    have hw1 : wh.cell? ⟨bw, 1, none⟩ = some (.slice WB rr.length wcB) := (HA.out.cell (blk_lt BW.out)).trans ((blk_cell BW.out 1).trans rfl)
    have hh0 : wh.cell? ⟨bh, 0, none⟩ = some (.slice hA rc.length hcA) := (blk_cell BH.out 0).trans rfl
    have hh1 : wh.cell? ⟨bh, 1, none⟩ = some (.slice hB rr.length hcB) := (blk_cell BH.out 1).trans rfl
    have hg0 : wh.cell? ⟨bg, 0, none⟩ = some (.slice GA rc.length gcA) := (blk_cell BG.out 0).trans rfl
    have hg1 : wh.cell? ⟨bg, 1, none⟩ = some (.slice GB rr.length gcB) := (blk_cell BG.out 1).trans rfl
    clear BH
    go_upto_region 27 with (go_at_call 14; (refine (laws_eqRecord.calls k4 _ _ rc _ _ rr _ _ rc _ _ rr true _ (Kd.C_below HH0.out (by repeat (first | exact Below.refl _ _ | apply below_alloc | apply pw_below_drewN | apply below_drew1))) HHc0.out (Kd.C_below HH1.out (by repeat (first | exact Below.refl _ _ | apply below_alloc | apply pw_below_drewN | apply below_drew1))) HHc1.out (Kd.C_below HW0.out (by repeat (first | exact HA.out | exact Below.refl _ _ | apply below_alloc | apply pw_below_drewN | apply below_drew1))) HWc0.out (Kd.C_below HW1.out (by repeat (first | exact HA.out | exact Below.refl _ _ | apply below_alloc | apply pw_below_drewN | apply below_drew1))) HWc1.out HK4.out).mono ?_); rintro e w19 ⟨rfl, hb⟩; have HA := Aside0.mk (below_chain (w := wa) (by repeat (first | exact HA.out | exact Below.refl _ _ | apply below_alloc | apply pw_below_drewN | apply below_drew1)) hb); have HM0 := Aside0.mk (Kd.R_below HM0.out hb); have HM1 := Aside0.mk (Kd.R_below HM1.out hb); have hg0 := pw_cell_below hb hg0; have hg1 := pw_cell_below hb hg1; clear hb hw0 hw1 hh0 hh1)
    go_wp2_with (go_at_call 16; (refine (HHE.out _ (Kd.C_below (by have h := (Kd.R_reads' HM0.out).2.2; rw [HPC.out] at h; exact h) (by repeat (first | exact Below.refl _ _ | apply below_alloc | apply pw_below_drewN | apply below_drew1))) (Kd.C_below (by have h := (Kd.R_reads' HM1.out).2.2; rw [HPR.out] at h; exact h) (by repeat (first | exact Below.refl _ _ | apply below_alloc | apply pw_below_drewN | apply below_drew1)))).mono ?_); rintro e w20 ⟨rfl, hb⟩; have HA := Aside0.mk (below_chain (w := wa) (by repeat (first | exact HA.out | exact Below.refl _ _ | apply below_alloc | apply pw_below_drewN | apply below_drew1)) hb); clear hb hg0 hg1)
    go_ret
    exact ⟨rfl, below_chain HBwa.out HA.out⟩

end Go.Proofs.Ytlmdmnenljmdgaa.Q

-- Written by a program of this session (wip/xprint.py over the kit's printer).
import Derived.Test.YtdmbboijcaelcaaDoorQ0
import Derived.Test.YtdmbboijcaelcaaDoorQB0
import Derived.Test.YtdmbboijcaelcaaDoorQB1
import Derived.Test.YtdmbboijcaelcaaDoorQF36
import Derived.Test.YtdmbboijcaelcaaDoorQLBBaseB
import Derived.Test.YtdmbboijcaelcaaDoorQP
import Derived.Test.YtdmbboijcaelcaaDoorFmt
namespace Go.Proofs.YtdmbboijcaelcaaDoor.Q
open Go.RowKit Go.Proofs.YtdmbboijcaelcaaDoorW.PrintWords Go.Proofs.YtdmbboijcaelcaaDoorW.PrintLast
set_option linter.unusedVariables false
set_option linter.unusedSimpArgs false

/-! ### laws_FnExactFormatRecord: function 10 -/
def laws_FnExactFormatRecord.T10 : Bool × List (List Nat × List Nat) := (true, [([], []), ([], []), ([1], [1]), ([0, 2, 2], [0, 2]), ([3], [3])])
def laws_FnExactFormatRecord.B10 : List Nat := [0, 0, 2, 7, 15]
theorem laws_FnExactFormatRecord.tab10 : rtab .any (opsOf Tryd.f10 10) = laws_FnExactFormatRecord.T10 := by kernel_rfl
theorem laws_FnExactFormatRecord.bits10 : waitsOk laws_FnExactFormatRecord.T10.2 laws_FnExactFormatRecord.B10 = true := by kernel_rfl
set_option maxHeartbeats 4000000 in
set_option maxRecDepth 100000 in
theorem laws_FnExactFormatRecord.calls (A0_0 : Option Addr) (c0_0 : Nat) (l0_0 : List S119) (A0_1 : Option Addr) (c0_1 : Nat) (l0_1 : List S121) (w : World) (hr0_0 : Kd.C k119 w A0_0 l0_0.length l0_0) (hc0_0 : l0_0.length ≤ c0_0) (hr0_1 : Kd.C k121 w A0_1 l0_1.length l0_1) (hc0_1 : l0_1.length ≤ c0_1) (hlw : LW w)
    (hboth : ∀ (cs : List S94) (rs : List S96), cs.length ≤ 1048576 → rs.length ≤ 1048576 → ∃ (k : Nat) (tx : ByteArray) (bb : Bool), spec_FormatRecord.f k cs rs = some (tx, bb) ∧ ∀ (W : World) (A B : Option Addr) (c d : Nat), LW W → Kd.C k94 W A cs.length cs → cs.length ≤ c → Kd.C k96 W B rs.length rs → rs.length ≤ d → Calls Tryd.prog 38 #[.agg #[.slice A cs.length c, .slice B rs.length d]] W fun e w' => e = .returned (.tuple #[.string tx, .bool bb]) ∧ Below W.heap.size W w') :
    Calls Tryd.prog 10 #[.agg #[.slice A0_0 l0_0.length c0_0, .slice A0_1 l0_1.length c0_1]] w fun e w' => e = .returned (.bool true) ∧ Below w.heap.size w w' := by
  obtain ⟨t, ht, hc⟩ := LB.szRecord_eq l0_0 l0_1 hr0_0.2.1 hr0_1.2.1
  have HT := Aside0.mk ht
  have HL := Aside0.mk hlw
  clear ht hlw
  have HR0 := Aside0.mk hr0_0
  have HR1 := Aside0.mk hr0_1
  have HC0 := Aside0.mk hc0_0
  have HC1 := Aside0.mk hc0_1
  clear hr0_0 hr0_1 hc0_0 hc0_1
  obtain ⟨wb, hwb⟩ : ∃ wb, (w).alloc (.cells #[.slice A0_0 l0_0.length c0_0, .slice A0_1 l0_1.length c0_1] 46 (0, 0)) = wb := ⟨_, rfl⟩
  have HBw := Aside0.mk (show Below w.heap.size w wb from by rw [← hwb]; repeat (first | exact Below.refl _ _ | apply below_alloc))
  have HWB := HBw
  have hhr : wb.heap[w.heap.size]? = some (.cells #[.slice A0_0 l0_0.length c0_0, .slice A0_1 l0_1.length c0_1] 46 (0, 0)) := by rw [← hwb]; have h := blk_new (w) (.cells #[.slice A0_0 l0_0.length c0_0, .slice A0_1 l0_1.length c0_1] 46 (0, 0)); rw [show (w).heap.size = w.heap.size from by rfl] at h; exact h
  have hb0 : wb.cell? ⟨w.heap.size, 0, none⟩ = some (.slice A0_0 l0_0.length c0_0) := (blk_cell hhr 0).trans rfl
  have hb1 : wb.cell? ⟨w.heap.size, 1, none⟩ = some (.slice A0_1 l0_1.length c0_1) := (blk_cell hhr 1).trans rfl
  have hbs : w.heap.size < wb.heap.size := blk_lt hhr
  have HW := Aside0.mk hwb
  clear hwb hhr
  rcases hc with hc | ⟨ht0, _, hl0, hl1⟩
  · clear hboth
    go_enter Tryd.func10, Tryd.ntmps10
    go_upto_region 1 with (fail)
    try rw [HW.out]
    clear HW
    go_wp2_with (go_at_call 35; (with_reducible refine (laws_szRecord.calls _ _ l0_0 _ _ l0_1 _ t _ (Kd.C_below HR0.out (by repeat (first | exact HBw.out | exact Below.refl _ _ | apply below_alloc | apply pw_below_drewN | apply below_drew1))) HC0.out (Kd.C_below HR1.out (by repeat (first | exact HBw.out | exact Below.refl _ _ | apply below_alloc | apply pw_below_drewN | apply below_drew1))) HC1.out HT.out).mono ?_); rintro e w1 ⟨rfl, hb⟩; have HBw : Aside0 (Below w.heap.size w w1) := Aside0.mk (below_chain (w := w) (by repeat (first | exact HBw.out | exact Below.refl _ _ | apply below_alloc | apply pw_below_drewN | apply below_drew1)) hb); have hb0 := pw_cell_below hb hb0; clear hb)
    go_ret
    exact ⟨rfl, (by repeat (first | exact HBw.out | exact Below.refl _ _ | apply below_alloc | apply pw_below_drewN | apply below_drew1))⟩
  · have hc : ¬ t < 0 := by omega
    obtain ⟨cs, hcs⟩ : ∃ cs, l0_0.map LB.cvC = cs := ⟨_, rfl⟩
    obtain ⟨rs, hrs⟩ : ∃ rs, l0_1.map LB.cvR = rs := ⟨_, rfl⟩
    obtain ⟨k1, hk1⟩ := Ev.rounds (LB.toRecord_ev l0_0 l0_1 hl0 hl1)
    have hcl : cs.length ≤ 1048576 := by rw [← hcs, List.length_map]; exact hl0
    have hrl : rs.length ≤ 1048576 := by rw [← hrs, List.length_map]; exact hl1
    rw [hcs, hrs] at hk1
    obtain ⟨ks, tx, bb, hsp, him⟩ := hboth cs rs hcl hrl
    obtain ⟨k2, hk2⟩ := Ev.rounds (LB.eqRecord_ev cs rs hcl hrl)
    have HSP := Aside0.mk hsp
    have HIM := Aside0.mk him
    have HK1 := Aside0.mk hk1
    have HK2 := Aside0.mk hk2
    have hne : (bb != bb) = false := bne_self_eq_false bb
    clear hboth hcs hrs hcl hrl hsp him hk1 hk2 hl0 hl1 ht0
    go_enter Tryd.func10, Tryd.ntmps10
    go_upto_region 1 with (fail)
    try rw [HW.out]
    clear HW
    go_upto_region 5 with (go_at_call 35; (with_reducible refine (laws_szRecord.calls _ _ l0_0 _ _ l0_1 _ t _ (Kd.C_below HR0.out (by repeat (first | exact HBw.out | exact Below.refl _ _ | apply below_alloc | apply pw_below_drewN | apply below_drew1))) HC0.out (Kd.C_below HR1.out (by repeat (first | exact HBw.out | exact Below.refl _ _ | apply below_alloc | apply pw_below_drewN | apply below_drew1))) HC1.out HT.out).mono ?_); rintro e w1 ⟨rfl, hb⟩; have HBw : Aside0 (Below w.heap.size w w1) := Aside0.mk (below_chain (w := w) (by repeat (first | exact HBw.out | exact Below.refl _ _ | apply below_alloc | apply pw_below_drewN | apply below_drew1)) hb); have hb0 := pw_cell_below hb hb0; have hb1 := pw_cell_below hb hb1; clear hb)
    clear hc
    go_upto_region 6 with (first | (go_at_call 37; (refine (laws_toRecord.calls k1 _ _ l0_0 _ _ l0_1 cs rs _ (Kd.C_below HR0.out (by repeat (first | exact HBw.out | exact Below.refl _ _ | apply below_alloc | apply pw_below_drewN | apply below_drew1))) HC0.out (Kd.C_below HR1.out (by repeat (first | exact HBw.out | exact Below.refl _ _ | apply below_alloc | apply pw_below_drewN | apply below_drew1))) HC1.out HK1.out).mono ?_); rintro e w2 ⟨v0, v1, rfl, hR0, hR1, hb⟩; obtain ⟨vA, vc, rfl, hd0, hC0⟩ := Kd.R_reads hR0; obtain ⟨vB, vd, rfl, hd1, hC1⟩ := Kd.R_reads hR1; have HX0 := Aside0.mk hC0; have HX1 := Aside0.mk hC1; have HD0 := Aside0.mk hd0; have HD1 := Aside0.mk hd1; have HBw : Aside0 (Below w.heap.size w w2) := Aside0.mk (below_chain (w := w) (by repeat (first | exact HBw.out | exact Below.refl _ _ | apply below_alloc | apply pw_below_drewN | apply below_drew1)) hb); have hb0 := pw_cell_below hb hb0; have hb1 := pw_cell_below hb hb1; clear hR0 hR1 hC0 hC1 hd0 hd1 hb) | (go_at_call 36; (refine (spec_FormatRecord.calls ks _ _ cs _ _ rs tx bb _ HX0.out HD0.out HX1.out HD1.out HSP.out).mono ?_); rintro e w3 ⟨rfl, hb⟩; have HBw : Aside0 (Below w.heap.size w w3) := Aside0.mk (below_chain (w := w) (by repeat (first | exact HBw.out | exact Below.refl _ _ | apply below_alloc | apply pw_below_drewN | apply below_drew1)) hb); have hb0 := pw_cell_below hb hb0; have hb1 := pw_cell_below hb hb1; clear hb))
    clear HX0 HX1 HD0 HD1
    obtain ⟨wa, rfl⟩ : ∃ x, x = w3 := ⟨_, rfl⟩
    have HA := Aside0.mk (Below.refl wa.heap.size wa)
    have HBwa := HBw
    clear HBw
    go_upto_region 7 with (go_at_call 37; (refine (laws_toRecord.calls k1 _ _ l0_0 _ _ l0_1 cs rs _ (Kd.C_below HR0.out (below_chain HBwa.out (by repeat (first | exact HA.out | exact Below.refl _ _ | apply below_alloc | apply pw_below_drewN | apply below_drew1)))) HC0.out (Kd.C_below HR1.out (below_chain HBwa.out (by repeat (first | exact HA.out | exact Below.refl _ _ | apply below_alloc | apply pw_below_drewN | apply below_drew1)))) HC1.out HK1.out).mono ?_); rintro e w4 ⟨u0, u1, rfl, hR0, hR1, hb⟩; obtain ⟨uA, uc, rfl, hd0, hC0⟩ := Kd.R_reads hR0; obtain ⟨uB, ud, rfl, hd1, hC1⟩ := Kd.R_reads hR1; have HX0 := Aside0.mk (Kd.R_lower hR0 HA.out.size); have HX1 := Aside0.mk (Kd.R_lower hR1 HA.out.size); have HD0 := Aside0.mk hd0; have HD1 := Aside0.mk hd1; have HA := Aside0.mk (below_chain (w := wa) (by repeat (first | exact HA.out | exact Below.refl _ _ | apply below_alloc | apply pw_below_drewN | apply below_drew1)) hb); have hb0 := pw_cell_below hb hb0; have hb1 := pw_cell_below hb hb1; clear hR0 hR1 hC0 hC1 hd0 hd1; clear hb)
    have hal := below_alloc (Below.refl w4.heap.size w4) (.cells #[.slice uA cs.length uc, .slice uB rs.length ud] 52 (0, 0))
    have BK := Aside0.mk (blk_new w4 (.cells #[.slice uA cs.length uc, .slice uB rs.length ud] 52 (0, 0)))
    have HX0 := Aside0.mk (Kd.R_mono (ok' := fun k => k < w4.heap.size) (Kd.R_below (Kd.R_bound HX0.out) hal) (fun k hk => hk.2.2.1))
    have HX1 := Aside0.mk (Kd.R_mono (ok' := fun k => k < w4.heap.size) (Kd.R_below (Kd.R_bound HX1.out) hal) (fun k hk => hk.2.2.1))
    have HA := Aside0.mk (below_chain (w := wa) HA.out hal)
    have hb0 := pw_cell_below hal hb0
    have hb1 := pw_cell_below hal hb1
    obtain ⟨gx, hgx⟩ : ∃ g, w4.heap.size = g := ⟨_, rfl⟩
    generalize w4.alloc (.cells #[.slice uA cs.length uc, .slice uB rs.length ud] 52 (0, 0)) = wq at hal BK HX0 HX1 HA hb0 hb1 ⊢
    rw [hgx] at BK HX0 HX1
    try rw [hgx]
    clear hal hgx
    have hz0 : wq.cell? ⟨gx, 0, none⟩ = some (.slice uA cs.length uc) := (blk_cell BK.out 0).trans rfl
    have hz1 : wq.cell? ⟨gx, 1, none⟩ = some (.slice uB rs.length ud) := (blk_cell BK.out 1).trans rfl
    clear BK
    go_upto_region 8 with (go_at_call 38; (refine (HIM.out _ _ _ _ _ (LW.below HL.out (below_chain HBwa.out (by repeat (first | exact HA.out | exact Below.refl _ _ | apply below_alloc | apply pw_below_drewN | apply below_drew1)))) (Kd.C_below (Kd.R_reads' HX0.out).2.2 (by repeat (first | exact Below.refl _ _ | apply below_alloc | apply pw_below_drewN | apply below_drew1))) HD0.out (Kd.C_below (Kd.R_reads' HX1.out).2.2 (by repeat (first | exact Below.refl _ _ | apply below_alloc | apply pw_below_drewN | apply below_drew1))) HD1.out).mono ?_); rintro e w5 ⟨rfl, hb⟩; have HA := Aside0.mk (below_chain (w := wa) (by repeat (first | exact HA.out | exact Below.refl _ _ | apply below_alloc | apply pw_below_drewN | apply below_drew1)) hb); have hb0 := pw_cell_below hb hb0; have hb1 := pw_cell_below hb hb1; have hz0 := pw_cell_below hb hz0; have hz1 := pw_cell_below hb hz1; have HX0 := Aside0.mk (Kd.R_below HX0.out hb); have HX1 := Aside0.mk (Kd.R_below HX1.out hb); clear hb)
    go_upto_region 10 with (fail)
    obtain ⟨w6, hw6⟩ : ∃ x, w5 = x := ⟨_, rfl⟩
    rw [hw6] at hb0 hb1 hz0 hz1 HA HX0 HX1 ⊢
    clear hw6
    have HS0 := Aside0.mk (show (fun w' => w'.cell? ⟨w.heap.size, 0, none⟩ = some (.slice A0_0 l0_0.length c0_0) ∧ w'.cell? ⟨w.heap.size, 1, none⟩ = some (.slice A0_1 l0_1.length c0_1) ∧ w'.cell? ⟨gx, 0, none⟩ = some (.slice uA cs.length uc) ∧ w'.cell? ⟨gx, 1, none⟩ = some (.slice uB rs.length ud) ∧ Aside0 (Below wa.heap.size wa w') ∧ Aside0 (Kd.R k94 94 w' wa.heap.size (fun k => k < gx) (.slice uA cs.length uc) cs) ∧ Aside0 (Kd.R k96 96 w' wa.heap.size (fun k => k < gx) (.slice uB rs.length ud) rs)) w6.drew from ⟨hb0, hb1, hz0, hz1, ⟨below_drew1 HA.out⟩, ⟨Kd.R_drew HX0.out⟩, ⟨Kd.R_drew HX1.out⟩⟩)
    clear hb0 hb1 hz0 hz1 HA HX0 HX1
    all_goals refine start_ (n := 5) (S := (fun w' => w'.cell? ⟨w.heap.size, 0, none⟩ = some (.slice A0_0 l0_0.length c0_0) ∧ w'.cell? ⟨w.heap.size, 1, none⟩ = some (.slice A0_1 l0_1.length c0_1) ∧ w'.cell? ⟨gx, 0, none⟩ = some (.slice uA cs.length uc) ∧ w'.cell? ⟨gx, 1, none⟩ = some (.slice uB rs.length ud) ∧ Aside0 (Below wa.heap.size wa w') ∧ Aside0 (Kd.R k94 94 w' wa.heap.size (fun k => k < gx) (.slice uA cs.length uc) cs) ∧ Aside0 (Kd.R k96 96 w' wa.heap.size (fun k => k < gx) (.slice uB rs.length ud) rs))) (ds := []) (bl 0 5) (by kernel_rfl) rfl rfl HS0.out (fun hHeld => ?_); refine with_tabW laws_FnExactFormatRecord.tab10 laws_FnExactFormatRecord.bits10 (fun HT_ HW_ => ?_)
    all_goals generalize w6.drew = wv at hHeld ⊢
    all_goals first | refine tA_ 0 (some 35) (bl 1 5) HT_.out HW_.out hHeld (h := ?_) | refine pO_ 0 (some 35) (bl 1 5) HT_.out (h := ?_)
    all_goals first | refine tA_ 1 (some 36) (bl 2 5) HT_.out HW_.out hHeld (h := ?_) | refine pO_ 1 (some 36) (bl 2 5) HT_.out (h := ?_)
    all_goals first | refine pO_ 2 (some 37) (bl 3 5) HT_.out (h := ?_) | (refine one_ (i := 2) (N := some 37) (bl 3 5) rfl rfl (one_of HT_.out (by kernel_rfl)) (by decide) (fun K hK => ?_); refine goes_ Tryd.func37 (by kernel_rfl) rfl #[.agg #[.slice A0_0 l0_0.length c0_0, .slice A0_1 l0_1.length c0_1]] (by rfl) rfl rfl (by (try simp only [List.map_toArray, List.map_cons, List.map_nil]); first | done | rfl) ?_; with_reducible refine (laws_toRecord.calls k1 _ _ l0_0 _ _ l0_1 cs rs _ (Kd.C_below HR0.out (below_chain HBwa.out hHeld.2.2.2.2.1.out)) HC0.out (Kd.C_below HR1.out (below_chain HBwa.out hHeld.2.2.2.2.1.out)) HC1.out HK1.out).mono ?_; rintro e w7 ⟨x0, x1, rfl, hR0, hR1, hb⟩; obtain ⟨xA, xc, rfl, hd0, hC0⟩ := Kd.R_reads hR0; obtain ⟨xB, xd, rfl, hd1, hC1⟩ := Kd.R_reads hR1; have HY0 := Aside0.mk hC0; have HY1 := Aside0.mk hC1; have HE0 := Aside0.mk hd0; have HE1 := Aside0.mk hd1; clear hR0 hR1 hC0 hC1 hd0 hd1; refine ⟨_, rfl, ?_⟩; refine hK.out _ _ ⟨pw_cell_below hb hHeld.1, pw_cell_below hb hHeld.2.1, pw_cell_below hb hHeld.2.2.1, pw_cell_below hb hHeld.2.2.2.1, ⟨below_chain hHeld.2.2.2.2.1.out hb⟩, ⟨Kd.R_below hHeld.2.2.2.2.2.1.out hb⟩, ⟨Kd.R_below hHeld.2.2.2.2.2.2.out hb⟩⟩ (fun hHeld => ?_); clear hK K; refine norm_ (a' := ?_) ?_ ?_; rotate_left; (show Act.put _ (some 37) _ = _; simp only [Act.put, List.setIfInBounds_toArray, List.set_cons_zero, List.set_cons_succ, i64_w, i32_w]; rfl))
    all_goals first | refine pO_ 3 (some 38) (bl 4 5) HT_.out (h := ?_) | (refine one_ (i := 3) (N := some 38) (bl 4 5) rfl rfl (one_of HT_.out (by kernel_rfl)) (by decide) (fun K hK => ?_); refine goes_ Tryd.func39 (by kernel_rfl) rfl #[.agg #[.slice uA cs.length uc, .slice uB rs.length ud], .agg #[.slice xA cs.length xc, .slice xB rs.length xd]] (by rfl) rfl rfl (by (try simp only [List.map_toArray, List.map_cons, List.map_nil]); first | done | rfl) ?_; with_reducible refine (laws_eqRecord.calls k2 _ _ cs _ _ rs _ _ cs _ _ rs true _ (Kd.R_reads' hHeld.2.2.2.2.2.1.out).2.2 HD0.out (Kd.R_reads' hHeld.2.2.2.2.2.2.out).2.2 HD1.out HY0.out HE0.out HY1.out HE1.out HK2.out).mono ?_; rintro e w8 ⟨rfl, hb⟩; refine ⟨_, rfl, ?_⟩; refine hK.out _ _ ⟨pw_cell_below hb hHeld.1, pw_cell_below hb hHeld.2.1, pw_cell_below hb hHeld.2.2.1, pw_cell_below hb hHeld.2.2.2.1, ⟨below_chain hHeld.2.2.2.2.1.out hb⟩, ⟨Kd.R_below hHeld.2.2.2.2.2.1.out hb⟩, ⟨Kd.R_below hHeld.2.2.2.2.2.2.out hb⟩⟩ (fun hHeld => ?_); clear hK K; refine norm_ (a' := ?_) ?_ ?_; rotate_left; (show Act.put _ (some 38) _ = _; simp only [Act.put, List.setIfInBounds_toArray, List.set_cons_zero, List.set_cons_succ, i64_w, i32_w]; rfl))
    all_goals first | refine pA_ 4 (some 39) (bl 5 5) HT_.out (h := ?_) | refine pO_ 4 (some 39) (bl 5 5) HT_.out (h := ?_)
    all_goals refine done_ (done_of HT_.out (by kernel_rfl)) ?_
    go_wp2
    go_ret
    exact ⟨rfl, below_chain HBwa.out hHeld.2.2.2.2.1.out⟩

end Go.Proofs.YtdmbboijcaelcaaDoor.Q

-- Written by a program of this session (wip/xprint.py over the kit's printer).
import Derived.Test.YtdmbboijcaelcaaDoorQ0
import Derived.Test.YtdmbboijcaelcaaDoorQB0
import Derived.Test.YtdmbboijcaelcaaDoorQB1
import Derived.Test.YtdmbboijcaelcaaDoorQF18
import Derived.Test.YtdmbboijcaelcaaDoorQF19
import Derived.Test.YtdmbboijcaelcaaDoorQF20
import Derived.Test.YtdmbboijcaelcaaDoorQF40
import Derived.Test.YtdmbboijcaelcaaDoorQLBBaseB
import Derived.Test.YtdmbboijcaelcaaDoorQLBBaseMark
import Derived.Test.YtdmbboijcaelcaaDoorQM0
import Derived.Test.YtdmbboijcaelcaaDoorQP
import Derived.Test.YtdmbboijcaelcaaDoorFmt
namespace Go.Proofs.YtdmbboijcaelcaaDoor.Q
open Go.RowKit Go.Proofs.YtdmbboijcaelcaaDoorW.PrintWords Go.Proofs.YtdmbboijcaelcaaDoorW.PrintLast
set_option linter.unusedVariables false
set_option linter.unusedSimpArgs false

/-! ### laws_FnExactRecordLines: function 11 -/
def laws_FnExactRecordLines.T10 : Bool × List (List Nat × List Nat) := (true, [([], []), ([], []), ([1], [1]), ([0, 2, 2], [0, 2]), ([3], [3])])
def laws_FnExactRecordLines.B10 : List Nat := [0, 0, 2, 7, 15]
theorem laws_FnExactRecordLines.tab10 : rtab .any (opsOf Tryd.f11 10) = laws_FnExactRecordLines.T10 := by kernel_rfl
theorem laws_FnExactRecordLines.bits10 : waitsOk laws_FnExactRecordLines.T10.2 laws_FnExactRecordLines.B10 = true := by kernel_rfl
set_option maxHeartbeats 4000000 in
set_option maxRecDepth 100000 in
theorem laws_FnExactRecordLines.calls (A0_0 : Option Addr) (c0_0 : Nat) (l0_0 : List S119) (A0_1 : Option Addr) (c0_1 : Nat) (l0_1 : List S121) (n : Int) (w : World) (hr0_0 : Kd.C k119 w A0_0 l0_0.length l0_0) (hc0_0 : l0_0.length ≤ c0_0) (hr0_1 : Kd.C k121 w A0_1 l0_1.length l0_1) (hc0_1 : l0_1.length ≤ c0_1) (hlw : LW w)
    (hboth : ∀ (cs : List S94) (rs : List S96), cs.length ≤ 1048576 → rs.length ≤ 1048576 → ∃ (k : Nat) (l : List ByteArray) (bb : Bool), spec_RecordLines.f k cs rs n = some (l, bb) ∧ l.length ≤ 1048576 ∧ ∀ (W : World) (A B : Option Addr) (c d : Nat), LW W → Kd.C k94 W A cs.length cs → cs.length ≤ c → Kd.C k96 W B rs.length rs → rs.length ≤ d → Calls Tryd.prog 41 #[.agg #[.slice A cs.length c, .slice B rs.length d], .int .i64 n] W fun e w' => ∃ v, e = .returned (.tuple #[v, .bool bb]) ∧ Kd.string.R 9 w' W.heap.size (fun _ => True) v l ∧ Below W.heap.size W w')
    (heq : ∀ l : List ByteArray, l.length ≤ 1048576 → ∃ k, laws_eqStringS.f k l l = some true)
    (hmh : ∀ l : List ByteArray, l.length ≤ 1048576 → ∃ (q : Int) (my : List ByteArray) (k1 k2 : Nat), 0 ≤ q ∧ my.length = l.length ∧ laws_markStringS.f k1 l 1 = some (q, my) ∧ laws_heldStringS.f k2 my 1 = some q) :
    Calls Tryd.prog 11 #[.agg #[.slice A0_0 l0_0.length c0_0, .slice A0_1 l0_1.length c0_1], .int .i64 n] w fun e w' => e = .returned (.bool true) ∧ Below w.heap.size w w' := by
  obtain ⟨t, ht, hc⟩ := LB.szRecord_eq l0_0 l0_1 hr0_0.2.1 hr0_1.2.1
  have HT := Aside0.mk ht
  have HL := Aside0.mk hlw
  clear ht hlw
  have HR0 := Aside0.mk hr0_0
  have HR1 := Aside0.mk hr0_1
  have HC0 := Aside0.mk hc0_0
  have HC1 := Aside0.mk hc0_1
  clear hr0_0 hr0_1 hc0_0 hc0_1
  obtain ⟨wb, hwb⟩ : ∃ wb, (w).alloc (.cells #[.slice A0_0 l0_0.length c0_0, .slice A0_1 l0_1.length c0_1] 46 (0, 0)) = wb := ⟨_, rfl⟩
  have HBw := Aside0.mk (show Below w.heap.size w wb from by rw [← hwb]; repeat (first | exact Below.refl _ _ | apply below_alloc))
  have HWB := HBw
  have hhr : wb.heap[w.heap.size]? = some (.cells #[.slice A0_0 l0_0.length c0_0, .slice A0_1 l0_1.length c0_1] 46 (0, 0)) := by rw [← hwb]; have h := blk_new (w) (.cells #[.slice A0_0 l0_0.length c0_0, .slice A0_1 l0_1.length c0_1] 46 (0, 0)); rw [show (w).heap.size = w.heap.size from by rfl] at h; exact h
  have hb0 : wb.cell? ⟨w.heap.size, 0, none⟩ = some (.slice A0_0 l0_0.length c0_0) := (blk_cell hhr 0).trans rfl
  have hb1 : wb.cell? ⟨w.heap.size, 1, none⟩ = some (.slice A0_1 l0_1.length c0_1) := (blk_cell hhr 1).trans rfl
  have hbs : w.heap.size < wb.heap.size := blk_lt hhr
  have HW := Aside0.mk hwb
  clear hwb hhr
  rcases hc with hc | ⟨ht0, _, hl0, hl1⟩
  · clear hboth heq hmh
    go_enter Tryd.func11, Tryd.ntmps11
    go_upto_region 1 with (fail)
    try rw [HW.out]
    clear HW
    go_wp2_with (go_at_call 35; (with_reducible refine (laws_szRecord.calls _ _ l0_0 _ _ l0_1 _ t _ (Kd.C_below HR0.out (by repeat (first | exact HBw.out | exact Below.refl _ _ | apply below_alloc | apply pw_below_drewN | apply below_drew1))) HC0.out (Kd.C_below HR1.out (by repeat (first | exact HBw.out | exact Below.refl _ _ | apply below_alloc | apply pw_below_drewN | apply below_drew1))) HC1.out HT.out).mono ?_); rintro e w1 ⟨rfl, hb⟩; have HBw : Aside0 (Below w.heap.size w w1) := Aside0.mk (below_chain (w := w) (by repeat (first | exact HBw.out | exact Below.refl _ _ | apply below_alloc | apply pw_below_drewN | apply below_drew1)) hb); have hb0 := pw_cell_below hb hb0; clear hb)
    go_ret
    exact ⟨rfl, (by repeat (first | exact HBw.out | exact Below.refl _ _ | apply below_alloc | apply pw_below_drewN | apply below_drew1))⟩
  · have hc : ¬ t < 0 := by omega
    obtain ⟨cs, hcs⟩ : ∃ cs, l0_0.map LB.cvC = cs := ⟨_, rfl⟩
    obtain ⟨rs, hrs⟩ : ∃ rs, l0_1.map LB.cvR = rs := ⟨_, rfl⟩
    obtain ⟨k1, hk1⟩ := Ev.rounds (LB.toRecord_ev l0_0 l0_1 hl0 hl1)
    have hcl : cs.length ≤ 1048576 := by rw [← hcs, List.length_map]; exact hl0
    have hrl : rs.length ≤ 1048576 := by rw [← hrs, List.length_map]; exact hl1
    rw [hcs, hrs] at hk1
    obtain ⟨ks, l, bb, hsp, hll, him⟩ := hboth cs rs hcl hrl
    obtain ⟨k2, hk2⟩ := Ev.rounds (LB.eqRecord_ev cs rs hcl hrl)
    obtain ⟨mm, mx_, my_, hmm, _, hmk⟩ := LB.markRecord_ev cs rs 1 hcl hrl (by omega) (by omega)
    obtain ⟨k3, hk3⟩ := Ev.rounds hmk
    obtain ⟨k4, hk4⟩ := heq l hll
    obtain ⟨q, my, k5, k6, hq0, hml, hk5, hk6⟩ := hmh l hll
    have HSP := Aside0.mk hsp
    have HIM := Aside0.mk him
    have HK1 := Aside0.mk hk1
    have HK2 := Aside0.mk hk2
    have HK3 := Aside0.mk hk3
    have HK4 := Aside0.mk hk4
    have HK5 := Aside0.mk hk5
    have hm0 : ¬ mm < 0 := by omega
    have hqz : ¬ q < 0 := by omega
    have hne : (bb != bb) = false := bne_self_eq_false bb
    have hqe : (q != q) = false := bne_self_eq_false q
    have HHE := Aside0.mk (fun (W : World) (A5 : Option Addr) (c5 : Nat) (hc : l.length ≤ c5) (hC : Kd.C Kd.string W A5 my.length my) => show Calls Tryd.prog 20 #[.slice A5 l.length c5, .int .i64 1] W (fun e w' => e = .returned (.int .i64 q) ∧ Below W.heap.size W w') from by
      have h := laws_heldStringS.calls k6 A5 c5 my 1 q W hC (by omega) hk6
      rw [hml] at h
      exact h)
    clear hboth heq hmh hcs hrs hcl hrl hsp him hk1 hk2 hk3 hk4 hk5 hk6 hmk hmm hq0 hml hll hl0 hl1 ht0
    go_enter Tryd.func11, Tryd.ntmps11
    go_upto_region 1 with (fail)
    try rw [HW.out]
    clear HW
    go_upto_region 5 with (go_at_call 35; (with_reducible refine (laws_szRecord.calls _ _ l0_0 _ _ l0_1 _ t _ (Kd.C_below HR0.out (by repeat (first | exact HBw.out | exact Below.refl _ _ | apply below_alloc | apply pw_below_drewN | apply below_drew1))) HC0.out (Kd.C_below HR1.out (by repeat (first | exact HBw.out | exact Below.refl _ _ | apply below_alloc | apply pw_below_drewN | apply below_drew1))) HC1.out HT.out).mono ?_); rintro e w1 ⟨rfl, hb⟩; have HBw : Aside0 (Below w.heap.size w w1) := Aside0.mk (below_chain (w := w) (by repeat (first | exact HBw.out | exact Below.refl _ _ | apply below_alloc | apply pw_below_drewN | apply below_drew1)) hb); have hb0 := pw_cell_below hb hb0; have hb1 := pw_cell_below hb hb1; clear hb)
    clear hc
    go_upto_region 6 with (first | (go_at_call 37; (refine (laws_toRecord.calls k1 _ _ l0_0 _ _ l0_1 cs rs _ (Kd.C_below HR0.out (by repeat (first | exact HBw.out | exact Below.refl _ _ | apply below_alloc | apply pw_below_drewN | apply below_drew1))) HC0.out (Kd.C_below HR1.out (by repeat (first | exact HBw.out | exact Below.refl _ _ | apply below_alloc | apply pw_below_drewN | apply below_drew1))) HC1.out HK1.out).mono ?_); rintro e w2 ⟨v0, v1, rfl, hR0, hR1, hb⟩; obtain ⟨vA, vc, rfl, hd0, hC0⟩ := Kd.R_reads hR0; obtain ⟨vB, vd, rfl, hd1, hC1⟩ := Kd.R_reads hR1; have HX0 := Aside0.mk hC0; have HX1 := Aside0.mk hC1; have HD0 := Aside0.mk hd0; have HD1 := Aside0.mk hd1; have HBw : Aside0 (Below w.heap.size w w2) := Aside0.mk (below_chain (w := w) (by repeat (first | exact HBw.out | exact Below.refl _ _ | apply below_alloc | apply pw_below_drewN | apply below_drew1)) hb); have hb0 := pw_cell_below hb hb0; have hb1 := pw_cell_below hb hb1; clear hR0 hR1 hC0 hC1 hd0 hd1 hb) | (go_at_call 40; (refine (spec_RecordLines.calls ks _ _ cs _ _ rs n l bb _ HX0.out HD0.out HX1.out HD1.out HSP.out).mono ?_); rintro e w3 ⟨v2, rfl, hR, hb⟩; obtain ⟨A2, c2, rfl, hc2, hC2⟩ := Kd.R_reads hR; have HW0 := Aside0.mk hC2; have HC2 := Aside0.mk hc2; have HBw : Aside0 (Below w.heap.size w w3) := Aside0.mk (below_chain (w := w) (by repeat (first | exact HBw.out | exact Below.refl _ _ | apply below_alloc | apply pw_below_drewN | apply below_drew1)) hb); have hb0 := pw_cell_below hb hb0; have hb1 := pw_cell_below hb hb1; clear hR hC2 hc2 hb))
    clear HX0 HX1 HD0 HD1
    obtain ⟨wa, rfl⟩ : ∃ x, x = w3 := ⟨_, rfl⟩
    have HA := Aside0.mk (Below.refl wa.heap.size wa)
    have HBwa := HBw
    clear HBw
    have HB0a := Aside0.mk hb0
    have HB1a := Aside0.mk hb1
    go_upto_region 7 with (go_at_call 37; (refine (laws_toRecord.calls k1 _ _ l0_0 _ _ l0_1 cs rs _ (Kd.C_below HR0.out (below_chain HBwa.out (by repeat (first | exact HA.out | exact Below.refl _ _ | apply below_alloc | apply pw_below_drewN | apply below_drew1)))) HC0.out (Kd.C_below HR1.out (below_chain HBwa.out (by repeat (first | exact HA.out | exact Below.refl _ _ | apply below_alloc | apply pw_below_drewN | apply below_drew1)))) HC1.out HK1.out).mono ?_); rintro e w4 ⟨u0, u1, rfl, hR0, hR1, hb⟩; obtain ⟨uA, uc, rfl, hd0, hC0⟩ := Kd.R_reads hR0; obtain ⟨uB, ud, rfl, hd1, hC1⟩ := Kd.R_reads hR1; have HX0 := Aside0.mk (Kd.R_lower hR0 HA.out.size); have HX1 := Aside0.mk (Kd.R_lower hR1 HA.out.size); have HD0 := Aside0.mk hd0; have HD1 := Aside0.mk hd1; have HA := Aside0.mk (below_chain (w := wa) (by repeat (first | exact HA.out | exact Below.refl _ _ | apply below_alloc | apply pw_below_drewN | apply below_drew1)) hb); have hb0 := pw_cell_below hb hb0; have hb1 := pw_cell_below hb hb1; clear hR0 hR1 hC0 hC1 hd0 hd1; clear hb)
    have hal := below_alloc (Below.refl w4.heap.size w4) (.cells #[.slice uA cs.length uc, .slice uB rs.length ud] 52 (0, 0))
    have BK := Aside0.mk (blk_new w4 (.cells #[.slice uA cs.length uc, .slice uB rs.length ud] 52 (0, 0)))
    have HX0 := Aside0.mk (Kd.R_mono (ok' := fun k => k < w4.heap.size) (Kd.R_below (Kd.R_bound HX0.out) hal) (fun k hk => hk.2.2.1))
    have HX1 := Aside0.mk (Kd.R_mono (ok' := fun k => k < w4.heap.size) (Kd.R_below (Kd.R_bound HX1.out) hal) (fun k hk => hk.2.2.1))
    have HA := Aside0.mk (below_chain (w := wa) HA.out hal)
    have hb0 := pw_cell_below hal hb0
    have hb1 := pw_cell_below hal hb1
    have HSZ := Aside0.mk (show (w4.alloc (.cells #[.slice uA cs.length uc, .slice uB rs.length ud] 52 (0, 0))).heap.size = w4.heap.size + 1 from by simp)
    obtain ⟨gx, hgx⟩ : ∃ g, w4.heap.size = g := ⟨_, rfl⟩
    generalize w4.alloc (.cells #[.slice uA cs.length uc, .slice uB rs.length ud] 52 (0, 0)) = wq at hal BK HX0 HX1 HA hb0 hb1 HSZ ⊢
    rw [hgx] at BK HX0 HX1 HSZ
    try rw [hgx]
    clear hal hgx
    have hz0 : wq.cell? ⟨gx, 0, none⟩ = some (.slice uA cs.length uc) := (blk_cell BK.out 0).trans rfl
    have hz1 : wq.cell? ⟨gx, 1, none⟩ = some (.slice uB rs.length ud) := (blk_cell BK.out 1).trans rfl
    clear BK
    go_upto_region 8 with (go_at_call 41; (refine (HIM.out _ _ _ _ _ (LW.below HL.out (below_chain HBwa.out (by repeat (first | exact HA.out | exact Below.refl _ _ | apply below_alloc | apply pw_below_drewN | apply below_drew1)))) (Kd.C_below (Kd.R_reads' HX0.out).2.2 (by repeat (first | exact Below.refl _ _ | apply below_alloc | apply pw_below_drewN | apply below_drew1))) HD0.out (Kd.C_below (Kd.R_reads' HX1.out).2.2 (by repeat (first | exact Below.refl _ _ | apply below_alloc | apply pw_below_drewN | apply below_drew1))) HD1.out).mono ?_); rintro e w5 ⟨v5, rfl, hR, hb⟩; obtain ⟨A5, c5, rfl, hc5, hC5⟩ := Kd.R_reads hR; have HC5_A5 := Aside0.mk hc5; have HG := Aside0.mk (Kd.R_mono (ok' := fun k => gx < k) (Kd.R_bound (Kd.R_lower hR (Nat.le_refl wq.heap.size))) (fun k hk => by have h1 := hk.2.1; have h2 := HSZ.out; omega)); have HG := Aside0.mk (Kd.R_lower HG.out HA.out.size); have HA := Aside0.mk (below_chain (w := wa) (by repeat (first | exact HA.out | exact Below.refl _ _ | apply below_alloc | apply pw_below_drewN | apply below_drew1)) hb); have hb0 := pw_cell_below hb hb0; have hb1 := pw_cell_below hb hb1; have hz0 := pw_cell_below hb hz0; have hz1 := pw_cell_below hb hz1; have HX0 := Aside0.mk (Kd.R_below HX0.out hb); have HX1 := Aside0.mk (Kd.R_below HX1.out hb); clear hR hc5 hC5; clear hb)
    clear HSZ
    go_upto_region 10 with (go_at_call 18; (refine (laws_eqStringS.calls k4 A5 c5 l A2 c2 l true _ (Kd.C_below (Kd.R_reads' HG.out).2.2 (by repeat (first | exact Below.refl _ _ | apply below_alloc | apply pw_below_drewN | apply below_drew1))) HC5_A5.out (Kd.C_below HW0.out (by repeat (first | exact HA.out | exact Below.refl _ _ | apply below_alloc | apply pw_below_drewN | apply below_drew1))) HC2.out HK4.out).mono ?_); rintro e w6 ⟨rfl, hd⟩; have hb := Drawn0.below hd; clear hd; have HA := Aside0.mk (below_chain (w := wa) (by repeat (first | exact HA.out | exact Below.refl _ _ | apply below_alloc | apply pw_below_drewN | apply below_drew1)) hb); have hb0 := pw_cell_below hb hb0; have hb1 := pw_cell_below hb hb1; have hz0 := pw_cell_below hb hz0; have hz1 := pw_cell_below hb hz1; have HX0 := Aside0.mk (Kd.R_below HX0.out hb); have HX1 := Aside0.mk (Kd.R_below HX1.out hb); have HG := Aside0.mk (Kd.R_below HG.out (below_chain (by repeat (first | exact Below.refl _ _ | apply below_alloc | apply pw_below_drewN | apply below_drew1)) hb)); clear hb)
    have HS0 := Aside0.mk (show (fun w' => w'.cell? ⟨w.heap.size, 0, none⟩ = some (.slice A0_0 l0_0.length c0_0) ∧ w'.cell? ⟨w.heap.size, 1, none⟩ = some (.slice A0_1 l0_1.length c0_1) ∧ w'.cell? ⟨gx, 0, none⟩ = some (.slice uA cs.length uc) ∧ w'.cell? ⟨gx, 1, none⟩ = some (.slice uB rs.length ud) ∧ Aside0 (Below wa.heap.size wa w') ∧ Aside0 (Kd.R k94 94 w' wa.heap.size (fun k => k < gx) (.slice uA cs.length uc) cs) ∧ Aside0 (Kd.R k96 96 w' wa.heap.size (fun k => k < gx) (.slice uB rs.length ud) rs) ∧ Aside0 (Kd.string.R 9 w' wa.heap.size (fun k => gx < k) (.slice A5 l.length c5) l)) w6.drew from ⟨hb0, hb1, hz0, hz1, ⟨below_drew1 HA.out⟩, ⟨Kd.R_drew HX0.out⟩, ⟨Kd.R_drew HX1.out⟩, ⟨Kd.R_drew HG.out⟩⟩)
    clear hb0 hb1 hz0 hz1 HA HX0 HX1 HG
    all_goals refine start_ (n := 5) (S := (fun w' => w'.cell? ⟨w.heap.size, 0, none⟩ = some (.slice A0_0 l0_0.length c0_0) ∧ w'.cell? ⟨w.heap.size, 1, none⟩ = some (.slice A0_1 l0_1.length c0_1) ∧ w'.cell? ⟨gx, 0, none⟩ = some (.slice uA cs.length uc) ∧ w'.cell? ⟨gx, 1, none⟩ = some (.slice uB rs.length ud) ∧ Aside0 (Below wa.heap.size wa w') ∧ Aside0 (Kd.R k94 94 w' wa.heap.size (fun k => k < gx) (.slice uA cs.length uc) cs) ∧ Aside0 (Kd.R k96 96 w' wa.heap.size (fun k => k < gx) (.slice uB rs.length ud) rs) ∧ Aside0 (Kd.string.R 9 w' wa.heap.size (fun k => gx < k) (.slice A5 l.length c5) l))) (ds := []) (bl 0 5) (by kernel_rfl) rfl rfl HS0.out (fun hHeld => ?_); refine with_tabW laws_FnExactRecordLines.tab10 laws_FnExactRecordLines.bits10 (fun HT_ HW_ => ?_)
    all_goals generalize w6.drew = wv at hHeld ⊢
    all_goals first | refine tA_ 0 (some 45) (bl 1 5) HT_.out HW_.out hHeld (h := ?_) | refine pO_ 0 (some 45) (bl 1 5) HT_.out (h := ?_)
    all_goals first | refine tA_ 1 (some 46) (bl 2 5) HT_.out HW_.out hHeld (h := ?_) | refine pO_ 1 (some 46) (bl 2 5) HT_.out (h := ?_)
    all_goals first | refine pO_ 2 (some 47) (bl 3 5) HT_.out (h := ?_) | (refine one_ (i := 2) (N := some 47) (bl 3 5) rfl rfl (one_of HT_.out (by kernel_rfl)) (by decide) (fun K hK => ?_); refine goes_ Tryd.func37 (by kernel_rfl) rfl #[.agg #[.slice A0_0 l0_0.length c0_0, .slice A0_1 l0_1.length c0_1]] (by rfl) rfl rfl (by (try simp only [List.map_toArray, List.map_cons, List.map_nil]); first | done | rfl) ?_; with_reducible refine (laws_toRecord.calls k1 _ _ l0_0 _ _ l0_1 cs rs _ (Kd.C_below HR0.out (below_chain HBwa.out hHeld.2.2.2.2.1.out)) HC0.out (Kd.C_below HR1.out (below_chain HBwa.out hHeld.2.2.2.2.1.out)) HC1.out HK1.out).mono ?_; rintro e w7 ⟨x0, x1, rfl, hR0, hR1, hb⟩; obtain ⟨xA, xc, rfl, hd0, hC0⟩ := Kd.R_reads hR0; obtain ⟨xB, xd, rfl, hd1, hC1⟩ := Kd.R_reads hR1; have HY0 := Aside0.mk hC0; have HY1 := Aside0.mk hC1; have HE0 := Aside0.mk hd0; have HE1 := Aside0.mk hd1; clear hR0 hR1 hC0 hC1 hd0 hd1; refine ⟨_, rfl, ?_⟩; refine hK.out _ _ ⟨pw_cell_below hb hHeld.1, pw_cell_below hb hHeld.2.1, pw_cell_below hb hHeld.2.2.1, pw_cell_below hb hHeld.2.2.2.1, ⟨below_chain hHeld.2.2.2.2.1.out hb⟩, ⟨Kd.R_below hHeld.2.2.2.2.2.1.out hb⟩, ⟨Kd.R_below hHeld.2.2.2.2.2.2.1.out hb⟩, ⟨Kd.R_below hHeld.2.2.2.2.2.2.2.out hb⟩⟩ (fun hHeld => ?_); clear hK K; refine norm_ (a' := ?_) ?_ ?_; rotate_left; (show Act.put _ (some 47) _ = _; simp only [Act.put, List.setIfInBounds_toArray, List.set_cons_zero, List.set_cons_succ, i64_w, i32_w]; rfl))
    all_goals first | refine pO_ 3 (some 48) (bl 4 5) HT_.out (h := ?_) | (refine one_ (i := 3) (N := some 48) (bl 4 5) rfl rfl (one_of HT_.out (by kernel_rfl)) (by decide) (fun K hK => ?_); refine goes_ Tryd.func39 (by kernel_rfl) rfl #[.agg #[.slice uA cs.length uc, .slice uB rs.length ud], .agg #[.slice xA cs.length xc, .slice xB rs.length xd]] (by rfl) rfl rfl (by (try simp only [List.map_toArray, List.map_cons, List.map_nil]); first | done | rfl) ?_; with_reducible refine (laws_eqRecord.calls k2 _ _ cs _ _ rs _ _ cs _ _ rs true _ (Kd.R_reads' hHeld.2.2.2.2.2.1.out).2.2 HD0.out (Kd.R_reads' hHeld.2.2.2.2.2.2.1.out).2.2 HD1.out HY0.out HE0.out HY1.out HE1.out HK2.out).mono ?_; rintro e w8 ⟨rfl, hb⟩; refine ⟨_, rfl, ?_⟩; refine hK.out _ _ ⟨pw_cell_below hb hHeld.1, pw_cell_below hb hHeld.2.1, pw_cell_below hb hHeld.2.2.1, pw_cell_below hb hHeld.2.2.2.1, ⟨below_chain hHeld.2.2.2.2.1.out hb⟩, ⟨Kd.R_below hHeld.2.2.2.2.2.1.out hb⟩, ⟨Kd.R_below hHeld.2.2.2.2.2.2.1.out hb⟩, ⟨Kd.R_below hHeld.2.2.2.2.2.2.2.out hb⟩⟩ (fun hHeld => ?_); clear hK K; refine norm_ (a' := ?_) ?_ ?_; rotate_left; (show Act.put _ (some 48) _ = _; simp only [Act.put, List.setIfInBounds_toArray, List.set_cons_zero, List.set_cons_succ, i64_w, i32_w]; rfl))
    all_goals first | refine pA_ 4 (some 49) (bl 5 5) HT_.out (h := ?_) | refine pO_ 4 (some 49) (bl 5 5) HT_.out (h := ?_)
    all_goals refine done_ (done_of HT_.out (by kernel_rfl)) ?_
    obtain ⟨hb0, hb1, hz0, hz1, HA, HX0, HX1, HG⟩ := hHeld
    obtain ⟨w9, hw9⟩ : ∃ x, w8 = x := ⟨_, rfl⟩
    rw [hw9] at hb0 hb1 hz0 hz1 HA HX0 HX1 HG ⊢
    clear hw9 HS0 HY0 HY1 HE0 HE1
    go_upto_region 14 with (go_at_call 42; (refine (laws_markRecord.calls k3 (fun k => k < gx) _ cs (fun k => k < gx) _ rs 1 mm mx_ my_ wa _ (by repeat (first | exact HA.out | exact Below.refl _ _ | apply below_alloc | apply pw_below_drewN | apply below_drew1)) (by (with_reducible repeat (first | apply Kd.R_alloc | apply Kd.R_drewN | apply Kd.R_drew)); exact HX0.out) (by (with_reducible repeat (first | apply Kd.R_alloc | apply Kd.R_drewN | apply Kd.R_drew)); exact HX1.out) HK3.out).mono ?_); rintro e w10 ⟨rfl, _, _, hb, hkp⟩; have HG := Aside0.mk (Kd.R_step HG.out (fun k hk hlt => hkp.2 k hlt (fun h => by rcases h with h | h <;> omega))); have HA := Aside0.mk hb; clear hb hkp hz0 hz1 HX0 HX1)
    go_upto_region 17 with (go_at_call 18; (refine (laws_eqStringS.calls k4 A5 c5 l A2 c2 l true _ (Kd.C_below (Kd.R_reads' HG.out).2.2 (by repeat (first | exact Below.refl _ _ | apply below_alloc | apply pw_below_drewN | apply below_drew1))) HC5_A5.out (Kd.C_below HW0.out (by repeat (first | exact HA.out | exact Below.refl _ _ | apply below_alloc | apply pw_below_drewN | apply below_drew1))) HC2.out HK4.out).mono ?_); rintro e w11 ⟨rfl, hd⟩; have hb := Drawn0.below hd; clear hd; have HA := Aside0.mk (below_chain (w := wa) (by repeat (first | exact HA.out | exact Below.refl _ _ | apply below_alloc | apply pw_below_drewN | apply below_drew1)) hb); have HG := Aside0.mk (Kd.R_below HG.out (below_chain (by repeat (first | exact Below.refl _ _ | apply below_alloc | apply pw_below_drewN | apply below_drew1)) hb)); clear hb)
    go_upto_region 18 with (go_at_call 19; (refine (laws_markStringS.calls k5 (fun k => gx < k) (.slice A5 l.length c5) l 1 q my wa _ (by repeat (first | exact HA.out | exact Below.refl _ _ | apply below_alloc | apply pw_below_drewN | apply below_drew1)) (by (with_reducible repeat (first | apply Kd.R_alloc | apply Kd.R_drewN | apply Kd.R_drew)); exact HG.out) HK5.out).mono ?_); rintro e w12 ⟨rfl, hR, hb, hkp⟩; have HG := Aside0.mk (Kd.R_mono (ok' := fun _ => True) hR (fun _ _ => trivial)); have HA := Aside0.mk hb; clear hR hb hkp)
    go_upto_region 20 with (go_at_call 20; (refine (HHE.out _ A5 c5 HC5_A5.out (Kd.C_below (Kd.R_reads' HG.out).2.2 (by repeat (first | exact Below.refl _ _ | apply below_alloc | apply pw_below_drewN | apply below_drew1)))).mono ?_); rintro e w13 ⟨rfl, hb⟩; have HA := Aside0.mk (below_chain (w := wa) (by repeat (first | exact HA.out | exact Below.refl _ _ | apply below_alloc | apply pw_below_drewN | apply below_drew1)) hb); have HG := Aside0.mk (Kd.R_below HG.out (below_chain (by repeat (first | exact Below.refl _ _ | apply below_alloc | apply pw_below_drewN | apply below_drew1)) hb)); clear hb)
    have hb0 := (HA.out.cell (World.block_lt_of_cell? wa _ HB0a.out)).trans HB0a.out
    have hb1 := (HA.out.cell (World.block_lt_of_cell? wa _ HB1a.out)).trans HB1a.out
    go_upto_region 25 with (first | (go_at_call 37; (refine (laws_toRecord.calls k1 _ _ l0_0 _ _ l0_1 cs rs _ (Kd.C_below HR0.out (below_chain HBwa.out (by repeat (first | exact HA.out | exact Below.refl _ _ | apply below_alloc | apply pw_below_drewN | apply below_drew1)))) HC0.out (Kd.C_below HR1.out (below_chain HBwa.out (by repeat (first | exact HA.out | exact Below.refl _ _ | apply below_alloc | apply pw_below_drewN | apply below_drew1)))) HC1.out HK1.out).mono ?_); rintro e w14 ⟨y0, y1, rfl, hR0, hR1, hb⟩; obtain ⟨yA, yc, rfl, hd0, hC0⟩ := Kd.R_reads hR0; obtain ⟨yB, yd, rfl, hd1, hC1⟩ := Kd.R_reads hR1; have HX0 := Aside0.mk hC0; have HX1 := Aside0.mk hC1; have HD0 := Aside0.mk hd0; have HD1 := Aside0.mk hd1; have HA := Aside0.mk (below_chain (w := wa) (by repeat (first | exact HA.out | exact Below.refl _ _ | apply below_alloc | apply pw_below_drewN | apply below_drew1)) hb); have hb0 := pw_cell_below hb hb0; have hb1 := pw_cell_below hb hb1; have HG := Aside0.mk (Kd.R_below HG.out (below_chain (by repeat (first | exact Below.refl _ _ | apply below_alloc | apply pw_below_drewN | apply below_drew1)) hb)); clear hR0 hR1 hC0 hC1 hd0 hd1; clear hb) | (go_at_call 41; (refine (HIM.out _ _ _ _ _ (LW.below HL.out (below_chain HBwa.out (by repeat (first | exact HA.out | exact Below.refl _ _ | apply below_alloc | apply pw_below_drewN | apply below_drew1)))) HX0.out HD0.out HX1.out HD1.out).mono ?_); rintro e w15 ⟨v6, rfl, hR, hb⟩; obtain ⟨A6, c6, rfl, hc5, hC5⟩ := Kd.R_reads hR; have HC5_A6 := Aside0.mk hc5; have HG6 := Aside0.mk hC5; have HA := Aside0.mk (below_chain (w := wa) (by repeat (first | exact HA.out | exact Below.refl _ _ | apply below_alloc | apply pw_below_drewN | apply below_drew1)) hb); have hb0 := pw_cell_below hb hb0; have hb1 := pw_cell_below hb hb1; have HG := Aside0.mk (Kd.R_below HG.out (below_chain (by repeat (first | exact Below.refl _ _ | apply below_alloc | apply pw_below_drewN | apply below_drew1)) hb)); clear hR hc5 hC5; clear hb))
    clear hb0 hb1
    go_upto_region 27 with (go_at_call 18; (refine (laws_eqStringS.calls k4 A6 c6 l A2 c2 l true _ (Kd.C_below HG6.out (by repeat (first | exact Below.refl _ _ | apply below_alloc | apply pw_below_drewN | apply below_drew1))) HC5_A6.out (Kd.C_below HW0.out (by repeat (first | exact HA.out | exact Below.refl _ _ | apply below_alloc | apply pw_below_drewN | apply below_drew1))) HC2.out HK4.out).mono ?_); rintro e w16 ⟨rfl, hd⟩; have hb := Drawn0.below hd; clear hd; have HA := Aside0.mk (below_chain (w := wa) (by repeat (first | exact HA.out | exact Below.refl _ _ | apply below_alloc | apply pw_below_drewN | apply below_drew1)) hb); have HG := Aside0.mk (Kd.R_below HG.out (below_chain (by repeat (first | exact Below.refl _ _ | apply below_alloc | apply pw_below_drewN | apply below_drew1)) hb)); clear hb)
    go_wp2_with (go_at_call 20; (refine (HHE.out _ A5 c5 HC5_A5.out (Kd.C_below (Kd.R_reads' HG.out).2.2 (by repeat (first | exact Below.refl _ _ | apply below_alloc | apply pw_below_drewN | apply below_drew1)))).mono ?_); rintro e w17 ⟨rfl, hb⟩; have HA := Aside0.mk (below_chain (w := wa) (by repeat (first | exact HA.out | exact Below.refl _ _ | apply below_alloc | apply pw_below_drewN | apply below_drew1)) hb); clear hb)
    go_ret
    exact ⟨rfl, below_chain HBwa.out HA.out⟩

end Go.Proofs.YtdmbboijcaelcaaDoor.Q

-- Written by a program of this session (wip/xprint.py over the kit's printer).
import Derived.Test.YtojdchmkhhpmiaaQ0
import Derived.Test.YtojdchmkhhpmiaaQF62
import Derived.Test.YtojdchmkhhpmiaaQF63
import Derived.Test.YtojdchmkhhpmiaaQF66
import Derived.Test.YtojdchmkhhpmiaaQF67
import Derived.Test.YtojdchmkhhpmiaaQF70
import Derived.Test.YtojdchmkhhpmiaaQF71
import Derived.Test.YtojdchmkhhpmiaaQF89
import Derived.Test.YtojdchmkhhpmiaaQF94
import Derived.Test.YtojdchmkhhpmiaaQF95
import Derived.Test.YtojdchmkhhpmiaaQP
namespace Go.Proofs.Ytojdchmkhhpmiaa.Q
open Go.RowKit Go.Proofs.YtojdchmkhhpmiaaW.PrintWords Go.Proofs.YtojdchmkhhpmiaaW.PrintLast Go.Proofs.YtojdchmkhhpmiaaW.PrintMore
attribute [local go_sem] max2_int min2_int max_two min_two max_three min_three max_four min_four   -- for this text's walks alone
set_option linter.unusedVariables false
set_option linter.unusedSimpArgs false

/-! ### impl_RemoveContext: function 34 -/
def impl_RemoveContext.f (l0_0 : List S59) (l0_1 : List S53) (a1 : Int) : Option (List S59 × List S53 × Bool) := some (if goodB l0_0 l0_1 && decide (0 ≤ find l0_0 a1) then (l0_0.filter (fun c => !(c.f0 == a1)), l0_1.filter (fun x => !(x.f0 == a1 || x.f1 == a1)), true) else ([], [], false))
set_option maxHeartbeats 8000000 in
set_option maxRecDepth 100000 in
theorem impl_RemoveContext.predc (a1 : Int) (b : Nat) (v : Value) (w : World) (hb : b < w.heap.size) (hv : v.ownBlock ≠ some b) (hc : w.cell? ⟨b, 0, none⟩ = some (.int .i64 a1)) : PredV Try.prog 72 #[.pointer (some ⟨b, 0, none⟩)] enc59 (fun c => c.f0 == a1) v w := by
  intro W x hB
  have hc' : W.cell? ⟨b, 0, none⟩ = some (.int .i64 a1) := (hB.cell_far ⟨b, 0, none⟩ hb (fun h => hv h.symm)).trans hc
  have hb' : b < W.heap.size := Nat.lt_of_lt_of_le hb hB.size
  unfold enc59
  clear hc hB hb hv
  go_enter Try.func72, Try.ntmps72
  go_wp2
  go_ret
  exact ⟨rfl, by repeat (first | exact Below.refl _ _ | apply below_alloc | apply pw_below_drewN | apply below_drew1)⟩
set_option maxHeartbeats 8000000 in
set_option maxRecDepth 100000 in
theorem impl_RemoveContext.predr (a1 : Int) (b : Nat) (v : Value) (w : World) (hb : b < w.heap.size) (hv : v.ownBlock ≠ some b) (hc : w.cell? ⟨b, 0, none⟩ = some (.int .i64 a1)) : PredV Try.prog 73 #[.pointer (some ⟨b, 0, none⟩)] enc53 (fun x => x.f0 == a1 || x.f1 == a1) v w := by
  intro W x hB
  have hc' : W.cell? ⟨b, 0, none⟩ = some (.int .i64 a1) := (hB.cell_far ⟨b, 0, none⟩ hb (fun h => hv h.symm)).trans hc
  have hb' : b < W.heap.size := Nat.lt_of_lt_of_le hb hB.size
  unfold enc53
  clear hc hB hb hv
  go_enter Try.func73, Try.ntmps73
  cases h1 : (x.f0 == a1) <;> cases h2 : (x.f1 == a1)
  all_goals have h3 := Aside0.mk h1
  all_goals have h4 := Aside0.mk h2
  all_goals go_wp2
  all_goals go_ret
  all_goals exact ⟨by simp [h3.out, h4.out], by repeat (first | exact Below.refl _ _ | apply below_alloc | apply pw_below_drewN | apply below_drew1)⟩
set_option maxHeartbeats 8000000 in
set_option maxRecDepth 100000 in
theorem impl_RemoveContext.calls (A0_0 : Option Addr) (c0_0 : Nat) (l0_0 : List S59) (A0_1 : Option Addr) (c0_1 : Nat) (l0_1 : List S53) (a1 : Int) (r1 : List S59) (r2 : List S53) (r3 : Bool) (w : World) (hr0_0 : Kd.C k59 w A0_0 l0_0.length l0_0) (hc0_0 : l0_0.length ≤ c0_0) (hr0_1 : Kd.C k53 w A0_1 l0_1.length l0_1) (hc0_1 : l0_1.length ≤ c0_1) (h : impl_RemoveContext.f l0_0 l0_1 a1 = some (r1, r2, r3)) :
    Calls Try.prog 34 #[.agg #[.slice A0_0 l0_0.length c0_0, .slice A0_1 l0_1.length c0_1], .int .i64 a1] w fun e w' => ∃ v0_ v1_ : Value, e = .returned (.tuple #[.agg #[v0_, v1_], .bool r3]) ∧ Kd.R k59 59 w' w.heap.size (fun _ => True) v0_ r1 ∧ Kd.R k53 53 w' w.heap.size (fun _ => True) v1_ r2 ∧ Below w.heap.size w w' := by
  have H := Option.some.inj h
  clear h
  have HR0 := Aside0.mk hr0_0
  have HR1 := Aside0.mk hr0_1
  have HC0 := Aside0.mk hc0_0
  have HC1 := Aside0.mk hc0_1
  clear hr0_0 hr0_1 hc0_0 hc0_1
  obtain ⟨wb, hwb⟩ : ∃ wb, (((w).alloc (.cells #[.slice A0_0 l0_0.length c0_0, .slice A0_1 l0_1.length c0_1] 31 (0, 0))).alloc (.cells #[.int .i64 a1] 3 (0, 0))).alloc (.cells #[.slice none 0 0, .slice none 0 0] 31 (0, 0)) = wb := ⟨_, rfl⟩
  have HBw := Aside0.mk (show Below w.heap.size w wb from by rw [← hwb]; repeat (first | exact Below.refl _ _ | apply below_alloc))
  have HWB := HBw
  have hhr : wb.heap[w.heap.size]? = some (.cells #[.slice A0_0 l0_0.length c0_0, .slice A0_1 l0_1.length c0_1] 31 (0, 0)) := by rw [← hwb]; have h := blk_new (w) (.cells #[.slice A0_0 l0_0.length c0_0, .slice A0_1 l0_1.length c0_1] 31 (0, 0)); rw [show (w).heap.size = w.heap.size from by rfl] at h; exact blk_alloc (blk_alloc (h) _) _
  have hb0 : wb.cell? ⟨w.heap.size, 0, none⟩ = some (.slice A0_0 l0_0.length c0_0) := (blk_cell hhr 0).trans rfl
  have hb1 : wb.cell? ⟨w.heap.size, 1, none⟩ = some (.slice A0_1 l0_1.length c0_1) := (blk_cell hhr 1).trans rfl
  have hh0 : wb.heap[w.heap.size + 1]? = some (.cells #[.int .i64 a1] 3 (0, 0)) := by rw [← hwb]; have h := blk_new ((w).alloc (.cells #[.slice A0_0 l0_0.length c0_0, .slice A0_1 l0_1.length c0_1] 31 (0, 0))) (.cells #[.int .i64 a1] 3 (0, 0)); rw [show ((w).alloc (.cells #[.slice A0_0 l0_0.length c0_0, .slice A0_1 l0_1.length c0_1] 31 (0, 0))).heap.size = w.heap.size + 1 from by simp] at h; exact blk_alloc (h) _
  have hx0 : wb.cell? ⟨w.heap.size + 1, 0, none⟩ = some (.int .i64 a1) := (blk_cell hh0 0).trans rfl
  have hh1 : wb.heap[w.heap.size + 1 + 1]? = some (.cells #[.slice none 0 0, .slice none 0 0] 31 (0, 0)) := by rw [← hwb]; have h := blk_new (((w).alloc (.cells #[.slice A0_0 l0_0.length c0_0, .slice A0_1 l0_1.length c0_1] 31 (0, 0))).alloc (.cells #[.int .i64 a1] 3 (0, 0))) (.cells #[.slice none 0 0, .slice none 0 0] 31 (0, 0)); rw [show (((w).alloc (.cells #[.slice A0_0 l0_0.length c0_0, .slice A0_1 l0_1.length c0_1] 31 (0, 0))).alloc (.cells #[.int .i64 a1] 3 (0, 0))).heap.size = w.heap.size + 1 + 1 from by simp] at h; exact h
  have hx1 : wb.cell? ⟨w.heap.size + 1 + 1, 0, none⟩ = some (.slice none 0 0) := (blk_cell hh1 0).trans rfl
  have hx1_1 : wb.cell? ⟨w.heap.size + 1 + 1, 1, none⟩ = some (.slice none 0 0) := (blk_cell hh1 1).trans rfl
  have hbs : w.heap.size + 1 + 1 < wb.heap.size := blk_lt hh1
  have HW := Aside0.mk hwb
  clear hwb hhr
  obtain ⟨b, hb⟩ : ∃ b, (goodB l0_0 l0_1 && decide (0 ≤ find l0_0 a1)) = b := ⟨_, rfl⟩
  have A1 := Aside0.mk ((hasContext_eq l0_0 l0_1 a1).trans (congrArg some hb))
  have HL := Aside0.mk (show b = true → l0_0.length ≤ 10 ∧ l0_1.length ≤ 24 from fun e => by rw [e] at hb; simp only [goodB, Bool.and_eq_true, decide_eq_true_eq] at hb; exact hb.1.1.1)
  rw [hb] at H
  clear hb
  cases b with
  | false =>
    injection H with H1 H2
    injection H2 with H2 H3
    subst H1; subst H2; subst H3
    have hf1 := blk_frozen hh1 0
    have hf2 := blk_frozen hh1 1
    go_enter Try.func34, Try.ntmps34
    go_upto_region 1 with (fail)
    try rw [HW.out]
    clear HW
    go_upto_region 2 with (go_at_call 63; (with_reducible refine (impl_hasContext.calls _ _ l0_0 _ _ l0_1 a1 _ _ (Kd.C_below HR0.out (by repeat (first | exact HBw.out | exact Below.refl _ _ | apply below_alloc | apply pw_below_drewN | apply below_drew1))) HC0.out (Kd.C_below HR1.out (by repeat (first | exact HBw.out | exact Below.refl _ _ | apply below_alloc | apply pw_below_drewN | apply below_drew1))) HC1.out A1.out).mono ?_); rintro e w1 ⟨rfl, hb⟩; have HBw : Aside0 (Below w.heap.size w w1) := Aside0.mk (below_chain (w := w) (by repeat (first | exact HBw.out | exact Below.refl _ _ | apply below_alloc | apply pw_below_drewN | apply below_drew1)) hb); have hb0 := pw_cell_below hb hb0; have hb1 := pw_cell_below hb hb1; have hx0 := pw_cell_below hb hx0; have hx1 := pw_cell_below hb hx1; have hx1_1 := pw_cell_below hb hx1_1; have hh1 := blk_below hh1 hb; clear hf1 hf2; have hf1 := blk_frozen hh1 0; have hf2 := blk_frozen hh1 1; clear hb)
    go_wp2
    refine bodyPost_ret (results_ct rfl _ _ (w.heap.size + 1 + 1) 31 #[.slice none 0 0, .slice none 0 0] (0, 0) _ rfl (blk_put (blk_put hh1 0 _ rfl) 1 _ rfl) Try.underlying31 rfl (by kernel_rfl)) rfl ?_
    exact ⟨_, _, rfl, Kd.R_nil _ _ _ _ _, Kd.R_nil _ _ _ _ _, by repeat (first | exact HBw.out | refine below_set ?_ (by show w.heap.size ≤ w.heap.size + 1 + 1; omega))⟩
  | true =>
    have HL2 := Aside0.mk (HL.out rfl)
    injection H with H1 H2
    injection H2 with H2 H3
    subst H1; subst H2; subst H3
    have AC := Aside0.mk (show impl_copyRecord.f l0_0 l0_1 = some (l0_0, l0_1) from by
      have h1 := HL2.out
      unfold impl_copyRecord.f impl_Context_95.f impl_Relation_67.f
      rw [if_pos (by omega), if_pos (by omega)]
      rfl)
    have eg1 := enters_of Try.func72 (by kernel_rfl) rfl
    have eg2 := enters_of Try.func73 (by kernel_rfl) rfl
    have B1 := Aside0.mk hh0
    have B2 := Aside0.mk hh1
    clear hh0 hh1
    go_enter Try.func34, Try.ntmps34
    go_upto_region 1 with (fail)
    try rw [HW.out]
    clear HW
    go_upto_region 4 with (first | (go_at_call 63; (with_reducible refine (impl_hasContext.calls _ _ l0_0 _ _ l0_1 a1 _ _ (Kd.C_below HR0.out (by repeat (first | exact HBw.out | exact Below.refl _ _ | apply below_alloc | apply pw_below_drewN | apply below_drew1))) HC0.out (Kd.C_below HR1.out (by repeat (first | exact HBw.out | exact Below.refl _ _ | apply below_alloc | apply pw_below_drewN | apply below_drew1))) HC1.out A1.out).mono ?_); rintro e w1 ⟨rfl, hb⟩; have HBw : Aside0 (Below w.heap.size w w1) := Aside0.mk (below_chain (w := w) (by repeat (first | exact HBw.out | exact Below.refl _ _ | apply below_alloc | apply pw_below_drewN | apply below_drew1)) hb); have hb0 := pw_cell_below hb hb0; have hb1 := pw_cell_below hb hb1; have hx0 := pw_cell_below hb hx0; have hx1 := pw_cell_below hb hx1; have hx1_1 := pw_cell_below hb hx1_1; have B1 := Aside0.mk (blk_below B1.out hb); have B2 := Aside0.mk (blk_below B2.out hb); clear hb) | (go_at_call 70; (with_reducible refine (impl_copyRecord.calls _ _ l0_0 _ _ l0_1 _ _ _ (Kd.C_below HR0.out (by repeat (first | exact HBw.out | exact Below.refl _ _ | apply below_alloc | apply pw_below_drewN | apply below_drew1))) HC0.out (Kd.C_below HR1.out (by repeat (first | exact HBw.out | exact Below.refl _ _ | apply below_alloc | apply pw_below_drewN | apply below_drew1))) HC1.out AC.out).mono ?_); rintro e w2 ⟨v0, v1, rfl, hR0, hR1, hb⟩; obtain ⟨D0, d0, rfl, hd0, hC0⟩ := Kd.R_reads hR0; obtain ⟨D1, d1, rfl, hd1, hC1⟩ := Kd.R_reads hR1; have HR0q := Aside0.mk (Kd.R_lower hR0 HBw.out.size); have HR1q := Aside0.mk (Kd.R_lower hR1 HBw.out.size); have HBw : Aside0 (Below w.heap.size w w2) := Aside0.mk (below_chain (w := w) (by repeat (first | exact HBw.out | exact Below.refl _ _ | apply below_alloc | apply pw_below_drewN | apply below_drew1)) hb); have hb0 := pw_cell_below hb hb0; have hb1 := pw_cell_below hb hb1; have hx0 := pw_cell_below hb hx0; have hx1 := pw_cell_below hb hx1; have hx1_1 := pw_cell_below hb hx1_1; have B1 := Aside0.mk (blk_below B1.out hb); have B2 := Aside0.mk (blk_below B2.out hb); clear hb hR0 hR1 hC0 hC1 hd0 hd1))
    obtain ⟨gb, hgb⟩ : ∃ g, w2.heap.size = g := ⟨_, rfl⟩
    have B0 := Aside0.mk (blk_new w2 (.cells #[.slice D0 l0_0.length d0, .slice D1 l0_1.length d1] 31 (0, 0)))
    have hlt : w.heap.size + 1 + 1 < w2.heap.size := blk_lt B2.out
    have B1 := Aside0.mk (blk_alloc B1.out (.cells #[.slice D0 l0_0.length d0, .slice D1 l0_1.length d1] 31 (0, 0)))
    have B2 := Aside0.mk (blk_alloc B2.out (.cells #[.slice D0 l0_0.length d0, .slice D1 l0_1.length d1] 31 (0, 0)))
    have HBw := Aside0.mk (below_alloc HBw.out (.cells #[.slice D0 l0_0.length d0, .slice D1 l0_1.length d1] 31 (0, 0)))
    have HR0q := Aside0.mk (Kd.R_alloc HR0q.out (.cells #[.slice D0 l0_0.length d0, .slice D1 l0_1.length d1] 31 (0, 0)))
    have HR1q := Aside0.mk (Kd.R_alloc HR1q.out (.cells #[.slice D0 l0_0.length d0, .slice D1 l0_1.length d1] 31 (0, 0)))
    generalize w2.alloc (.cells #[.slice D0 l0_0.length d0, .slice D1 l0_1.length d1] 31 (0, 0)) = wq at B0 B1 B2 HBw HR0q HR1q ⊢
    rw [hgb] at B0
    try rw [hgb]
    have HGL := Aside0.mk (show w.heap.size + 1 + 1 < gb from by omega)
    clear hgb hlt hb0 hb1 hx0 hx1 hx1_1
    have c0 : wq.cell? ⟨gb, 0, none⟩ = some (.slice D0 l0_0.length d0) := (blk_cell B0.out 0).trans rfl
    have f0 : wq.frozen? ⟨gb, 0, none⟩ = false := blk_frozen B0.out 0
    go_upto_region 5 with (go_at_call 71; (refine (impl_Context_71.calls 72 _ eg1 _ (.slice D0 l0_0.length d0) l0_0 _ _ _ HR0q.out (impl_RemoveContext.predc a1 (w.heap.size + 1) _ _ (blk_lt B1.out) (fun h => Kd.R_ne HR0q.out B1.out (by decide) h.symm) ((blk_cell B1.out 0).trans rfl))).mono ?_); rintro e w3 ⟨v2, rfl, hR2, hg2⟩; obtain ⟨D2, d2, he2, hd2, hC2⟩ := Kd.R_reads hR2; obtain ⟨n2, hn2⟩ : ∃ n, n = (l0_0.filter (fun c => !(c.f0 == a1))).length := ⟨_, rfl⟩; obtain rfl : v2 = .slice D2 n2 d2 := he2.trans (by rw [hn2]); have HR2q := Aside0.mk (show Kd.R k59 59 w3 w.heap.size (fun _ => True) (.slice D2 n2 d2) (l0_0.filter (fun c => !(c.f0 == a1))) from hR2); have B0 := Aside0.mk (blk_grown B0.out hg2 (Kd.R_ne HR0q.out B0.out (by decide))); have B1 := Aside0.mk (blk_grown B1.out hg2 (Kd.R_ne HR0q.out B1.out (by decide))); have B2 := Aside0.mk (blk_grown B2.out hg2 (Kd.R_ne HR0q.out B2.out (by decide))); have HR1q := Aside0.mk (Kd.R_grown2 HR1q.out rfl hg2 (rows_ne HR0q.out HR1q.out (by decide))); have HBw := Aside0.mk (below_of_grown HBw.out hg2 (fun b hb => Kd.R_base HR0q.out b hb)); clear c0 f0; have c0 : w3.cell? ⟨gb, 0, none⟩ = some (.slice D0 l0_0.length d0) := (blk_cell B0.out 0).trans rfl; have f0 : w3.frozen? ⟨gb, 0, none⟩ = false := blk_frozen B0.out 0; clear hR2 hg2 hd2 hC2 he2 hn2 HR0q)
    have HR1q := Aside0.mk (Kd.R_set HR1q.out B0.out (by decide) 0 (.slice D2 n2 d2))
    have HR2q := Aside0.mk (Kd.R_set HR2q.out B0.out (by decide) 0 (.slice D2 n2 d2))
    have B1 := Aside0.mk (blk_far B1.out (p := ⟨gb, 0, none⟩) (blk_ne B1.out B0.out (by decide)) (.slice D2 n2 d2))
    have B2 := Aside0.mk (blk_far B2.out (p := ⟨gb, 0, none⟩) (by have := HGL.out; show w.heap.size + 1 + 1 ≠ gb; omega) (.slice D2 n2 d2))
    have B0 := Aside0.mk (blk_put B0.out 0 (.slice D2 n2 d2) rfl)
    have HBw := Aside0.mk (below_set HBw.out (g := gb) (j := 0) (v := .slice D2 n2 d2) (by have := HGL.out; omega))
    clear c0 f0
    generalize w3.setCell ⟨gb, 0, none⟩ (.slice D2 n2 d2) = wq3 at HR1q HR2q B0 B1 B2 HBw ⊢
    have c1 : wq3.cell? ⟨gb, 1, none⟩ = some (.slice D1 l0_1.length d1) := (blk_cell B0.out 1).trans rfl
    have f1 : wq3.frozen? ⟨gb, 1, none⟩ = false := blk_frozen B0.out 1
    go_upto_region 6 with (go_at_call 66; (refine (impl_Relation_66.calls 73 _ eg2 _ (.slice D1 l0_1.length d1) l0_1 _ _ _ HR1q.out (impl_RemoveContext.predr a1 (w.heap.size + 1) _ _ (blk_lt B1.out) (fun h => Kd.R_ne HR1q.out B1.out (by decide) h.symm) ((blk_cell B1.out 0).trans rfl))).mono ?_); rintro e w4 ⟨v3, rfl, hR3, hg3⟩; obtain ⟨D3, d3, he3, hd3, hC3⟩ := Kd.R_reads hR3; obtain ⟨n3, hn3⟩ : ∃ n, n = (l0_1.filter (fun x => !(x.f0 == a1 || x.f1 == a1))).length := ⟨_, rfl⟩; obtain rfl : v3 = .slice D3 n3 d3 := he3.trans (by rw [hn3]); have HR3q := Aside0.mk (show Kd.R k53 53 w4 w.heap.size (fun _ => True) (.slice D3 n3 d3) (l0_1.filter (fun x => !(x.f0 == a1 || x.f1 == a1))) from hR3); have B0 := Aside0.mk (blk_grown B0.out hg3 (Kd.R_ne HR1q.out B0.out (by decide))); have B2 := Aside0.mk (blk_grown B2.out hg3 (Kd.R_ne HR1q.out B2.out (by decide))); have HR2q := Aside0.mk (Kd.R_grown2 HR2q.out rfl hg3 (rows_ne HR1q.out HR2q.out (by decide))); have HBw := Aside0.mk (below_of_grown HBw.out hg3 (fun b hb => Kd.R_base HR1q.out b hb)); clear c1 f1; have c1 : w4.cell? ⟨gb, 1, none⟩ = some (.slice D1 l0_1.length d1) := (blk_cell B0.out 1).trans rfl; have f1 : w4.frozen? ⟨gb, 1, none⟩ = false := blk_frozen B0.out 1; clear hR3 hg3 hd3 hC3 he3 hn3 HR1q B1)
    have HR2q := Aside0.mk (Kd.R_set HR2q.out B0.out (by decide) 1 (.slice D3 n3 d3))
    have HR3q := Aside0.mk (Kd.R_set HR3q.out B0.out (by decide) 1 (.slice D3 n3 d3))
    have B2 := Aside0.mk (blk_far B2.out (p := ⟨gb, 1, none⟩) (by have := HGL.out; show w.heap.size + 1 + 1 ≠ gb; omega) (.slice D3 n3 d3))
    have B0 := Aside0.mk (blk_put B0.out 1 (.slice D3 n3 d3) rfl)
    have HBw := Aside0.mk (below_set HBw.out (g := gb) (j := 1) (v := .slice D3 n3 d3) (by have := HGL.out; omega))
    clear c1 f1
    generalize w4.setCell ⟨gb, 1, none⟩ (.slice D3 n3 d3) = wq4 at HR2q HR3q B0 B2 HBw ⊢
    have c0 : wq4.cell? ⟨gb, 0, none⟩ = some (.slice D2 n2 d2) := (blk_cell B0.out 0).trans rfl
    have c1 : wq4.cell? ⟨gb, 1, none⟩ = some (.slice D3 n3 d3) := (blk_cell B0.out 1).trans rfl
    have g0 : wq4.cell? ⟨w.heap.size + 1 + 1, 0, none⟩ = some (.slice none 0 0) := (blk_cell B2.out 0).trans rfl
    have g1 : wq4.cell? ⟨w.heap.size + 1 + 1, 1, none⟩ = some (.slice none 0 0) := (blk_cell B2.out 1).trans rfl
    have f0 := blk_frozen B2.out 0
    have f1 := blk_frozen B2.out 1
    go_wp2
    refine bodyPost_ret (results_ct rfl _ _ (w.heap.size + 1 + 1) 31 #[.slice D2 n2 d2, .slice D3 n3 d3] (0, 0) _ rfl (blk_put (blk_put B2.out 0 _ rfl) 1 _ rfl) Try.underlying31 rfl (by kernel_rfl)) rfl ?_
    exact ⟨_, _, rfl, Kd.R_set (Kd.R_set HR2q.out B2.out (by decide) 0 _) (blk_put B2.out 0 _ rfl) (by decide) 1 _, Kd.R_set (Kd.R_set HR3q.out B2.out (by decide) 0 _) (blk_put B2.out 0 _ rfl) (by decide) 1 _, below_set (below_set HBw.out (by omega)) (by omega)⟩

end Go.Proofs.Ytojdchmkhhpmiaa.Q

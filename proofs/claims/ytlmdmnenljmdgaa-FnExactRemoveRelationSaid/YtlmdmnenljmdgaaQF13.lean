-- Written by a program of this session (wip/xprint.py over the kit's printer).
import Derived.Test.YtlmdmnenljmdgaaQ0
import Derived.Test.YtlmdmnenljmdgaaQEQ0
import Derived.Test.YtlmdmnenljmdgaaQF36
import Derived.Test.YtlmdmnenljmdgaaQF37
import Derived.Test.YtlmdmnenljmdgaaQF38
import Derived.Test.YtlmdmnenljmdgaaQF39
import Derived.Test.YtlmdmnenljmdgaaQF51
import Derived.Test.YtlmdmnenljmdgaaQF67
import Derived.Test.YtlmdmnenljmdgaaQF68
import Derived.Test.YtlmdmnenljmdgaaQF69
import Derived.Test.YtlmdmnenljmdgaaQP
namespace Go.Proofs.Ytlmdmnenljmdgaa.Q
open Go.RowKit Go.Proofs.YtlmdmnenljmdgaaW.PrintWords Go.Proofs.YtlmdmnenljmdgaaW.PrintLast
set_option linter.unusedVariables false
set_option linter.unusedSimpArgs false

/-! ### impl_RemoveRelation: function 13 -/
def impl_RemoveRelation.f (l0_0 : List S44) (l0_1 : List S36) (a1 a2 : Int) : Option (List S44 × List S36 × Bool) := some (if goodB l0_0 l0_1 && (l0_1.any fun x => a1 == x.f0 && a2 == x.f1) then (l0_0, l0_1.filter (fun x => !(x.f0 == a1 && x.f1 == a2)), true) else ([], [], false))
attribute [local go_sem high] eqA36
set_option maxHeartbeats 8000000 in
set_option maxRecDepth 100000 in
theorem impl_RemoveRelation.predr (a1 a2 : Int) (b : Nat) (v : Value) (w : World) (hb : b < w.heap.size) (hv : v.ownBlock ≠ some b) (hc : w.cell? ⟨b, 0, none⟩ = some (.int .i64 a1)) (hd : w.cell? ⟨b, 1, none⟩ = some (.int .i64 a2)) : PredV Try.prog 40 #[.pointer (some ⟨b, 0, none⟩)] enc36 (fun x => x.f0 == a1 && x.f1 == a2) v w := by
  intro W x hB
  have hc' : W.cell? ⟨b, 0, none⟩ = some (.int .i64 a1) := (hB.cell_far ⟨b, 0, none⟩ hb (fun h => hv h.symm)).trans hc
  have hd' : W.cell? ⟨b, 1, none⟩ = some (.int .i64 a2) := (hB.cell_far ⟨b, 1, none⟩ hb (fun h => hv h.symm)).trans hd
  have hb' : b < W.heap.size := Nat.lt_of_lt_of_le hb hB.size
  unfold enc36
  clear hc hd hB hb hv
  go_enter Try.func40, Try.ntmps40
  go_wp2
  go_ret
  exact ⟨rfl, by repeat (first | exact Below.refl _ _ | apply below_alloc | apply pw_below_drewN | apply below_drew1)⟩
set_option maxHeartbeats 8000000 in
set_option maxRecDepth 100000 in
theorem impl_RemoveRelation.calls (A0_0 : Option Addr) (c0_0 : Nat) (l0_0 : List S44) (A0_1 : Option Addr) (c0_1 : Nat) (l0_1 : List S36) (a1 a2 : Int) (r1 : List S44) (r2 : List S36) (r3 : Bool) (w : World) (hr0_0 : Kd.C k44 w A0_0 l0_0.length l0_0) (hc0_0 : l0_0.length ≤ c0_0) (hr0_1 : Kd.C k36 w A0_1 l0_1.length l0_1) (hc0_1 : l0_1.length ≤ c0_1) (h : impl_RemoveRelation.f l0_0 l0_1 a1 a2 = some (r1, r2, r3)) :
    Calls Try.prog 13 #[.agg #[.slice A0_0 l0_0.length c0_0, .slice A0_1 l0_1.length c0_1], .agg #[.int .i64 a1, .int .i64 a2]] w fun e w' => ∃ v0_ v1_ : Value, e = .returned (.tuple #[.agg #[v0_, v1_], .bool r3]) ∧ Kd.R k44 44 w' w.heap.size (fun _ => True) v0_ r1 ∧ Kd.R k36 36 w' w.heap.size (fun _ => True) v1_ r2 ∧ Below w.heap.size w w' := by
  have H := Option.some.inj h
  clear h
  have HR0 := Aside0.mk hr0_0
  have HR1 := Aside0.mk hr0_1
  have HC0 := Aside0.mk hc0_0
  have HC1 := Aside0.mk hc0_1
  clear hr0_0 hr0_1 hc0_0 hc0_1
  obtain ⟨wb, hwb⟩ : ∃ wb, (((w).alloc (.cells #[.slice A0_0 l0_0.length c0_0, .slice A0_1 l0_1.length c0_1] 32 (0, 0))).alloc (.cells #[.int .i64 a1, .int .i64 a2] 36 (0, 0))).alloc (.cells #[.slice none 0 0, .slice none 0 0] 32 (0, 0)) = wb := ⟨_, rfl⟩
  have HBw := Aside0.mk (show Below w.heap.size w wb from by rw [← hwb]; repeat (first | exact Below.refl _ _ | apply below_alloc))
  have HWB := HBw
  have hhr : wb.heap[w.heap.size]? = some (.cells #[.slice A0_0 l0_0.length c0_0, .slice A0_1 l0_1.length c0_1] 32 (0, 0)) := by rw [← hwb]; have h := blk_new (w) (.cells #[.slice A0_0 l0_0.length c0_0, .slice A0_1 l0_1.length c0_1] 32 (0, 0)); rw [show (w).heap.size = w.heap.size from by rfl] at h; exact blk_alloc (blk_alloc (h) _) _
  have hb0 : wb.cell? ⟨w.heap.size, 0, none⟩ = some (.slice A0_0 l0_0.length c0_0) := (blk_cell hhr 0).trans rfl
  have hb1 : wb.cell? ⟨w.heap.size, 1, none⟩ = some (.slice A0_1 l0_1.length c0_1) := (blk_cell hhr 1).trans rfl
  have hh0 : wb.heap[w.heap.size + 1]? = some (.cells #[.int .i64 a1, .int .i64 a2] 36 (0, 0)) := by rw [← hwb]; have h := blk_new ((w).alloc (.cells #[.slice A0_0 l0_0.length c0_0, .slice A0_1 l0_1.length c0_1] 32 (0, 0))) (.cells #[.int .i64 a1, .int .i64 a2] 36 (0, 0)); rw [show ((w).alloc (.cells #[.slice A0_0 l0_0.length c0_0, .slice A0_1 l0_1.length c0_1] 32 (0, 0))).heap.size = w.heap.size + 1 from by simp] at h; exact blk_alloc (h) _
  have hx0 : wb.cell? ⟨w.heap.size + 1, 0, none⟩ = some (.int .i64 a1) := (blk_cell hh0 0).trans rfl
  have hx0_1 : wb.cell? ⟨w.heap.size + 1, 1, none⟩ = some (.int .i64 a2) := (blk_cell hh0 1).trans rfl
  have hh1 : wb.heap[w.heap.size + 1 + 1]? = some (.cells #[.slice none 0 0, .slice none 0 0] 32 (0, 0)) := by rw [← hwb]; have h := blk_new (((w).alloc (.cells #[.slice A0_0 l0_0.length c0_0, .slice A0_1 l0_1.length c0_1] 32 (0, 0))).alloc (.cells #[.int .i64 a1, .int .i64 a2] 36 (0, 0))) (.cells #[.slice none 0 0, .slice none 0 0] 32 (0, 0)); rw [show (((w).alloc (.cells #[.slice A0_0 l0_0.length c0_0, .slice A0_1 l0_1.length c0_1] 32 (0, 0))).alloc (.cells #[.int .i64 a1, .int .i64 a2] 36 (0, 0))).heap.size = w.heap.size + 1 + 1 from by simp] at h; exact h
  have hx1 : wb.cell? ⟨w.heap.size + 1 + 1, 0, none⟩ = some (.slice none 0 0) := (blk_cell hh1 0).trans rfl
  have hx1_1 : wb.cell? ⟨w.heap.size + 1 + 1, 1, none⟩ = some (.slice none 0 0) := (blk_cell hh1 1).trans rfl
  have hbs : w.heap.size + 1 + 1 < wb.heap.size := blk_lt hh1
  have HW := Aside0.mk hwb
  clear hwb
  clear hhr
  obtain ⟨b1, hb1_⟩ : ∃ b, goodB l0_0 l0_1 = b := ⟨_, rfl⟩
  obtain ⟨b2, hb2_⟩ : ∃ b, (l0_1.any fun x => a1 == x.f0 && a2 == x.f1) = b := ⟨_, rfl⟩
  have AV := Aside0.mk (show impl_IsValidRecord.f l0_0 l0_1 = some b1 from congrArg some hb1_)
  have HL := Aside0.mk (show b1 = true → l0_0.length ≤ 10 ∧ l0_1.length ≤ 24 from fun e => by rw [e] at hb1_; simp only [goodB, Bool.and_eq_true, decide_eq_true_eq] at hb1_; exact hb1_.1.1)
  have AK := Aside0.mk (show b1 = true → impl_Relation_37.f l0_1 a1 a2 = some b2 from fun e => by unfold impl_Relation_37.f; rw [if_pos (by have := HL.out e; omega), hb2_])
  rw [hb1_, hb2_] at H
  clear hb1_ hb2_
  cases b1 with
  | false =>
    injection H with H1 H2
    injection H2 with H2 H3
    subst H1; subst H2; subst H3
    have hf1 := blk_frozen hh1 0
    have hf2 := blk_frozen hh1 1
    go_enter Try.func13, Try.ntmps13
    go_upto_region 1 with (fail)
    try rw [HW.out]
    clear HW
    go_upto_region 2 with (go_at_call 36; (with_reducible refine (impl_IsValidRecord.calls _ _ l0_0 _ _ l0_1 _ _ (Kd.C_below HR0.out (by repeat (first | exact HBw.out | exact Below.refl _ _ | apply below_alloc | apply pw_below_drewN | apply below_drew1))) HC0.out (Kd.C_below HR1.out (by repeat (first | exact HBw.out | exact Below.refl _ _ | apply below_alloc | apply pw_below_drewN | apply below_drew1))) HC1.out AV.out).mono ?_); rintro e w1 ⟨rfl, hb⟩; have HBw : Aside0 (Below w.heap.size w w1) := Aside0.mk (below_chain (w := w) (by repeat (first | exact HBw.out | exact Below.refl _ _ | apply below_alloc | apply pw_below_drewN | apply below_drew1)) hb); have hb0 := pw_cell_below hb hb0; have hb1 := pw_cell_below hb hb1; have hx0 := pw_cell_below hb hx0; have hx0_1 := pw_cell_below hb hx0_1; have hx1 := pw_cell_below hb hx1; have hx1_1 := pw_cell_below hb hx1_1; have hh1 := blk_below hh1 hb; clear hf1 hf2; have hf1 := blk_frozen hh1 0; have hf2 := blk_frozen hh1 1; clear hb)
    go_wp2
    refine bodyPost_ret (results_ct rfl _ _ (w.heap.size + 1 + 1) 32 #[.slice none 0 0, .slice none 0 0] (0, 0) _ rfl (blk_put (blk_put hh1 0 _ rfl) 1 _ rfl) Try.underlying32 rfl (by kernel_rfl)) rfl ?_
    exact ⟨_, _, rfl, Kd.R_nil _ _ _ _ _, Kd.R_nil _ _ _ _ _, by repeat (first | exact HBw.out | refine below_set ?_ (by show w.heap.size ≤ w.heap.size + 1 + 1; omega))⟩
  | true =>
  have HL2 := Aside0.mk (HL.out rfl)
  have AK2 := Aside0.mk (AK.out rfl)
  cases b2 with
  | false =>
    injection H with H1 H2
    injection H2 with H2 H3
    subst H1; subst H2; subst H3
    have hf1 := blk_frozen hh1 0
    have hf2 := blk_frozen hh1 1
    go_enter Try.func13, Try.ntmps13
    go_upto_region 1 with (fail)
    try rw [HW.out]
    clear HW
    go_upto_region 2 with (first | (go_at_call 36; (with_reducible refine (impl_IsValidRecord.calls _ _ l0_0 _ _ l0_1 _ _ (Kd.C_below HR0.out (by repeat (first | exact HBw.out | exact Below.refl _ _ | apply below_alloc | apply pw_below_drewN | apply below_drew1))) HC0.out (Kd.C_below HR1.out (by repeat (first | exact HBw.out | exact Below.refl _ _ | apply below_alloc | apply pw_below_drewN | apply below_drew1))) HC1.out AV.out).mono ?_); rintro e w1 ⟨rfl, hb⟩; have HBw : Aside0 (Below w.heap.size w w1) := Aside0.mk (below_chain (w := w) (by repeat (first | exact HBw.out | exact Below.refl _ _ | apply below_alloc | apply pw_below_drewN | apply below_drew1)) hb); have hb0 := pw_cell_below hb hb0; have hb1 := pw_cell_below hb hb1; have hx0 := pw_cell_below hb hx0; have hx0_1 := pw_cell_below hb hx0_1; have hx1 := pw_cell_below hb hx1; have hx1_1 := pw_cell_below hb hx1_1; have hh1 := blk_below hh1 hb; clear hf1 hf2; have hf1 := blk_frozen hh1 0; have hf2 := blk_frozen hh1 1; clear hb) | (go_at_call 37; (with_reducible refine (impl_Relation_37.calls _ _ l0_1 a1 a2 _ _ (Kd.C_below HR1.out (by repeat (first | exact HBw.out | exact Below.refl _ _ | apply below_alloc | apply pw_below_drewN | apply below_drew1))) HC1.out AK2.out).mono ?_); rintro e w2 ⟨rfl, hb⟩; have HBw : Aside0 (Below w.heap.size w w2) := Aside0.mk (below_chain (w := w) (by repeat (first | exact HBw.out | exact Below.refl _ _ | apply below_alloc | apply pw_below_drewN | apply below_drew1)) hb); have hb0 := pw_cell_below hb hb0; have hb1 := pw_cell_below hb hb1; have hx0 := pw_cell_below hb hx0; have hx0_1 := pw_cell_below hb hx0_1; have hx1 := pw_cell_below hb hx1; have hx1_1 := pw_cell_below hb hx1_1; have hh1 := blk_below hh1 hb; clear hf1 hf2; have hf1 := blk_frozen hh1 0; have hf2 := blk_frozen hh1 1; clear hb))
    go_wp2
    refine bodyPost_ret (results_ct rfl _ _ (w.heap.size + 1 + 1) 32 #[.slice none 0 0, .slice none 0 0] (0, 0) _ rfl (blk_put (blk_put hh1 0 _ rfl) 1 _ rfl) Try.underlying32 rfl (by kernel_rfl)) rfl ?_
    exact ⟨_, _, rfl, Kd.R_nil _ _ _ _ _, Kd.R_nil _ _ _ _ _, by repeat (first | exact HBw.out | refine below_set ?_ (by show w.heap.size ≤ w.heap.size + 1 + 1; omega))⟩
  | true =>
    injection H with H1 H2
    injection H2 with H2 H3
    subst H1; subst H2; subst H3
    have AC := Aside0.mk (show impl_copyRecord.f l0_0 l0_1 = some (l0_0, l0_1) from by
      have h1 := HL2.out
      unfold impl_copyRecord.f impl_Context_67.f impl_Relation_68.f
      rw [if_pos (by omega), if_pos (by omega)]
      rfl)
    have eg1 := enters_of Try.func40 (by kernel_rfl) rfl
    have B1 := Aside0.mk hh0
    have B2 := Aside0.mk hh1
    clear hh0 hh1
    go_enter Try.func13, Try.ntmps13
    go_upto_region 1 with (fail)
    try rw [HW.out]
    clear HW
    go_upto_region 4 with (first | (go_at_call 36; (with_reducible refine (impl_IsValidRecord.calls _ _ l0_0 _ _ l0_1 _ _ (Kd.C_below HR0.out (by repeat (first | exact HBw.out | exact Below.refl _ _ | apply below_alloc | apply pw_below_drewN | apply below_drew1))) HC0.out (Kd.C_below HR1.out (by repeat (first | exact HBw.out | exact Below.refl _ _ | apply below_alloc | apply pw_below_drewN | apply below_drew1))) HC1.out AV.out).mono ?_); rintro e w0 ⟨rfl, hb⟩; have HBw : Aside0 (Below w.heap.size w w0) := Aside0.mk (below_chain (w := w) (by repeat (first | exact HBw.out | exact Below.refl _ _ | apply below_alloc | apply pw_below_drewN | apply below_drew1)) hb); have hb0 := pw_cell_below hb hb0; have hb1 := pw_cell_below hb hb1; have hx0 := pw_cell_below hb hx0; have hx0_1 := pw_cell_below hb hx0_1; have hx1 := pw_cell_below hb hx1; have hx1_1 := pw_cell_below hb hx1_1; have B1 := Aside0.mk (blk_below B1.out hb); have B2 := Aside0.mk (blk_below B2.out hb); clear hb) | (go_at_call 37; (with_reducible refine (impl_Relation_37.calls _ _ l0_1 a1 a2 _ _ (Kd.C_below HR1.out (by repeat (first | exact HBw.out | exact Below.refl _ _ | apply below_alloc | apply pw_below_drewN | apply below_drew1))) HC1.out AK2.out).mono ?_); rintro e w1 ⟨rfl, hb⟩; have HBw : Aside0 (Below w.heap.size w w1) := Aside0.mk (below_chain (w := w) (by repeat (first | exact HBw.out | exact Below.refl _ _ | apply below_alloc | apply pw_below_drewN | apply below_drew1)) hb); have hb0 := pw_cell_below hb hb0; have hb1 := pw_cell_below hb hb1; have hx0 := pw_cell_below hb hx0; have hx0_1 := pw_cell_below hb hx0_1; have hx1 := pw_cell_below hb hx1; have hx1_1 := pw_cell_below hb hx1_1; have B1 := Aside0.mk (blk_below B1.out hb); have B2 := Aside0.mk (blk_below B2.out hb); clear hb) | (go_at_call 38; (with_reducible refine (impl_copyRecord.calls _ _ l0_0 _ _ l0_1 _ _ _ (Kd.C_below HR0.out (by repeat (first | exact HBw.out | exact Below.refl _ _ | apply below_alloc | apply pw_below_drewN | apply below_drew1))) HC0.out (Kd.C_below HR1.out (by repeat (first | exact HBw.out | exact Below.refl _ _ | apply below_alloc | apply pw_below_drewN | apply below_drew1))) HC1.out AC.out).mono ?_); rintro e w2 ⟨v0, v1, rfl, hR0, hR1, hb⟩; obtain ⟨D0, d0, rfl, hd0, hC0⟩ := Kd.R_reads hR0; obtain ⟨D1, d1, rfl, hd1, hC1⟩ := Kd.R_reads hR1; have HR0q := Aside0.mk (Kd.R_lower hR0 HBw.out.size); have HR1q := Aside0.mk (Kd.R_lower hR1 HBw.out.size); have HV1 := Aside0.mk (show ∀ k, (Value.slice D1 l0_1.length d1).ownBlock = some k → w.heap.size + 1 + 1 < k from fun k hk => Nat.lt_of_lt_of_le (blk_lt B2.out) (Kd.R_base hR1 k hk)); have HBw : Aside0 (Below w.heap.size w w2) := Aside0.mk (below_chain (w := w) (by repeat (first | exact HBw.out | exact Below.refl _ _ | apply below_alloc | apply pw_below_drewN | apply below_drew1)) hb); have hb0 := pw_cell_below hb hb0; have hb1 := pw_cell_below hb hb1; have hx0 := pw_cell_below hb hx0; have hx0_1 := pw_cell_below hb hx0_1; have hx1 := pw_cell_below hb hx1; have hx1_1 := pw_cell_below hb hx1_1; have B1 := Aside0.mk (blk_below B1.out hb); have B2 := Aside0.mk (blk_below B2.out hb); clear hb hR0 hR1 hC0 hC1 hd0 hd1))
    obtain ⟨gb, hgb⟩ : ∃ g, w2.heap.size = g := ⟨_, rfl⟩
    have B0 := Aside0.mk (blk_new w2 (.cells #[.slice D0 l0_0.length d0, .slice D1 l0_1.length d1] 32 (0, 0)))
    have hlt : w.heap.size + 1 + 1 < w2.heap.size := blk_lt B2.out
    have B1 := Aside0.mk (blk_alloc B1.out (.cells #[.slice D0 l0_0.length d0, .slice D1 l0_1.length d1] 32 (0, 0)))
    have B2 := Aside0.mk (blk_alloc B2.out (.cells #[.slice D0 l0_0.length d0, .slice D1 l0_1.length d1] 32 (0, 0)))
    have HBw := Aside0.mk (below_alloc HBw.out (.cells #[.slice D0 l0_0.length d0, .slice D1 l0_1.length d1] 32 (0, 0)))
    have HR0q := Aside0.mk (Kd.R_alloc HR0q.out (.cells #[.slice D0 l0_0.length d0, .slice D1 l0_1.length d1] 32 (0, 0)))
    have HR1q := Aside0.mk (Kd.R_alloc HR1q.out (.cells #[.slice D0 l0_0.length d0, .slice D1 l0_1.length d1] 32 (0, 0)))
    generalize w2.alloc (.cells #[.slice D0 l0_0.length d0, .slice D1 l0_1.length d1] 32 (0, 0)) = wq at B0 B1 B2 HBw HR0q HR1q ⊢
    rw [hgb] at B0
    try rw [hgb]
    have HGL := Aside0.mk (show w.heap.size + 1 + 1 < gb from by omega)
    clear hgb hlt hb0 hb1 hx0 hx0_1 hx1 hx1_1
    have HR2q := HR0q
    clear HR0q
    have c1 : wq.cell? ⟨gb, 1, none⟩ = some (.slice D1 l0_1.length d1) := (blk_cell B0.out 1).trans rfl
    have f1 : wq.frozen? ⟨gb, 1, none⟩ = false := blk_frozen B0.out 1
    go_upto_region 5 with (go_at_call 39; (refine (impl_Relation_39.calls 40 _ eg1 _ (.slice D1 l0_1.length d1) l0_1 _ _ _ HR1q.out (impl_RemoveRelation.predr a1 a2 (w.heap.size + 1) _ _ (blk_lt B1.out) (fun h => absurd (HV1.out _ h) (by omega)) ((blk_cell B1.out 0).trans rfl) ((blk_cell B1.out 1).trans rfl))).mono ?_); rintro e w4 ⟨v3, rfl, hR3, hg3⟩; obtain ⟨D3, d3, he3, hd3, hC3⟩ := Kd.R_reads hR3; obtain ⟨n3, hn3⟩ : ∃ n, n = (l0_1.filter (fun x => !(x.f0 == a1 && x.f1 == a2))).length := ⟨_, rfl⟩; obtain rfl : v3 = .slice D3 n3 d3 := he3.trans (by rw [hn3]); have HR3q := Aside0.mk (show Kd.R k36 36 w4 w.heap.size (fun _ => True) (.slice D3 n3 d3) (l0_1.filter (fun x => !(x.f0 == a1 && x.f1 == a2))) from hR3); have B0 := Aside0.mk (blk_grown B0.out hg3 (Kd.R_ne HR1q.out B0.out (by decide))); have B2 := Aside0.mk (blk_grown B2.out hg3 (Kd.R_ne HR1q.out B2.out (by decide))); have HR2q := Aside0.mk (Kd.R_grown2 HR2q.out rfl hg3 (rows_ne HR1q.out HR2q.out (by decide))); have HBw := Aside0.mk (below_of_grown HBw.out hg3 (fun b hb => Kd.R_base HR1q.out b hb)); clear c1 f1; have c1 : w4.cell? ⟨gb, 1, none⟩ = some (.slice D1 l0_1.length d1) := (blk_cell B0.out 1).trans rfl; have f1 : w4.frozen? ⟨gb, 1, none⟩ = false := blk_frozen B0.out 1; clear hR3 hg3 hd3 hC3 he3 hn3 HR1q B1)
    have HR2q := Aside0.mk (Kd.R_set HR2q.out B0.out (by decide) 1 (.slice D3 n3 d3))
    have HR3q := Aside0.mk (Kd.R_set HR3q.out B0.out (by decide) 1 (.slice D3 n3 d3))
    have B2 := Aside0.mk (blk_far B2.out (p := ⟨gb, 1, none⟩) (by have := HGL.out; show w.heap.size + 1 + 1 ≠ gb; omega) (.slice D3 n3 d3))
    have B0 := Aside0.mk (blk_put B0.out 1 (.slice D3 n3 d3) rfl)
    have HBw := Aside0.mk (below_set HBw.out (g := gb) (j := 1) (v := .slice D3 n3 d3) (by have := HGL.out; omega))
    clear c1 f1
    generalize w4.setCell ⟨gb, 1, none⟩ (.slice D3 n3 d3) = wq4 at HR2q HR3q B0 B2 HBw ⊢
    have c0 : wq4.cell? ⟨gb, 0, none⟩ = some (.slice D0 l0_0.length d0) := (blk_cell B0.out 0).trans rfl
    have c1 : wq4.cell? ⟨gb, 1, none⟩ = some (.slice D3 n3 d3) := (blk_cell B0.out 1).trans rfl
    have g0 : wq4.cell? ⟨w.heap.size + 1 + 1, 0, none⟩ = some (.slice none 0 0) := (blk_cell B2.out 0).trans rfl
    have g1 : wq4.cell? ⟨w.heap.size + 1 + 1, 1, none⟩ = some (.slice none 0 0) := (blk_cell B2.out 1).trans rfl
    have f0 := blk_frozen B2.out 0
    have f1 := blk_frozen B2.out 1
    go_wp2
    refine bodyPost_ret (results_ct rfl _ _ (w.heap.size + 1 + 1) 32 #[.slice D0 l0_0.length d0, .slice D3 n3 d3] (0, 0) _ rfl (blk_put (blk_put B2.out 0 _ rfl) 1 _ rfl) Try.underlying32 rfl (by kernel_rfl)) rfl ?_
    exact ⟨_, _, rfl, Kd.R_set (Kd.R_set HR2q.out B2.out (by decide) 0 _) (blk_put B2.out 0 _ rfl) (by decide) 1 _, Kd.R_set (Kd.R_set HR3q.out B2.out (by decide) 0 _) (blk_put B2.out 0 _ rfl) (by decide) 1 _, below_set (below_set HBw.out (by omega)) (by omega)⟩

end Go.Proofs.Ytlmdmnenljmdgaa.Q

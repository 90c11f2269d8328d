-- Written by a program of this session (wip/xprint.py over the kit's printer).
import Derived.Test.YtdpehkfjhfjobaaQ0
import Derived.Test.YtdpehkfjhfjobaaQF60
import Derived.Test.YtdpehkfjhfjobaaQF61
import Derived.Test.YtdpehkfjhfjobaaQF64
import Derived.Test.YtdpehkfjhfjobaaQF67
import Derived.Test.YtdpehkfjhfjobaaQF71
import Derived.Test.YtdpehkfjhfjobaaQF74
import Derived.Test.YtdpehkfjhfjobaaQP
namespace Go.Proofs.Ytdpehkfjhfjobaa.Q
open Go.RowKit Go.Proofs.YtdpehkfjhfjobaaW.PrintWords Go.Proofs.YtdpehkfjhfjobaaW.PrintLast Go.Proofs.YtdpehkfjhfjobaaW.PrintMore
attribute [local go_sem] max2_int min2_int max_two min_two max_three min_three max_four min_four   -- for this text's walks alone
set_option linter.unusedVariables false
set_option linter.unusedSimpArgs false

/-! ### impl_EarlierContexts: function 29 -/
def impl_EarlierContexts.f (l0_0 : List S76) (l0_1 : List S90) (a1 : Int) : Option (List Int × Bool) := some (if goodB l0_0 l0_1 && decide (0 ≤ find l0_0 a1) then (numsTo l0_0 (fun i => lat l0_0 l0_1 (find l0_0 a1).toNat i) l0_0.length, true) else ([], false))
set_option maxHeartbeats 8000000 in
set_option maxRecDepth 100000 in
theorem impl_EarlierContexts.pred (w0 : World) (p N1 N2 n : Nat) (v : Value) (ns : List Int) (M1 M2 : Nat → Nat → Bool) (k : Nat) (b d : Nat) (w : World) (H : OrdIn w0 w p N1 N2 n v ns M1 M2) (hk : k < n) (hb : b < w.heap.size) (hc : w.cell? ⟨b, 0, none⟩ = some (.pointer (some ⟨p, 0, none⟩))) (hd : d < w.heap.size) (he : w.cell? ⟨d, 0, none⟩ = some (.int .i64 k)) : PredN Try.prog 75 #[.pointer (some ⟨b, 0, none⟩), .pointer (some ⟨d, 0, none⟩)] (fun i => M2 k i) n w := by
  intro W i hi hB
  have hc' := (hB.cell (p := ⟨b, 0, none⟩) hb).trans hc
  have he' := (hB.cell (p := ⟨d, 0, none⟩) hd).trans he
  have HO := Aside0.mk (H.step hB)
  have g1 := HO.out.c2
  have g2 := HO.out.m2.topc hk
  have g3 := HO.out.m2.cell hk hi
  have hil : (i : Int) < (n : Int) := by omega
  have hkl : (k : Int) < (n : Int) := by omega
  clear hc he hB hb hd H
  go_enter Try.func75, Try.ntmps75
  go_wp2_with (fail)
  go_quiet (fail)
  try go_wp2
  go_ret
  exact ⟨rfl, by repeat (first | exact Below.refl _ _ | apply below_alloc | apply pw_below_drewN | apply below_drew1)⟩
set_option maxHeartbeats 8000000 in
set_option maxRecDepth 100000 in
theorem impl_EarlierContexts.calls (A0_0 : Option Addr) (c0_0 : Nat) (l0_0 : List S76) (A0_1 : Option Addr) (c0_1 : Nat) (l0_1 : List S90) (a1 : Int) (r1 : List Int) (r2 : Bool) (w : World) (hr0_0 : Kd.C k76 w A0_0 l0_0.length l0_0) (hc0_0 : l0_0.length ≤ c0_0) (hr0_1 : Kd.C k90 w A0_1 l0_1.length l0_1) (hc0_1 : l0_1.length ≤ c0_1) (h : impl_EarlierContexts.f l0_0 l0_1 a1 = some (r1, r2)) :
    Calls Try.prog 29 #[.agg #[.slice A0_0 l0_0.length c0_0, .slice A0_1 l0_1.length c0_1], .int .i64 a1] w fun e w' => ∃ v0_ : Value, e = .returned (.tuple #[v0_, .bool r2]) ∧ Kd.R (Kd.int .i64) 3 w' w.heap.size (fun _ => True) v0_ r1 ∧ Below w.heap.size w w' := by
  have H := Option.some.inj h
  clear h
  have HR0 := Aside0.mk hr0_0
  have HR1 := Aside0.mk hr0_1
  have HC0 := Aside0.mk hc0_0
  have HC1 := Aside0.mk hc0_1
  clear hr0_0 hr0_1 hc0_0 hc0_1
  obtain ⟨wb, hwb⟩ : ∃ wb, (w).alloc (.cells #[.slice A0_0 l0_0.length c0_0, .slice A0_1 l0_1.length c0_1] 32 (0, 0)) = wb := ⟨_, rfl⟩
  have HBw := Aside0.mk (show Below w.heap.size w wb from by rw [← hwb]; repeat (first | exact Below.refl _ _ | apply below_alloc))
  have HWB := HBw
  have hhr : wb.heap[w.heap.size]? = some (.cells #[.slice A0_0 l0_0.length c0_0, .slice A0_1 l0_1.length c0_1] 32 (0, 0)) := by rw [← hwb]; have h := blk_new (w) (.cells #[.slice A0_0 l0_0.length c0_0, .slice A0_1 l0_1.length c0_1] 32 (0, 0)); rw [show (w).heap.size = w.heap.size from by rfl] at h; exact h
  have hb0 : wb.cell? ⟨w.heap.size, 0, none⟩ = some (.slice A0_0 l0_0.length c0_0) := (blk_cell hhr 0).trans rfl
  have hb1 : wb.cell? ⟨w.heap.size, 1, none⟩ = some (.slice A0_1 l0_1.length c0_1) := (blk_cell hhr 1).trans rfl
  have hbs : w.heap.size < wb.heap.size := blk_lt hhr
  have HW := Aside0.mk hwb
  clear hwb hhr
  obtain ⟨b, hb⟩ : ∃ b, (goodB l0_0 l0_1 && decide (0 ≤ find l0_0 a1)) = b := ⟨_, rfl⟩
  have A1 := Aside0.mk ((hasContext_eq l0_0 l0_1 a1).trans (congrArg some hb))
  rw [hb] at H
  have eg := enters_of Try.func75 (by kernel_rfl) rfl
  cases b with
  | false =>
    clear hb
    injection H with H1 H2
    subst H1; subst H2
    go_enter Try.func29, Try.ntmps29
    go_upto_region 1 with (fail)
    try rw [HW.out]
    clear HW
    go_wp2_with (go_at_call 74; (with_reducible refine (impl_hasContext.calls _ _ l0_0 _ _ l0_1 a1 _ _ (Kd.C_below HR0.out (by repeat (first | exact HBw.out | exact Below.refl _ _ | apply below_alloc | apply pw_below_drewN | apply below_drew1))) HC0.out (Kd.C_below HR1.out (by repeat (first | exact HBw.out | exact Below.refl _ _ | apply below_alloc | apply pw_below_drewN | apply below_drew1))) HC1.out A1.out).mono ?_); rintro e w1 ⟨rfl, hb⟩; have HBw : Aside0 (Below w.heap.size w w1) := Aside0.mk (below_chain (w := w) (by repeat (first | exact HBw.out | exact Below.refl _ _ | apply below_alloc | apply pw_below_drewN | apply below_drew1)) hb); have hb0 := pw_cell_below hb hb0; clear hb)
    go_ret2
    exact ⟨_, rfl, Kd.R_nil _ _ _ _ _, (by repeat (first | exact HBw.out | exact Below.refl _ _ | apply below_alloc | apply pw_below_drewN | apply below_drew1))⟩
  | true =>
    simp only [Bool.and_eq_true, decide_eq_true_eq] at hb
    have HG := Aside0.mk (goodB_parts hb.1)
    obtain ⟨k, hk, hkl⟩ := find_nat l0_0 a1 hb.2
    have A3 := Aside0.mk (show impl_indexOf.f l0_0 l0_1 a1 = some (k : Int) from congrArg some hk)
    rw [hk, Int.toNat_natCast] at H
    clear hb hk
    injection H with H1 H2
    subst H1; subst H2
    go_enter Try.func29, Try.ntmps29
    go_upto_region 1 with (fail)
    try rw [HW.out]
    clear HW
    go_upto_region 4 with (first | (go_at_call 74; (with_reducible refine (impl_hasContext.calls _ _ l0_0 _ _ l0_1 a1 _ _ (Kd.C_below HR0.out (by repeat (first | exact HBw.out | exact Below.refl _ _ | apply below_alloc | apply pw_below_drewN | apply below_drew1))) HC0.out (Kd.C_below HR1.out (by repeat (first | exact HBw.out | exact Below.refl _ _ | apply below_alloc | apply pw_below_drewN | apply below_drew1))) HC1.out A1.out).mono ?_); rintro e w1 ⟨rfl, hb⟩; have HBw : Aside0 (Below w.heap.size w w1) := Aside0.mk (below_chain (w := w) (by repeat (first | exact HBw.out | exact Below.refl _ _ | apply below_alloc | apply pw_below_drewN | apply below_drew1)) hb); have hb0 := pw_cell_below hb hb0; have hb1 := pw_cell_below hb hb1; clear hb) | (go_at_call 60; (refine (impl_orderOf.calls _ _ l0_0 _ _ l0_1 _ (Kd.C_below HR0.out (by repeat (first | exact HBw.out | exact Below.refl _ _ | apply below_alloc | apply pw_below_drewN | apply below_drew1))) HC0.out (Kd.C_below HR1.out (by repeat (first | exact HBw.out | exact Below.refl _ _ | apply below_alloc | apply pw_below_drewN | apply below_drew1))) HC1.out HG.out.1 HG.out.2.1 HG.out.2.2).mono ?_); rintro e w2 ⟨p, rfl, N1, N2, v, HO⟩; obtain ⟨A, c, rfl, hc⟩ := HO.slice (nums_length l0_0); have hb := HO.below; have HBw : Aside0 (Below w.heap.size w w2) := Aside0.mk (below_chain (w := w) (by repeat (first | exact HBw.out | exact Below.refl _ _ | apply below_alloc | apply pw_below_drewN | apply below_drew1)) hb); have hb0 := pw_cell_below hb hb0; have hb1 := pw_cell_below hb hb1; have HOA := Aside0.mk HO; clear hb HO))
    obtain ⟨gv, hgv⟩ : ∃ g, w2.heap.size = g := ⟨_, rfl⟩
    have HBO := Aside0.mk (below_alloc (Below.refl w2.heap.size w2) (.cells #[.pointer (some ⟨p, 0, none⟩)] 66 (0, 0)))
    have BV := Aside0.mk (blk_new w2 (.cells #[.pointer (some ⟨p, 0, none⟩)] 66 (0, 0)))
    generalize w2.alloc (.cells #[.pointer (some ⟨p, 0, none⟩)] 66 (0, 0)) = wq at HBO BV ⊢
    rw [hgv] at BV
    try rw [hgv]
    have HOA := Aside0.mk (HOA.out.step HBO.out)
    have HBw := Aside0.mk (below_chain HBw.out HBO.out)
    have hb0 := pw_cell_below HBO.out hb0
    have hb1 := pw_cell_below HBO.out hb1
    have hz : wq.cell? ⟨gv, 0, none⟩ = some (.pointer (some ⟨p, 0, none⟩)) := (blk_cell BV.out 0).trans rfl
    clear hgv HBO
    go_upto_region 5 with (go_at_call 67; (with_reducible refine (impl_indexOf.calls _ _ l0_0 _ _ l0_1 a1 _ _ (Kd.C_below HR0.out (by repeat (first | exact HBw.out | exact Below.refl _ _ | apply below_alloc | apply pw_below_drewN | apply below_drew1))) HC0.out (Kd.C_below HR1.out (by repeat (first | exact HBw.out | exact Below.refl _ _ | apply below_alloc | apply pw_below_drewN | apply below_drew1))) HC1.out A3.out).mono ?_); rintro e w3 ⟨rfl, hb⟩; have HBw : Aside0 (Below w.heap.size w w3) := Aside0.mk (below_chain (w := w) (by repeat (first | exact HBw.out | exact Below.refl _ _ | apply below_alloc | apply pw_below_drewN | apply below_drew1)) hb); have hb0 := pw_cell_below hb hb0; have hb1 := pw_cell_below hb hb1; have hz := pw_cell_below hb hz; have BV := Aside0.mk (blk_below BV.out hb); have HOA := Aside0.mk (HOA.out.step hb); clear hb)
    obtain ⟨gk, hgk⟩ : ∃ g, w3.heap.size = g := ⟨_, rfl⟩
    have HBO := Aside0.mk (below_alloc (Below.refl w3.heap.size w3) (.cells #[.int .i64 (k : Int)] 3 (0, 0)))
    have BK := Aside0.mk (blk_new w3 (.cells #[.int .i64 (k : Int)] 3 (0, 0)))
    generalize w3.alloc (.cells #[.int .i64 (k : Int)] 3 (0, 0)) = wk at HBO BK ⊢
    rw [hgk] at BK
    try rw [hgk]
    have HOA := Aside0.mk (HOA.out.step HBO.out)
    have HBw := Aside0.mk (below_chain HBw.out HBO.out)
    have BV := Aside0.mk (blk_below BV.out HBO.out)
    have hz := pw_cell_below HBO.out hz
    have hy : wk.cell? ⟨gk, 0, none⟩ = some (.int .i64 (k : Int)) := (blk_cell BK.out 0).trans rfl
    clear hgk HBO hb0 hb1
    go_wp2_with (go_at_call 71; (refine (impl_order_numbersOf.calls 75 _ eg _ _ p N1 N2 A c l0_0 _ _ _ HOA.out (by have := HG.out.1; omega) (impl_EarlierContexts.pred _ p N1 N2 _ _ _ _ _ k gv gk _ HOA.out hkl (blk_lt BV.out) hz (blk_lt BK.out) hy)).mono ?_); rintro e w4 ⟨v3, rfl, hR, hb⟩; have HR3 := Aside0.mk hR; have HB3 := Aside0.mk hb; clear hR hb)
    go_ret2
    exact ⟨_, rfl, Kd.R_lower HR3.out HBw.out.size, below_chain HBw.out HB3.out⟩

end Go.Proofs.Ytdpehkfjhfjobaa.Q

-- Written by a program of this session (wip/xprint.py over the kit's printer).
import Derived.Test.YtdpehkfjhfjobaaQ0
import Derived.Test.YtdpehkfjhfjobaaQF106
import Derived.Test.YtdpehkfjhfjobaaQF112
import Derived.Test.YtdpehkfjhfjobaaQF59
import Derived.Test.YtdpehkfjhfjobaaQF60
import Derived.Test.YtdpehkfjhfjobaaQF61
import Derived.Test.YtdpehkfjhfjobaaQF64
import Derived.Test.YtdpehkfjhfjobaaQF71
import Derived.Test.YtdpehkfjhfjobaaQF85
import Derived.Test.YtdpehkfjhfjobaaQF88
import Derived.Test.YtdpehkfjhfjobaaQP
namespace Go.Proofs.Ytdpehkfjhfjobaa.Q
open Go.RowKit Go.Proofs.YtdpehkfjhfjobaaW.PrintWords Go.Proofs.YtdpehkfjhfjobaaW.PrintLast Go.Proofs.YtdpehkfjhfjobaaW.PrintMore
attribute [local go_sem] max2_int min2_int max_two min_two max_three min_three max_four min_four   -- for this text's walks alone
set_option linter.unusedVariables false
set_option linter.unusedSimpArgs false

/-! ### impl_EndContexts: function 43 -/
/-- Two rows, the second made behind the first. -/
theorem R_two {α β : Type} {d : Kd α} {d' : Kd β} {e e' : Nat} {w3 w4 : World} {b b' : Nat} {v v' : Value} {xs : List α} {ys : List β} (h : d.R e w3 b (fun _ => True) v xs) (h' : d'.R e' w4 w3.heap.size (fun _ => True) v' ys) (hb : Below w3.heap.size w3 w4) (h1 : b' ≤ b) (h2 : b' ≤ w3.heap.size) :
    d.R e w4 b' (fun k => some k ≠ v'.ownBlock) v xs ∧ d'.R e' w4 b' (fun k => some k ≠ v.ownBlock) v' ys := by
  have k1 := Kd.R_bound h
  have k2 := Kd.R_bound h'
  refine ⟨Kd.R_lower (Kd.R_mono (Kd.R_below k1 hb) (fun k hk he => ?_)) h1, Kd.R_lower (Kd.R_mono k2 (fun k hk he => ?_)) h2⟩
  · have := (k2.1 k he.symm).2.1
    have := hk.2.2.1
    omega
  · have := (k1.1 k he.symm).2.2.1
    have := hk.2.1
    omega
def firstB (n : Nat) (M : Nat → Nat → Bool) (i : Nat) : Bool := !((List.range n).any fun j => M j i)
def lastB (n : Nat) (M : Nat → Nat → Bool) (i : Nat) : Bool := !((List.range n).any fun k => M i k)
def impl_EndContexts.f (l0_0 : List S76) (l0_1 : List S90) : Option (List Int × List Int × Bool) := some (if goodB l0_0 l0_1 then (numsTo l0_0 (firstB l0_0.length (lat l0_0 l0_1)) l0_0.length, numsTo l0_0 (lastB l0_0.length (lat l0_0 l0_1)) l0_0.length, true) else ([], [], false))
set_option maxHeartbeats 8000000 in
set_option maxRecDepth 100000 in
theorem impl_EndContexts.predrow (i N n : Nat) (M : Nat → Nat → Bool) (b : Nat) (w : World) (H : Mat w N n M) (hi : i < n) (hb : b < w.heap.size) (hc : w.cell? ⟨b, 0, none⟩ = some (.int .i64 i)) : PredRow Try.prog 86 #[.pointer (some ⟨b, 0, none⟩)] (fun j => M j i) N n w := by
  intro W j hj hB
  have hc' := (hB.cell (p := ⟨b, 0, none⟩) hb).trans hc
  have hx := H.cell hj hi
  replace hx := (hB.cell (World.block_lt_of_cell? w _ hx)).trans hx
  have hil : (i : Int) < (n : Int) := by omega
  clear hc hB hb H
  go_enter Try.func86, Try.ntmps86
  go_wp2
  go_ret
  exact ⟨rfl, Below.refl _ _⟩
set_option maxHeartbeats 8000000 in
set_option maxRecDepth 100000 in
theorem impl_EndContexts.pred (w0 : World) (p N1 N2 n : Nat) (v : Value) (ns : List Int) (M1 M2 : Nat → Nat → Bool) (b : Nat) (w : World) (H : OrdIn w0 w p N1 N2 n v ns M1 M2) (hn : n ≤ 1000) (hb : b < w.heap.size) (hc : w.cell? ⟨b, 0, none⟩ = some (.pointer (some ⟨p, 0, none⟩))) : PredN Try.prog 84 #[.pointer (some ⟨b, 0, none⟩)] (firstB n M2) n w := by
  intro W i hi hB
  have hc' := (hB.cell (p := ⟨b, 0, none⟩) hb).trans hc
  have HO := Aside0.mk (H.step hB)
  have eg := enters_of Try.func86 (by kernel_rfl) rfl
  have HBB := Aside0.mk (hB.cell (p := ⟨b, 0, none⟩) hb)
  have hb' : b < W.heap.size := Nat.lt_of_lt_of_le hb hB.size
  clear hc hB hb H HBB
  go_enter Try.func84, Try.ntmps84
  go_upto_region 1 with (fail)
  have hal1 := below_alloc (Below.refl W.heap.size W) (.cells #[.int .i64 i] 3 (0, 0))
  have BK := Aside0.mk (heap_alloc_new W (.cells #[.int .i64 i] 3 (0, 0)))
  have HO := Aside0.mk (HO.out.step hal1)
  have hc' := pw_cell_below hal1 hc'
  have HB := Aside0.mk hal1
  clear hal1
  generalize W.alloc (.cells #[.int .i64 i] 3 (0, 0)) = wz at BK HO hc' HB ⊢
  have g2 := HO.out.c2
  have hz : wz.cell? ⟨W.heap.size, 0, none⟩ = some (.int .i64 (i : Int)) := (blk_cell BK.out 0).trans rfl
  have HZ := Aside0.mk hz
  go_wp2_with (go_at_call 85; (refine (slices_ContainsFunc_bool_bool.calls 86 _ eg (fun j => M2 j i) N2 n M2 _ HO.out.m2 hn (impl_EndContexts.predrow i N2 n M2 W.heap.size _ HO.out.m2 hi (blk_lt BK.out) HZ.out)).mono ?_); rintro e w1 ⟨rfl, hb⟩; have HC := Aside0.mk hb; clear hb)
  go_ret
  exact ⟨rfl, below_chain HB.out HC.out⟩
set_option maxHeartbeats 8000000 in
set_option maxRecDepth 100000 in
theorem impl_EndContexts.predl (w0 : World) (p N1 N2 n : Nat) (v : Value) (ns : List Int) (M1 M2 : Nat → Nat → Bool) (b : Nat) (w : World) (H : OrdIn w0 w p N1 N2 n v ns M1 M2) (hn : n ≤ 1000) (hb : b < w.heap.size) (hc : w.cell? ⟨b, 0, none⟩ = some (.pointer (some ⟨p, 0, none⟩))) : PredN Try.prog 87 #[.pointer (some ⟨b, 0, none⟩)] (lastB n M2) n w := by
  intro W i hi hB
  have hc' := (hB.cell (p := ⟨b, 0, none⟩) hb).trans hc
  have HO := Aside0.mk (H.step hB)
  have g1 := HO.out.c2
  have g2 := HO.out.m2.topc hi
  have hil : (i : Int) < (n : Int) := by omega
  clear hc hB hb H
  go_enter Try.func87, Try.ntmps87
  go_wp2_with (go_at_call 88; (refine (slices_Contains_bool_bool.calls (N2 + 1 + i) n (fun k => M2 i k) _ (HO.out.m2.row i hi) hn).mono ?_); rintro e w1 ⟨rfl, hb⟩; have HC := Aside0.mk hb; clear hb)
  go_ret
  exact ⟨rfl, HC.out⟩
set_option maxHeartbeats 8000000 in
set_option maxRecDepth 100000 in
theorem impl_EndContexts.calls (A0_0 : Option Addr) (c0_0 : Nat) (l0_0 : List S76) (A0_1 : Option Addr) (c0_1 : Nat) (l0_1 : List S90) (r1 r2 : List Int) (r3 : Bool) (w : World) (hr0_0 : Kd.C k76 w A0_0 l0_0.length l0_0) (hc0_0 : l0_0.length ≤ c0_0) (hr0_1 : Kd.C k90 w A0_1 l0_1.length l0_1) (hc0_1 : l0_1.length ≤ c0_1) (h : impl_EndContexts.f l0_0 l0_1 = some (r1, r2, r3)) :
    Calls Try.prog 43 #[.agg #[.slice A0_0 l0_0.length c0_0, .slice A0_1 l0_1.length c0_1]] w fun e w' => ∃ v0_ v1_ : Value, e = .returned (.tuple #[v0_, v1_, .bool r3]) ∧ Kd.R (Kd.int .i64) 3 w' w.heap.size (fun k_ => some k_ ≠ (v1_ : Value).ownBlock) v0_ r1 ∧ Kd.R (Kd.int .i64) 3 w' w.heap.size (fun k_ => some k_ ≠ (v0_ : Value).ownBlock) v1_ r2 ∧ Below w.heap.size w w' := by
  have H := Option.some.inj h
  clear h
  have HR0 := Aside0.mk hr0_0
  have HR1 := Aside0.mk hr0_1
  have HC0 := Aside0.mk hc0_0
  have HC1 := Aside0.mk hc0_1
  clear hr0_0 hr0_1 hc0_0 hc0_1
  obtain ⟨wb, hwb⟩ : ∃ wb, (w).alloc (.cells #[.slice A0_0 l0_0.length c0_0, .slice A0_1 l0_1.length c0_1] 32 (0, 0)) = wb := ⟨_, rfl⟩
  have HBw := Aside0.mk (show Below w.heap.size w wb from by rw [← hwb]; repeat (first | exact Below.refl _ _ | apply below_alloc))
  have HWB := HBw
  have hhr : wb.heap[w.heap.size]? = some (.cells #[.slice A0_0 l0_0.length c0_0, .slice A0_1 l0_1.length c0_1] 32 (0, 0)) := by rw [← hwb]; have h := blk_new (w) (.cells #[.slice A0_0 l0_0.length c0_0, .slice A0_1 l0_1.length c0_1] 32 (0, 0)); rw [show (w).heap.size = w.heap.size from by rfl] at h; exact h
  have hb0 : wb.cell? ⟨w.heap.size, 0, none⟩ = some (.slice A0_0 l0_0.length c0_0) := (blk_cell hhr 0).trans rfl
  have hb1 : wb.cell? ⟨w.heap.size, 1, none⟩ = some (.slice A0_1 l0_1.length c0_1) := (blk_cell hhr 1).trans rfl
  have hbs : w.heap.size < wb.heap.size := blk_lt hhr
  have HW := Aside0.mk hwb
  clear hwb hhr
  obtain ⟨b, hb⟩ : ∃ b, goodB l0_0 l0_1 = b := ⟨_, rfl⟩
  have AV := Aside0.mk (show impl_IsValidRecord.f l0_0 l0_1 = some b from congrArg some hb)
  rw [hb] at H
  have eg := enters_of Try.func84 (by kernel_rfl) rfl
  have eg2 := enters_of Try.func87 (by kernel_rfl) rfl
  cases b with
  | false =>
    clear hb
    injection H with H1 H2
    injection H2 with H2 H3
    subst H1; subst H2; subst H3
    go_enter Try.func43, Try.ntmps43
    go_upto_region 1 with (fail)
    try rw [HW.out]
    clear HW
    go_wp2_with (go_at_call 59; (with_reducible refine (impl_IsValidRecord.calls _ _ l0_0 _ _ l0_1 _ _ (Kd.C_below HR0.out (by repeat (first | exact HBw.out | exact Below.refl _ _ | apply below_alloc | apply pw_below_drewN | apply below_drew1))) HC0.out (Kd.C_below HR1.out (by repeat (first | exact HBw.out | exact Below.refl _ _ | apply below_alloc | apply pw_below_drewN | apply below_drew1))) HC1.out AV.out).mono ?_); rintro e w1 ⟨rfl, hb⟩; have HBw : Aside0 (Below w.heap.size w w1) := Aside0.mk (below_chain (w := w) (by repeat (first | exact HBw.out | exact Below.refl _ _ | apply below_alloc | apply pw_below_drewN | apply below_drew1)) hb); have hb0 := pw_cell_below hb hb0; clear hb)
    go_ret3
    exact ⟨_, _, rfl, Kd.R_nil _ _ _ _ _, Kd.R_nil _ _ _ _ _, (by repeat (first | exact HBw.out | exact Below.refl _ _ | apply below_alloc | apply pw_below_drewN | apply below_drew1))⟩
  | true =>
    have HG := Aside0.mk (goodB_parts hb)
    clear hb
    injection H with H1 H2
    injection H2 with H2 H3
    subst H1; subst H2; subst H3
    go_enter Try.func43, Try.ntmps43
    go_upto_region 1 with (fail)
    try rw [HW.out]
    clear HW
    go_upto_region 4 with (first | (go_at_call 59; (with_reducible refine (impl_IsValidRecord.calls _ _ l0_0 _ _ l0_1 _ _ (Kd.C_below HR0.out (by repeat (first | exact HBw.out | exact Below.refl _ _ | apply below_alloc | apply pw_below_drewN | apply below_drew1))) HC0.out (Kd.C_below HR1.out (by repeat (first | exact HBw.out | exact Below.refl _ _ | apply below_alloc | apply pw_below_drewN | apply below_drew1))) HC1.out AV.out).mono ?_); rintro e w1 ⟨rfl, hb⟩; have HBw : Aside0 (Below w.heap.size w w1) := Aside0.mk (below_chain (w := w) (by repeat (first | exact HBw.out | exact Below.refl _ _ | apply below_alloc | apply pw_below_drewN | apply below_drew1)) hb); have hb0 := pw_cell_below hb hb0; have hb1 := pw_cell_below hb hb1; clear hb) | (go_at_call 60; (refine (impl_orderOf.calls _ _ l0_0 _ _ l0_1 _ (Kd.C_below HR0.out (by repeat (first | exact HBw.out | exact Below.refl _ _ | apply below_alloc | apply pw_below_drewN | apply below_drew1))) HC0.out (Kd.C_below HR1.out (by repeat (first | exact HBw.out | exact Below.refl _ _ | apply below_alloc | apply pw_below_drewN | apply below_drew1))) HC1.out HG.out.1 HG.out.2.1 HG.out.2.2).mono ?_); rintro e w2 ⟨p, rfl, N1, N2, v, HO⟩; obtain ⟨A, c, rfl, hc⟩ := HO.slice (nums_length l0_0); have hb := HO.below; have HBw : Aside0 (Below w.heap.size w w2) := Aside0.mk (below_chain (w := w) (by repeat (first | exact HBw.out | exact Below.refl _ _ | apply below_alloc | apply pw_below_drewN | apply below_drew1)) hb); have hb0 := pw_cell_below hb hb0; have hb1 := pw_cell_below hb hb1; have HOA := Aside0.mk HO; clear hb HO))
    obtain ⟨gv, hgv⟩ : ∃ g, w2.heap.size = g := ⟨_, rfl⟩
    have HBO := Aside0.mk (below_alloc (Below.refl w2.heap.size w2) (.cells #[.pointer (some ⟨p, 0, none⟩)] 66 (0, 0)))
    have BV := Aside0.mk (blk_new w2 (.cells #[.pointer (some ⟨p, 0, none⟩)] 66 (0, 0)))
    generalize w2.alloc (.cells #[.pointer (some ⟨p, 0, none⟩)] 66 (0, 0)) = wq at HBO BV ⊢
    rw [hgv] at BV
    try rw [hgv]
    have HOA := Aside0.mk (HOA.out.step HBO.out)
    have HBw := Aside0.mk (below_chain HBw.out HBO.out)
    have hb0 := pw_cell_below HBO.out hb0
    have hb1 := pw_cell_below HBO.out hb1
    have hz : wq.cell? ⟨gv, 0, none⟩ = some (.pointer (some ⟨p, 0, none⟩)) := (blk_cell BV.out 0).trans rfl
    clear hgv HBO
    go_upto_region 5 with (go_at_call 71; (refine (impl_order_numbersOf.calls 84 _ eg _ _ p N1 N2 A c l0_0 _ _ _ HOA.out (by have := HG.out.1; omega) (impl_EndContexts.pred _ p N1 N2 _ _ _ _ _ gv _ HOA.out (by have := HG.out.1; omega) (blk_lt BV.out) hz)).mono ?_); rintro e w3 ⟨v3, rfl, hR, hb⟩; have HR3 := Aside0.mk hR; have HB3 := Aside0.mk hb; have HOB := Aside0.mk (HOA.out.step hb); have BV := Aside0.mk (blk_below BV.out hb); have hz := pw_cell_below hb hz; clear hR hb)
    go_wp2_with (go_at_call 71; (refine (impl_order_numbersOf.calls 87 _ eg2 _ _ p N1 N2 A c l0_0 _ _ _ HOB.out (by have := HG.out.1; omega) (impl_EndContexts.predl _ p N1 N2 _ _ _ _ _ gv _ HOB.out (by have := HG.out.1; omega) (blk_lt BV.out) hz)).mono ?_); rintro e w4 ⟨v4, rfl, hR, hb⟩; have HR4 := Aside0.mk hR; have HB4 := Aside0.mk hb; clear hR hb)
    go_ret3
    have h2 := R_two (b' := w.heap.size) HR3.out HR4.out HB4.out HBw.out.size (Nat.le_trans HBw.out.size HB3.out.size)
    exact ⟨_, _, rfl, h2.1, h2.2, below_chain (below_chain HBw.out HB3.out) HB4.out⟩

end Go.Proofs.Ytdpehkfjhfjobaa.Q

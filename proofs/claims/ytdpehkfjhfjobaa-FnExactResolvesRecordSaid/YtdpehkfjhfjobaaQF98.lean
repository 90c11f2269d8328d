-- Written by a program of this session (wip/xprint.py over the kit's printer).
import Derived.Test.YtdpehkfjhfjobaaQ0
import Derived.Test.YtdpehkfjhfjobaaQF111
import Derived.Test.YtdpehkfjhfjobaaQF60
import Derived.Test.YtdpehkfjhfjobaaQF61
import Derived.Test.YtdpehkfjhfjobaaQF64
import Derived.Test.YtdpehkfjhfjobaaQF80
import Derived.Test.YtdpehkfjhfjobaaQF81
import Derived.Test.YtdpehkfjhfjobaaQF96
import Derived.Test.YtdpehkfjhfjobaaQP
namespace Go.Proofs.Ytdpehkfjhfjobaa.Q
open Go.RowKit Go.Proofs.YtdpehkfjhfjobaaW.PrintWords Go.Proofs.YtdpehkfjhfjobaaW.PrintLast Go.Proofs.YtdpehkfjhfjobaaW.PrintMore
attribute [local go_sem] max2_int min2_int max_two min_two max_three min_three max_four min_four   -- for this text's walks alone
set_option linter.unusedVariables false
set_option linter.unusedSimpArgs false

/-! ### impl_resolves: function 98 -/
def inSet (set : List S90) (x : S90) : Bool := set.any fun y => x.f0 == y.f0 && x.f1 == y.f1
def keepRels (rs set : List S90) : List S90 := rs.filter fun x => !(inSet set x)
def relsInB (cs : List S76) (rs : List S90) : Bool := rs.all fun x => decide (0 ≤ find cs x.f0) && decide (0 ≤ find cs x.f1)
theorem relsInB_iff {cs : List S76} {rs : List S90} : relsInB cs rs = true ↔ relsIn cs rs := by
  unfold relsInB relsIn
  rw [List.all_eq_true]
  constructor
  · intro h x hx; simpa using h x hx
  · intro h x hx; simpa using h x hx
theorem relsIn_keep {cs : List S76} {rs : List S90} (set : List S90) (h : relsIn cs rs) : relsIn cs (keepRels rs set) := fun x hx => h x (List.mem_filter.1 hx).1
theorem keepRels_le (rs set : List S90) : (keepRels rs set).length ≤ rs.length := List.length_filter_le _ _
def impl_resolves.f (l0_0 : List S76) (l0_1 : List S90) (l1 : List S90) : Option Bool := if l0_0.length ≤ 10 ∧ l0_1.length ≤ 24 ∧ l1.length ≤ 1048576 ∧ relsInB l0_0 l0_1 = true then some (consB l0_0.length (lat l0_0 (keepRels l0_1 l1))) else none
set_option maxHeartbeats 8000000 in
set_option maxRecDepth 100000 in
theorem impl_resolves.pred (ws : World) (As : Option Addr) (cS : Nat) (lS : List S90) (hrS : Kd.C k90 ws As lS.length lS) (hcS : lS.length ≤ cS) (hl : lS.length ≤ 1048576) (l0_1 : List S90) (bs base : Nat) (ok : Nat → Prop) (v : Value) (w : World) (hbw : Below ws.heap.size ws w) (hws : ws.heap.size ≤ base) (HR : Kd.R k90 90 w base ok v l0_1) (bvs : w.heap[bs]? = some (.cells #[.slice As lS.length cS] 30 (0, 0))) :
    PredVon Try.prog 119 #[.pointer (some ⟨bs, 0, none⟩)] enc90 (inSet lS) v w l0_1 := by
  intro W x hx hB
  have HVS := blk_grown bvs hB (Kd.R_ne HR bvs (by decide))
  have HWW := Aside0.mk (below_of_grown hbw hB (fun k hk => Nat.le_trans hws (Kd.R_base HR k hk)))
  have HRS := Aside0.mk hrS
  have HCS := Aside0.mk hcS
  obtain ⟨rb, hrb⟩ : ∃ b, inSet lS x = b := ⟨_, rfl⟩
  have AC := Aside0.mk (show impl_Relation_96.f lS x.f0 x.f1 = some rb from by
    unfold impl_Relation_96.f
    rw [if_pos hl]
    exact congrArg some hrb)
  rw [hrb]
  unfold enc90
  have hz : W.cell? ⟨bs, 0, none⟩ = some (.slice As lS.length cS) := (blk_cell HVS 0).trans rfl
  clear hrS hcS hl HR bvs hbw hws hB HVS hrb hx
  go_enter Try.func119, Try.ntmps119
  go_upto_region 1 with (fail)
  have hal1 := below_alloc (Below.refl W.heap.size W) (.cells #[.int .i64 x.f0, .int .i64 x.f1] 90 (0, 0))
  have BX := heap_alloc_new W (.cells #[.int .i64 x.f0, .int .i64 x.f1] 90 (0, 0))
  have hx0 := (blk_cell BX 0).trans rfl
  have hx1 := (blk_cell BX 1).trans rfl
  have hz := pw_cell_below hal1 hz
  have HAL := Aside0.mk hal1
  have HWW := Aside0.mk (below_chain HWW.out hal1)
  clear hal1 BX
  generalize W.alloc (.cells #[.int .i64 x.f0, .int .i64 x.f1] 90 (0, 0)) = wq at hx0 hx1 hz HAL HWW ⊢
  go_wp2_with (go_at_call 96; (refine (impl_Relation_96.calls _ _ lS x.f0 x.f1 _ _ (Kd.C_below HRS.out HWW.out) HCS.out AC.out).mono ?_); rintro e w1 ⟨rfl, hb⟩; have HB1 := Aside0.mk hb; clear hb)
  go_ret
  exact ⟨rfl, below_chain HAL.out HB1.out⟩
set_option maxHeartbeats 8000000 in
set_option maxRecDepth 100000 in
theorem impl_resolves.calls (A0_0 : Option Addr) (c0_0 : Nat) (l0_0 : List S76) (A0_1 : Option Addr) (c0_1 : Nat) (l0_1 : List S90) (A1 : Option Addr) (c1 : Nat) (l1 : List S90) (r : Bool) (w : World) (hr0_0 : Kd.C k76 w A0_0 l0_0.length l0_0) (hc0_0 : l0_0.length ≤ c0_0) (hr0_1 : Kd.C k90 w A0_1 l0_1.length l0_1) (hc0_1 : l0_1.length ≤ c0_1) (hr1 : Kd.C k90 w A1 l1.length l1) (hc1 : l1.length ≤ c1) (h : impl_resolves.f l0_0 l0_1 l1 = some r) :
    Calls Try.prog 98 #[.agg #[.slice A0_0 l0_0.length c0_0, .slice A0_1 l0_1.length c0_1], .slice A1 l1.length c1] w fun e w' => e = .returned (.bool r) ∧ Below w.heap.size w w' := by
  unfold impl_resolves.f at h
  have hcond : l0_0.length ≤ 10 ∧ l0_1.length ≤ 24 ∧ l1.length ≤ 1048576 ∧ relsInB l0_0 l0_1 = true := by
    by_cases hc : l0_0.length ≤ 10 ∧ l0_1.length ≤ 24 ∧ l1.length ≤ 1048576 ∧ relsInB l0_0 l0_1 = true
    · exact hc
    · rw [if_neg hc] at h; exact absurd h (by simp)
  rw [if_pos hcond] at h
  have H := Option.some.inj h
  subst H
  clear h
  have HG := Aside0.mk hcond
  have HIN := Aside0.mk (relsInB_iff.1 hcond.2.2.2)
  clear hcond
  have HRS := Aside0.mk hr1
  have HCS := Aside0.mk hc1
  clear hr1 hc1
  have AC := Aside0.mk (show impl_Relation_81.f l0_1 = some l0_1 from by
    have h1 := HG.out.2.1
    unfold impl_Relation_81.f
    exact if_pos (by omega))
  have HKL := Aside0.mk (keepRels_le l0_1 l1)
  have HKI := Aside0.mk (relsIn_keep l1 HIN.out)
  have HKF := Aside0.mk (show (l0_1.filter fun x => !(inSet l1 x)) = keepRels l0_1 l1 from rfl)
  generalize keepRels l0_1 l1 = kl at HKL HKI HKF ⊢
  have HR0 := Aside0.mk hr0_0
  have HR1 := Aside0.mk hr0_1
  have HC0 := Aside0.mk hc0_0
  have HC1 := Aside0.mk hc0_1
  clear hr0_0 hr0_1 hc0_0 hc0_1
  obtain ⟨wb, hwb⟩ : ∃ wb, ((w).alloc (.cells #[.slice A0_0 l0_0.length c0_0, .slice A0_1 l0_1.length c0_1] 32 (0, 0))).alloc (.cells #[.slice A1 l1.length c1] 30 (0, 0)) = wb := ⟨_, rfl⟩
  have HBw := Aside0.mk (show Below w.heap.size w wb from by rw [← hwb]; repeat (first | exact Below.refl _ _ | apply below_alloc))
  have HWB := HBw
  have hhr : wb.heap[w.heap.size]? = some (.cells #[.slice A0_0 l0_0.length c0_0, .slice A0_1 l0_1.length c0_1] 32 (0, 0)) := by rw [← hwb]; have h := blk_new (w) (.cells #[.slice A0_0 l0_0.length c0_0, .slice A0_1 l0_1.length c0_1] 32 (0, 0)); rw [show (w).heap.size = w.heap.size from by rfl] at h; exact blk_alloc (h) _
  have hb0 : wb.cell? ⟨w.heap.size, 0, none⟩ = some (.slice A0_0 l0_0.length c0_0) := (blk_cell hhr 0).trans rfl
  have hb1 : wb.cell? ⟨w.heap.size, 1, none⟩ = some (.slice A0_1 l0_1.length c0_1) := (blk_cell hhr 1).trans rfl
  have hh0 : wb.heap[w.heap.size + 1]? = some (.cells #[.slice A1 l1.length c1] 30 (0, 0)) := by rw [← hwb]; have h := blk_new ((w).alloc (.cells #[.slice A0_0 l0_0.length c0_0, .slice A0_1 l0_1.length c0_1] 32 (0, 0))) (.cells #[.slice A1 l1.length c1] 30 (0, 0)); rw [show ((w).alloc (.cells #[.slice A0_0 l0_0.length c0_0, .slice A0_1 l0_1.length c0_1] 32 (0, 0))).heap.size = w.heap.size + 1 from by simp] at h; exact h
  have hx0 : wb.cell? ⟨w.heap.size + 1, 0, none⟩ = some (.slice A1 l1.length c1) := (blk_cell hh0 0).trans rfl
  have hbs : w.heap.size + 1 < wb.heap.size := blk_lt hh0
  have HW := Aside0.mk hwb
  clear hwb
  have eg := enters_of Try.func119 (by kernel_rfl) rfl
  have BR := Aside0.mk hhr
  have BS := Aside0.mk hh0
  clear hhr hh0
  go_enter Try.func98, Try.ntmps98
  go_upto_region 1 with (fail)
  try rw [HW.out]
  clear HW
  go_upto_region 2 with (first | (go_at_call 81; (with_reducible refine (impl_Relation_81.calls _ _ l0_1 l0_1 _ (Kd.C_below HR1.out HBw.out) HC1.out AC.out).mono ?_); rintro e w3 ⟨v0, rfl, hR, hb⟩; have HRc := Aside0.mk hR; have HSZ := Aside0.mk HBw.out.size; have HBw : Aside0 (Below w.heap.size w w3) := Aside0.mk (below_chain (w := w) (by repeat (first | exact HBw.out | exact Below.refl _ _ | apply below_alloc | apply pw_below_drewN | apply below_drew1)) hb); have hb0 := pw_cell_below hb hb0; have hb1 := pw_cell_below hb hb1; have BS := Aside0.mk (blk_below BS.out hb); have BR := Aside0.mk (blk_below BR.out hb); clear hb hR) | (go_at_call 80; (refine (impl_Relation_80.callsOn 119 _ eg _ v0 l0_1 _ _ _ HRc.out (impl_resolves.pred w A1 c1 l1 HRS.out HCS.out HG.out.2.2.1 l0_1 (w.heap.size + 1) _ _ v0 _ HBw.out HSZ.out HRc.out BS.out)).mono ?_); rintro e w4 ⟨v1, rfl, hR, hg⟩; rw [HKF.out] at hR; obtain ⟨D1, d1, rfl, hd1, hC1⟩ := Kd.R_reads hR; have HK4 := Aside0.mk hC1; have HD4 := Aside0.mk hd1; have BR4 := Aside0.mk (blk_grown BR.out hg (Kd.R_ne HRc.out BR.out (by decide))); have HB4 := Aside0.mk (below_of_grown HBw.out hg (fun b hb => Nat.le_trans HSZ.out (Kd.R_base HRc.out b hb))); clear hR hg hC1 hd1))
  clear hb0 hb1
  have hb0 : w4.cell? ⟨w.heap.size, 0, none⟩ = some (.slice A0_0 l0_0.length c0_0) := (blk_cell BR4.out 0).trans rfl
  go_wp2_with (first | (go_at_call 60; (refine (impl_orderOf.calls _ _ l0_0 _ _ kl _ (Kd.C_below HR0.out HB4.out) HC0.out HK4.out HD4.out HG.out.1 (Nat.le_trans HKL.out HG.out.2.1) HKI.out).mono ?_); rintro e w5 ⟨p, rfl, N1, N2, v, HO⟩; obtain ⟨A, c, rfl, hc⟩ := HO.slice (nums_length l0_0); have HB5 := Aside0.mk (below_chain HB4.out HO.below); have HOA := Aside0.mk HO; clear HO) | (go_at_call 61; (refine (impl_order_consistent.calls _ p N1 N2 l0_0.length A c _ _ _ _ HOA.out (by have := HG.out.1; omega)).mono ?_); rintro e w6 ⟨rfl, hb⟩; have HB6 := Aside0.mk (below_chain HB5.out hb); clear hb))
  go_ret
  exact ⟨rfl, HB6.out⟩

end Go.Proofs.Ytdpehkfjhfjobaa.Q

-- Written by a program of this session (wip/xprint.py over the kit's printer).
import Derived.Test.YtlbkoejpjpcgaaaQ0
import Derived.Test.YtlbkoejpjpcgaaaQF71
import Derived.Test.YtlbkoejpjpcgaaaQF85
import Derived.Test.YtlbkoejpjpcgaaaQF90
import Derived.Test.YtlbkoejpjpcgaaaQF94
import Derived.Test.YtlbkoejpjpcgaaaQP
namespace Go.Proofs.Ytlbkoejpjpcgaaa.Q
open Go.RowKit Go.Proofs.YtlbkoejpjpcgaaaW.PrintWords Go.Proofs.YtlbkoejpjpcgaaaW.PrintLast
set_option linter.unusedVariables false
set_option linter.unusedSimpArgs false

/-! ### impl_readConsistent: function 50 -/
set_option maxHeartbeats 8000000 in
set_option maxRecDepth 100000 in
theorem impl_readConsistent.bad (A0_0 : Option Addr) (c0_0 : Nat) (l0_0 : List S108) (A0_1 : Option Addr) (c0_1 : Nat) (l0_1 : List S100) (w : World) (hr0_0 : Kd.C k108 w A0_0 l0_0.length l0_0) (hc0_0 : l0_0.length ≤ c0_0) (hr0_1 : Kd.C k100 w A0_1 l0_1.length l0_1) (hc0_1 : l0_1.length ≤ c0_1) (h : goodB l0_0 l0_1 = false) :
    Calls Try.prog 50 #[.agg #[.slice A0_0 l0_0.length c0_0, .slice A0_1 l0_1.length c0_1]] w fun e w' => e = .returned (.tuple #[.pointer none, .bool false]) ∧ Below w.heap.size w w' := by
  have HR0 := Aside0.mk hr0_0
  have HR1 := Aside0.mk hr0_1
  have HC0 := Aside0.mk hc0_0
  have HC1 := Aside0.mk hc0_1
  clear hr0_0 hr0_1 hc0_0 hc0_1
  obtain ⟨wb, hwb⟩ : ∃ wb, (w).alloc (.cells #[.slice A0_0 l0_0.length c0_0, .slice A0_1 l0_1.length c0_1] 33 (0, 0)) = wb := ⟨_, rfl⟩
  have HBw := Aside0.mk (show Below w.heap.size w wb from by rw [← hwb]; repeat (first | exact Below.refl _ _ | apply below_alloc))
  have HWB := HBw
  have hhr : wb.heap[w.heap.size]? = some (.cells #[.slice A0_0 l0_0.length c0_0, .slice A0_1 l0_1.length c0_1] 33 (0, 0)) := by rw [← hwb]; have h := blk_new (w) (.cells #[.slice A0_0 l0_0.length c0_0, .slice A0_1 l0_1.length c0_1] 33 (0, 0)); rw [show (w).heap.size = w.heap.size from by rfl] at h; exact h
  have hb0 : wb.cell? ⟨w.heap.size, 0, none⟩ = some (.slice A0_0 l0_0.length c0_0) := (blk_cell hhr 0).trans rfl
  have hb1 : wb.cell? ⟨w.heap.size, 1, none⟩ = some (.slice A0_1 l0_1.length c0_1) := (blk_cell hhr 1).trans rfl
  have hbs : w.heap.size < wb.heap.size := blk_lt hhr
  have HW := Aside0.mk hwb
  clear hwb hhr
  have AV := Aside0.mk (show impl_IsValidRecord.f l0_0 l0_1 = some false from congrArg some h)
  clear h
  go_enter Try.func50, Try.ntmps50
  go_upto_region 1 with (fail)
  try rw [HW.out]
  clear HW
  go_wp2_with (go_at_call 71; (with_reducible refine (impl_IsValidRecord.calls _ _ l0_0 _ _ l0_1 _ _ (Kd.C_below HR0.out (by repeat (first | exact HBw.out | exact Below.refl _ _ | apply below_alloc | apply pw_below_drewN | apply below_drew1))) HC0.out (Kd.C_below HR1.out (by repeat (first | exact HBw.out | exact Below.refl _ _ | apply below_alloc | apply pw_below_drewN | apply below_drew1))) HC1.out AV.out).mono ?_); rintro e w1 ⟨rfl, hb⟩; have HBw : Aside0 (Below w.heap.size w w1) := Aside0.mk (below_chain (w := w) (by repeat (first | exact HBw.out | exact Below.refl _ _ | apply below_alloc | apply pw_below_drewN | apply below_drew1)) hb); have hb0 := pw_cell_below hb hb0; clear hb)
  go_ret2
  exact ⟨rfl, (by repeat (first | exact HBw.out | exact Below.refl _ _ | apply below_alloc | apply pw_below_drewN | apply below_drew1))⟩
set_option maxHeartbeats 8000000 in
set_option maxRecDepth 100000 in
theorem impl_readConsistent.calls (A0_0 : Option Addr) (c0_0 : Nat) (l0_0 : List S108) (A0_1 : Option Addr) (c0_1 : Nat) (l0_1 : List S100) (w : World) (hr0_0 : Kd.C k108 w A0_0 l0_0.length l0_0) (hc0_0 : l0_0.length ≤ c0_0) (hr0_1 : Kd.C k100 w A0_1 l0_1.length l0_1) (hc0_1 : l0_1.length ≤ c0_1) (h : goodB l0_0 l0_1 = true) :
    Calls Try.prog 50 #[.agg #[.slice A0_0 l0_0.length c0_0, .slice A0_1 l0_1.length c0_1]] w fun e w' => ∃ p, e = .returned (.tuple #[.pointer (some ⟨p, 0, none⟩), .bool (consB l0_0.length (lat l0_0 l0_1))]) ∧ ∃ N1 N2 A c, OrdIn w w' p N1 N2 l0_0.length (.slice A l0_0.length c) (nums l0_0) (abv l0_0 l0_1) (lat l0_0 l0_1) := by
  have HG := Aside0.mk (goodB_parts h)
  have HR0 := Aside0.mk hr0_0
  have HR1 := Aside0.mk hr0_1
  have HC0 := Aside0.mk hc0_0
  have HC1 := Aside0.mk hc0_1
  clear hr0_0 hr0_1 hc0_0 hc0_1
  obtain ⟨wb, hwb⟩ : ∃ wb, (w).alloc (.cells #[.slice A0_0 l0_0.length c0_0, .slice A0_1 l0_1.length c0_1] 33 (0, 0)) = wb := ⟨_, rfl⟩
  have HBw := Aside0.mk (show Below w.heap.size w wb from by rw [← hwb]; repeat (first | exact Below.refl _ _ | apply below_alloc))
  have HWB := HBw
  have hhr : wb.heap[w.heap.size]? = some (.cells #[.slice A0_0 l0_0.length c0_0, .slice A0_1 l0_1.length c0_1] 33 (0, 0)) := by rw [← hwb]; have h := blk_new (w) (.cells #[.slice A0_0 l0_0.length c0_0, .slice A0_1 l0_1.length c0_1] 33 (0, 0)); rw [show (w).heap.size = w.heap.size from by rfl] at h; exact h
  have hb0 : wb.cell? ⟨w.heap.size, 0, none⟩ = some (.slice A0_0 l0_0.length c0_0) := (blk_cell hhr 0).trans rfl
  have hb1 : wb.cell? ⟨w.heap.size, 1, none⟩ = some (.slice A0_1 l0_1.length c0_1) := (blk_cell hhr 1).trans rfl
  have hbs : w.heap.size < wb.heap.size := blk_lt hhr
  have HW := Aside0.mk hwb
  clear hwb hhr
  have AV := Aside0.mk (show impl_IsValidRecord.f l0_0 l0_1 = some true from congrArg some h)
  clear h
  go_enter Try.func50, Try.ntmps50
  go_upto_region 1 with (fail)
  try rw [HW.out]
  clear HW
  go_wp2_with (first | (go_at_call 71; (with_reducible refine (impl_IsValidRecord.calls _ _ l0_0 _ _ l0_1 _ _ (Kd.C_below HR0.out (by repeat (first | exact HBw.out | exact Below.refl _ _ | apply below_alloc | apply pw_below_drewN | apply below_drew1))) HC0.out (Kd.C_below HR1.out (by repeat (first | exact HBw.out | exact Below.refl _ _ | apply below_alloc | apply pw_below_drewN | apply below_drew1))) HC1.out AV.out).mono ?_); rintro e w1 ⟨rfl, hb⟩; have HBw : Aside0 (Below w.heap.size w w1) := Aside0.mk (below_chain (w := w) (by repeat (first | exact HBw.out | exact Below.refl _ _ | apply below_alloc | apply pw_below_drewN | apply below_drew1)) hb); have hb0 := pw_cell_below hb hb0; have hb1 := pw_cell_below hb hb1; clear hb) | (go_at_call 85; (refine (impl_orderOf.calls _ _ l0_0 _ _ l0_1 _ (Kd.C_below HR0.out (by repeat (first | exact HBw.out | exact Below.refl _ _ | apply below_alloc | apply pw_below_drewN | apply below_drew1))) HC0.out (Kd.C_below HR1.out (by repeat (first | exact HBw.out | exact Below.refl _ _ | apply below_alloc | apply pw_below_drewN | apply below_drew1))) HC1.out HG.out.1 HG.out.2.1 HG.out.2.2).mono ?_); rintro e w2 ⟨p, rfl, N1, N2, v, HO⟩; obtain ⟨A, c, rfl, hc⟩ := HO.slice (nums_length l0_0); have hb := HO.below; have HWW := HBw; have HBw : Aside0 (Below w.heap.size w w2) := Aside0.mk (below_chain (w := w) (by repeat (first | exact HBw.out | exact Below.refl _ _ | apply below_alloc | apply pw_below_drewN | apply below_drew1)) hb); have hb0 := pw_cell_below hb hb0; have hb1 := pw_cell_below hb hb1; have HOA := Aside0.mk HO; clear hb HO) | (go_at_call 94; (refine (impl_order_consistent.calls _ p N1 N2 l0_0.length A c _ _ _ _ HOA.out (by have := HG.out.1; omega)).mono ?_); rintro e w3 ⟨rfl, hb⟩; have HOB := Aside0.mk (HOA.out.step hb); clear hb))
  go_ret2
  exact ⟨p, rfl, N1, N2, A, c, OrdIn.base HOB.out HWW.out⟩

end Go.Proofs.Ytlbkoejpjpcgaaa.Q

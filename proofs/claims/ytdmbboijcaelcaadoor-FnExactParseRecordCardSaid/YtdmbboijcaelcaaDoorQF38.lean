-- Written by a program of this session (wip/xprint.py over the kit's printer).
import Derived.Test.YtdmbboijcaelcaaDoorQ0
import Derived.Test.YtdmbboijcaelcaaDoorQF116
import Derived.Test.YtdmbboijcaelcaaDoorQF77
import Derived.Test.YtdmbboijcaelcaaDoorQF78
import Derived.Test.YtdmbboijcaelcaaDoorQF79
import Derived.Test.YtdmbboijcaelcaaDoorQF83
import Derived.Test.YtdmbboijcaelcaaDoorQP
import Derived.Test.YtdmbboijcaelcaaDoorRead
namespace Go.Proofs.YtdmbboijcaelcaaDoor.Q
open Go.RowKit Go.Proofs.YtdmbboijcaelcaaDoorW.PrintWords Go.Proofs.YtdmbboijcaelcaaDoorW.PrintLast
set_option linter.unusedVariables false
set_option linter.unusedSimpArgs false

/-! ### impl_FormatRecord: function 38 -/
theorem ctx_bounds : ∀ (cs : List S94) (p : Option Int), ctxOk p cs = true → ∀ x ∈ cs, 1 ≤ x.f0 ∧ x.f0 ≤ 999 ∧ 1 ≤ x.f1 ∧ x.f1 ≤ 4
  | [], _, _ => fun x hx => by simp at hx
  | c :: r, p, h => by
    simp only [ctxOk, Bool.and_eq_true, decide_eq_true_eq] at h
    intro x hx
    rcases List.mem_cons.1 hx with rfl | hx
    · exact ⟨h.1.1.1.1, h.1.1.1.2, h.1.1.2.1, h.1.1.2.2⟩
    · exact ctx_bounds r _ h.2 x hx
theorem find_bounds (cs : List S94) (hc : ∀ x ∈ cs, 1 ≤ x.f0 ∧ x.f0 ≤ 999 ∧ 1 ≤ x.f1 ∧ x.f1 ≤ 4) (n : Int) (h : 0 ≤ find cs n) : 1 ≤ n ∧ n ≤ 999 := by
  unfold find at h
  obtain ⟨k, hk, e, hp, _⟩ := idxI_found (fun c : S94 => c.f0 == n) z94 cs (by omega)
  have hm : cs.getD k z94 ∈ cs := by rw [List.getD_eq_getElem?_getD, List.getElem?_eq_getElem hk]; exact List.getElem_mem hk
  have h2 := hc _ hm
  have h3 : (cs.getD k z94).f0 = n := by simpa using hp
  omega
theorem rel_bounds (cs : List S94) (hc : ∀ x ∈ cs, 1 ≤ x.f0 ∧ x.f0 ≤ 999 ∧ 1 ≤ x.f1 ∧ x.f1 ≤ 4) : ∀ (rs : List S96) (p : Option S96), relOk cs p rs = true → ∀ x ∈ rs, (1 ≤ x.f0 ∧ x.f0 ≤ 999) ∧ 1 ≤ x.f1 ∧ x.f1 ≤ 999
  | [], _, _ => fun x hx => by simp at hx
  | y :: r, p, h => by
    simp only [relOk, Bool.and_eq_true, decide_eq_true_eq] at h
    intro x hx
    rcases List.mem_cons.1 hx with rfl | hx
    · exact ⟨find_bounds cs hc _ h.1.1.1.2, find_bounds cs hc _ h.1.1.2⟩
    · exact rel_bounds cs hc r _ h.2 x hx
theorem good_bounds {cs : List S94} {rs : List S96} (h : goodB cs rs = true) : cs.length ≤ 10 ∧ rs.length ≤ 24 ∧ (∀ x ∈ cs, 1 ≤ x.f0 ∧ x.f0 ≤ 999 ∧ 1 ≤ x.f1 ∧ x.f1 ≤ 4) ∧ ∀ x ∈ rs, (1 ≤ x.f0 ∧ x.f0 ≤ 999) ∧ 1 ≤ x.f1 ∧ x.f1 ≤ 999 := by
  simp only [goodB, Bool.and_eq_true, decide_eq_true_eq] at h
  have hc := ctx_bounds cs none h.1.2
  exact ⟨h.1.1.1, h.1.1.2, hc, rel_bounds cs hc rs none h.2⟩
theorem itB_small (n : Int) (h0 : -999999 ≤ n) (h1 : n ≤ 999999) : (itB n).size ≤ 7 := by
  have h := itoa_len7 n h0 h1
  show (Lib.itoa n).toArray.size ≤ 7
  simpa using h
theorem kw_small (k : Int) (h0 : 0 ≤ k) (h1 : k < 5) : (rdOf ByteArray.empty kws k).size ≤ 9 := by
  obtain ⟨n, rfl⟩ : ∃ n : Nat, k = n := ⟨k.toNat, by omega⟩
  have hn : n < 5 := by omega
  match n, hn with
  | 0, _ => decide
  | 1, _ => decide
  | 2, _ => decide
  | 3, _ => decide
  | 4, _ => decide
theorem okC_of {x : S94} (h : 1 ≤ x.f0 ∧ x.f0 ≤ 999 ∧ 1 ≤ x.f1 ∧ x.f1 ≤ 4) : OkC x :=
  ⟨by omega, by omega, by omega, by omega, by have := itB_small x.f0 (by omega) (by omega); omega, by have := kw_small x.f1 (by omega) (by omega); omega⟩
theorem okR_of {x : S96} (h : (1 ≤ x.f0 ∧ x.f0 ≤ 999) ∧ 1 ≤ x.f1 ∧ x.f1 ≤ 999) : OkR x :=
  ⟨by omega, by omega, by omega, by omega, by have := itB_small x.f0 (by omega) (by omega); omega, by have := itB_small x.f1 (by omega) (by omega); omega⟩
def allK : List Int → Bool := fun _ => true
/-- What the program writes. -/
def fmtRI (cs : List S94) (rs : List S96) (T : ByteArray) : ByteArray × Bool := if goodB cs rs then (T, true) else (⟨#[]⟩, false)
set_option maxHeartbeats 2000000 in
set_option maxRecDepth 100000 in
theorem impl_FormatRecord.keep (w : World) : PredK Tryd.prog 80 #[] allK w := by
  intro W A c ns hB hC hc
  show Calls Tryd.prog 80 #[.slice A ns.length c] W (fun e w' => e = .returned (.bool true) ∧ Below W.heap.size W w')
  go_enter Tryd.func80, Tryd.ntmps80
  go_wp2
  go_ret
  exact ⟨rfl, by repeat (first | exact Below.refl _ _ | apply below_alloc | apply pw_below_drewN | apply below_drew1)⟩
set_option maxHeartbeats 2000000 in
set_option maxRecDepth 100000 in
theorem impl_FormatRecord.calls (kn : Nat) (T : ByteArray) (A0_0 : Option Addr) (c0_0 : Nat) (l0_0 : List S94) (A0_1 : Option Addr) (c0_1 : Nat) (l0_1 : List S96) (w : World) (hr0_0 : Kd.C k94 w A0_0 l0_0.length l0_0) (hc0_0 : l0_0.length ≤ c0_0) (hr0_1 : Kd.C k96 w A0_1 l0_1.length l0_1) (hc0_1 : l0_1.length ≤ c0_1) (hT : goodB l0_0 l0_1 = true → impl_withNewlines.f kn (keepR allK l0_0 l0_1) = some T) (hl : LW w) :
    Calls Tryd.prog 38 #[.agg #[.slice A0_0 l0_0.length c0_0, .slice A0_1 l0_1.length c0_1]] w fun e w' => e = .returned (.tuple #[.string (fmtRI l0_0 l0_1 T).1, .bool (fmtRI l0_0 l0_1 T).2]) ∧ Below w.heap.size w w' := by
  have HL := Aside0.mk hl
  have HTT := Aside0.mk hT
  clear hl hT
  have HR0 := Aside0.mk hr0_0
  have HR1 := Aside0.mk hr0_1
  have HC0 := Aside0.mk hc0_0
  have HC1 := Aside0.mk hc0_1
  clear hr0_0 hr0_1 hc0_0 hc0_1
  obtain ⟨wb, hwb⟩ : ∃ wb, (w).alloc (.cells #[.slice A0_0 l0_0.length c0_0, .slice A0_1 l0_1.length c0_1] 52 (0, 0)) = wb := ⟨_, rfl⟩
  have HBw := Aside0.mk (show Below w.heap.size w wb from by rw [← hwb]; repeat (first | exact Below.refl _ _ | apply below_alloc))
  have HWB := HBw
  have hhr : wb.heap[w.heap.size]? = some (.cells #[.slice A0_0 l0_0.length c0_0, .slice A0_1 l0_1.length c0_1] 52 (0, 0)) := by rw [← hwb]; have h := blk_new (w) (.cells #[.slice A0_0 l0_0.length c0_0, .slice A0_1 l0_1.length c0_1] 52 (0, 0)); rw [show (w).heap.size = w.heap.size from by rfl] at h; exact h
  have hb0 : wb.cell? ⟨w.heap.size, 0, none⟩ = some (.slice A0_0 l0_0.length c0_0) := (blk_cell hhr 0).trans rfl
  have hb1 : wb.cell? ⟨w.heap.size, 1, none⟩ = some (.slice A0_1 l0_1.length c0_1) := (blk_cell hhr 1).trans rfl
  have hbs : w.heap.size < wb.heap.size := blk_lt hhr
  have HW := Aside0.mk hwb
  clear hwb hhr
  obtain ⟨b, hb⟩ : ∃ b, goodB l0_0 l0_1 = b := ⟨_, rfl⟩
  have AV := Aside0.mk (show impl_IsValidRecord.f l0_0 l0_1 = some b from congrArg some hb)
  have eg : ∀ args w, (callFunc 80 args).run Tryd.prog w = .ok (.enter 80 args) w := enters_of Tryd.func80 (by kernel_rfl) rfl
  cases b with
  | false =>
    have HV := Aside0.mk (show fmtRI l0_0 l0_1 T = (⟨#[]⟩, false) from if_neg (by rw [hb]; simp))
    clear hb HTT
    go_enter Tryd.func38, Tryd.ntmps38
    go_upto_region 1 with (fail)
    try rw [HW.out]
    clear HW
    go_wp2_with (go_at_call 77; (with_reducible refine (impl_IsValidRecord.calls _ _ l0_0 _ _ l0_1 _ _ (Kd.C_below HR0.out (by repeat (first | exact HBw.out | exact Below.refl _ _ | apply below_alloc | apply pw_below_drewN | apply below_drew1))) HC0.out (Kd.C_below HR1.out (by repeat (first | exact HBw.out | exact Below.refl _ _ | apply below_alloc | apply pw_below_drewN | apply below_drew1))) HC1.out AV.out).mono ?_); rintro e w1 ⟨rfl, hb⟩; have HBw : Aside0 (Below w.heap.size w w1) := Aside0.mk (below_chain (w := w) (by repeat (first | exact HBw.out | exact Below.refl _ _ | apply below_alloc | apply pw_below_drewN | apply below_drew1)) hb); have hb0 := pw_cell_below hb hb0; clear hb)
    go_ret2
    exact ⟨by rw [HV.out]; rfl, (by repeat (first | exact HBw.out | exact Below.refl _ _ | apply below_alloc | apply pw_below_drewN | apply below_drew1))⟩
  | true =>
    have HV := Aside0.mk (show fmtRI l0_0 l0_1 T = (T, true) from if_pos hb)
    have HG := Aside0.mk (good_bounds hb)
    have HT2 := Aside0.mk (HTT.out hb)
    have hRL := fun (W : World) (hB : Below w.heap.size w W) => impl_recordLines.calls 80 #[] eg allK A0_0 c0_0 l0_0 A0_1 c0_1 l0_1 W (Kd.C_below HR0.out hB) HC0.out (Kd.C_below HR1.out hB) HC1.out (by have := HG.out.1; omega) (by have := HG.out.2.1; omega) (fun x hx => okC_of (HG.out.2.2.1 x hx)) (fun x hx => okR_of (HG.out.2.2.2 x hx)) (impl_FormatRecord.keep W) (LW.below HL.out hB)
    generalize keepR allK l0_0 l0_1 = xs at HT2 hRL
    have HRL := Aside0.mk hRL
    clear hRL hb HTT
    go_enter Tryd.func38, Tryd.ntmps38
    go_upto_region 1 with (fail)
    try rw [HW.out]
    clear HW
    go_wp2_with (first | (go_at_call 77; (with_reducible refine (impl_IsValidRecord.calls _ _ l0_0 _ _ l0_1 _ _ (Kd.C_below HR0.out (by repeat (first | exact HBw.out | exact Below.refl _ _ | apply below_alloc | apply pw_below_drewN | apply below_drew1))) HC0.out (Kd.C_below HR1.out (by repeat (first | exact HBw.out | exact Below.refl _ _ | apply below_alloc | apply pw_below_drewN | apply below_drew1))) HC1.out AV.out).mono ?_); rintro e w1 ⟨rfl, hb⟩; have HBw : Aside0 (Below w.heap.size w w1) := Aside0.mk (below_chain (w := w) (by repeat (first | exact HBw.out | exact Below.refl _ _ | apply below_alloc | apply pw_below_drewN | apply below_drew1)) hb); have hb0 := pw_cell_below hb hb0; have hb1 := pw_cell_below hb hb1; clear hb) | (go_at_call 79; (refine (HRL.out _ (by repeat (first | exact HBw.out | exact Below.refl _ _ | apply below_alloc | apply pw_below_drewN | apply below_drew1))).mono ?_); rintro e w2 ⟨v, rfl, hR, hb⟩; obtain ⟨A3, c3, rfl, hd3, hC3⟩ := Kd.R_reads hR; have HC3 := Aside0.mk hC3; have HBw : Aside0 (Below w.heap.size w w2) := Aside0.mk (below_chain (w := w) (by repeat (first | exact HBw.out | exact Below.refl _ _ | apply below_alloc | apply pw_below_drewN | apply below_drew1)) hb); have hb0 := pw_cell_below hb hb0; have hb1 := pw_cell_below hb hb1; clear hb hR hC3) | (go_at_call 78; (refine (impl_withNewlines.calls kn A3 c3 xs T _ (Kd.C_below HC3.out (by repeat (first | exact Below.refl _ _ | apply below_alloc | apply pw_below_drewN | apply below_drew1))) hd3 HT2.out).mono ?_); rintro e w3 ⟨rfl, hd⟩; have hb := Drawn0.below hd; clear hd; have HBw : Aside0 (Below w.heap.size w w3) := Aside0.mk (below_chain (w := w) (by repeat (first | exact HBw.out | exact Below.refl _ _ | apply below_alloc | apply pw_below_drewN | apply below_drew1)) hb); have hb0 := pw_cell_below hb hb0; have hb1 := pw_cell_below hb hb1; clear hb))
    go_ret2
    exact ⟨by rw [HV.out]; rfl, (by repeat (first | exact HBw.out | exact Below.refl _ _ | apply below_alloc | apply pw_below_drewN | apply below_drew1))⟩

end Go.Proofs.YtdmbboijcaelcaaDoor.Q

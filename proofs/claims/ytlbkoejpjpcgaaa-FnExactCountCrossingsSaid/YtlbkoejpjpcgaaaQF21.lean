-- Written by a program of this session (wip/xprint.py over the kit's printer).
import Derived.Test.YtlbkoejpjpcgaaaQ0
import Derived.Test.YtlbkoejpjpcgaaaQF106
import Derived.Test.YtlbkoejpjpcgaaaQF50
import Derived.Test.YtlbkoejpjpcgaaaQF51
import Derived.Test.YtlbkoejpjpcgaaaQF54
import Derived.Test.YtlbkoejpjpcgaaaQF65
import Derived.Test.YtlbkoejpjpcgaaaQF66
import Derived.Test.YtlbkoejpjpcgaaaQF85
import Derived.Test.YtlbkoejpjpcgaaaQF90
import Derived.Test.YtlbkoejpjpcgaaaQF94
import Derived.Test.YtlbkoejpjpcgaaaQF95
import Derived.Test.YtlbkoejpjpcgaaaQF98
import Derived.Test.YtlbkoejpjpcgaaaQP
namespace Go.Proofs.Ytlbkoejpjpcgaaa.Q
open Go.RowKit Go.Proofs.YtlbkoejpjpcgaaaW.PrintWords Go.Proofs.YtlbkoejpjpcgaaaW.PrintLast
set_option linter.unusedVariables false
set_option linter.unusedSimpArgs false

/-! ### impl_CountCrossings: function 21 -/
def ccTo (rows : List (List Int)) (ls : List S100) : Nat → Nat
  | 0 => 0
  | i + 1 => if i = 0 then ccTo rows ls i else ccTo rows ls i + crsTo ls (rows.getD (i - 1) []) (rows.getD i []) ls.length
theorem ccTo_le (rows : List (List Int)) (ls : List S100) : ∀ i, ccTo rows ls i ≤ i * (ls.length * ls.length)
  | 0 => Nat.zero_le _
  | i + 1 => by
    have h1 := ccTo_le rows ls i
    have h2 := crsTo_le ls (rows.getD (i - 1) []) (rows.getD i []) ls.length
    rw [Nat.succ_mul]
    show (if i = 0 then _ else _) ≤ _
    split <;> omega
theorem linkRels_le (cs : List S108) (rs : List S100) (M1 M2 : Nat → Nat → Bool) : (linkRels cs rs M1 M2).length ≤ rs.length := by
  unfold linkRels redRels
  exact Nat.le_trans (List.length_filter_le _ _) (List.length_filter_le _ _)
def rowsOk (rows : List (List Int)) : Bool := decide (rows.length ≤ 1048576) && rows.all fun r => decide (r.length ≤ 1048576)
theorem rowsOk_at {rows : List (List Int)} (h : rowsOk rows = true) : rows.length ≤ 1048576 ∧ ∀ r ∈ rows, r.length ≤ 1048576 := by
  unfold rowsOk at h
  rw [Bool.and_eq_true, List.all_eq_true] at h
  exact ⟨of_decide_eq_true h.1, fun r hr => of_decide_eq_true (h.2 r hr)⟩
def ccRes (cs : List S108) (rs : List S100) (rows : List (List Int)) : Int × Bool :=
  if arrB rows (rowsL cs (dAll (abv cs rs) cs.length cs.length) cs.length) then ((ccTo rows (linkRels cs rs (abv cs rs) (lat cs rs)) rows.length : Nat), true) else (0, false)
def impl_CountCrossings.f (l0_0 : List S108) (l0_1 : List S100) (l1 : List (List Int)) : Option (Int × Bool) := if rowsOk l1 = true then some (if goodB l0_0 l0_1 && consB l0_0.length (lat l0_0 l0_1) then ccRes l0_0 l0_1 l1 else (0, false)) else none
def impl_CountCrossings.T10 : Bool × List (List Nat × List Nat) := (true, [([], []), ([], []), ([], []), ([], []), ([3], [3]), ([2, 4], [2, 4]), ([5], [5]), ([], []), ([], []), ([7, 8], [7, 8]), ([9], [9]), ([1, 6, 10], [1, 6, 10]), ([0, 11], [0, 11]), ([12, 11, 0, 1, 2, 3, 4, 5, 6, 7, 8, 9, 10, 11, 12], [0, 12])])
def impl_CountCrossings.B10 : List Nat := [0, 0, 0, 0, 8, 28, 60, 0, 0, 384, 896, 2046, 4095, 8191]
theorem impl_CountCrossings.tab10 : rtab .any (opsOf Try.f21 10) = impl_CountCrossings.T10 := by kernel_rfl
theorem impl_CountCrossings.bits10 : waitsOk impl_CountCrossings.T10.2 impl_CountCrossings.B10 = true := by kernel_rfl
set_option maxHeartbeats 8000000 in
set_option maxRecDepth 100000 in
theorem impl_CountCrossings.calls (A0_0 : Option Addr) (c0_0 : Nat) (l0_0 : List S108) (A0_1 : Option Addr) (c0_1 : Nat) (l0_1 : List S100) (A1 : Option Addr) (c1 : Nat) (l1 : List (List Int)) (r1 : Int) (r2 : Bool) (w : World) (hr0_0 : Kd.C k108 w A0_0 l0_0.length l0_0) (hc0_0 : l0_0.length ≤ c0_0) (hr0_1 : Kd.C k100 w A0_1 l0_1.length l0_1) (hc0_1 : l0_1.length ≤ c0_1) (hr1 : Kd.C (Kd.slice 3 (Kd.int .i64)) w A1 l1.length l1) (hc1 : l1.length ≤ c1) (h : impl_CountCrossings.f l0_0 l0_1 l1 = some (r1, r2)) :
    Calls Try.prog 21 #[.agg #[.slice A0_0 l0_0.length c0_0, .slice A0_1 l0_1.length c0_1], .slice A1 l1.length c1] w fun e w' => e = .returned (.tuple #[.int .i64 r1, .bool r2]) ∧ Below w.heap.size w w' := by
  unfold impl_CountCrossings.f at h
  have hsm : rowsOk l1 = true := by
    by_cases hx : rowsOk l1 = true
    · exact hx
    · rw [if_neg hx] at h; cases h
  rw [if_pos hsm] at h
  have H := Option.some.inj h
  have HSM := Aside0.mk (rowsOk_at hsm)
  have HP1 := Aside0.mk hr1
  have HPC := Aside0.mk hc1
  clear h hsm hr1 hc1
  have HR0 := Aside0.mk hr0_0
  have HR1 := Aside0.mk hr0_1
  have HC0 := Aside0.mk hc0_0
  have HC1 := Aside0.mk hc0_1
  clear hr0_0 hr0_1 hc0_0 hc0_1
  obtain ⟨wb, hwb⟩ : ∃ wb, (w).alloc (.cells #[.slice A0_0 l0_0.length c0_0, .slice A0_1 l0_1.length c0_1] 33 (0, 0)) = wb := ⟨_, rfl⟩
  have HBw := Aside0.mk (show Below w.heap.size w wb from by rw [← hwb]; repeat (first | exact Below.refl _ _ | apply below_alloc))
  have HWB := HBw
  have hhr : wb.heap[w.heap.size]? = some (.cells #[.slice A0_0 l0_0.length c0_0, .slice A0_1 l0_1.length c0_1] 33 (0, 0)) := by rw [← hwb]; have h := blk_new (w) (.cells #[.slice A0_0 l0_0.length c0_0, .slice A0_1 l0_1.length c0_1] 33 (0, 0)); rw [show (w).heap.size = w.heap.size from by rfl] at h; exact h
  have hb0 : wb.cell? ⟨w.heap.size, 0, none⟩ = some (.slice A0_0 l0_0.length c0_0) := (blk_cell hhr 0).trans rfl
  have hb1 : wb.cell? ⟨w.heap.size, 1, none⟩ = some (.slice A0_1 l0_1.length c0_1) := (blk_cell hhr 1).trans rfl
  have hbs : w.heap.size < wb.heap.size := blk_lt hhr
  have HW := Aside0.mk hwb
  clear hwb hhr
  obtain ⟨b, hb⟩ : ∃ b, goodB l0_0 l0_1 = b := ⟨_, rfl⟩
  rw [hb] at H
  have HGB := Aside0.mk hb
  cases b with
  | false =>
    clear hb
    injection H with H1 H2
    subst H1; subst H2
    go_enter Try.func21, Try.ntmps21
    go_upto_region 1 with (fail)
    try rw [HW.out]
    clear HW
    go_wp2_with (go_at_call 50; (refine (impl_readConsistent.bad _ _ l0_0 _ _ l0_1 _ (Kd.C_below HR0.out (by repeat (first | exact HBw.out | exact Below.refl _ _ | apply below_alloc | apply pw_below_drewN | apply below_drew1))) HC0.out (Kd.C_below HR1.out (by repeat (first | exact HBw.out | exact Below.refl _ _ | apply below_alloc | apply pw_below_drewN | apply below_drew1))) HC1.out HGB.out).mono ?_); rintro e w1 ⟨rfl, hb⟩; have HBw : Aside0 (Below w.heap.size w w1) := Aside0.mk (below_chain (w := w) (by repeat (first | exact HBw.out | exact Below.refl _ _ | apply below_alloc | apply pw_below_drewN | apply below_drew1)) hb); have hb0 := pw_cell_below hb hb0; clear hb)
    go_ret2
    exact ⟨rfl, (by repeat (first | exact HBw.out | exact Below.refl _ _ | apply below_alloc | apply pw_below_drewN | apply below_drew1))⟩
  | true =>
    have HG := Aside0.mk (goodB_parts hb)
    clear hb
    obtain ⟨b2, hb2⟩ : ∃ b, consB l0_0.length (lat l0_0 l0_1) = b := ⟨_, rfl⟩
    rw [hb2] at H
    have HCB := Aside0.mk hb2
    clear hb2
    cases b2 with
    | false =>
      injection H with H1 H2
      subst H1; subst H2
      go_enter Try.func21, Try.ntmps21
      go_upto_region 1 with (fail)
      try rw [HW.out]
      clear HW
      go_wp2_with (go_at_call 50; (refine (impl_readConsistent.calls _ _ l0_0 _ _ l0_1 _ (Kd.C_below HR0.out (by repeat (first | exact HBw.out | exact Below.refl _ _ | apply below_alloc | apply pw_below_drewN | apply below_drew1))) HC0.out (Kd.C_below HR1.out (by repeat (first | exact HBw.out | exact Below.refl _ _ | apply below_alloc | apply pw_below_drewN | apply below_drew1))) HC1.out HGB.out).mono ?_); rintro e w1 ⟨p, rfl, N1, N2, A, c, HO⟩; rw [HCB.out]; have hb := HO.below; have HBw : Aside0 (Below w.heap.size w w1) := Aside0.mk (below_chain (w := w) (by repeat (first | exact HBw.out | exact Below.refl _ _ | apply below_alloc | apply pw_below_drewN | apply below_drew1)) hb); have hb0 := pw_cell_below hb hb0; have hb1 := pw_cell_below hb hb1; have HOA := Aside0.mk HO; clear hb HO)
      go_ret2
      exact ⟨rfl, (by repeat (first | exact HBw.out | exact Below.refl _ _ | apply below_alloc | apply pw_below_drewN | apply below_drew1))⟩
    | true =>
      have H' : ccRes l0_0 l0_1 l1 = (r1, r2) := H
      clear H
      unfold ccRes at H'
      obtain ⟨own, how⟩ : ∃ o, rowsL l0_0 (dAll (abv l0_0 l0_1) l0_0.length l0_0.length) l0_0.length = o := ⟨_, rfl⟩
      have HOW := Aside0.mk how
      rw [how] at H'
      clear how
      obtain ⟨ba, hba⟩ : ∃ b, arrB l1 own = b := ⟨_, rfl⟩
      have HAR := Aside0.mk hba
      rw [hba] at H'
      clear hba
      cases ba with
      | false =>
        injection H' with H1 H2
        subst H1; subst H2
        go_enter Try.func21, Try.ntmps21
        go_upto_region 1 with (fail)
        try rw [HW.out]
        clear HW
        go_wp2_with (first | (go_at_call 50; (refine (impl_readConsistent.calls _ _ l0_0 _ _ l0_1 _ (Kd.C_below HR0.out (by repeat (first | exact HBw.out | exact Below.refl _ _ | apply below_alloc | apply pw_below_drewN | apply below_drew1))) HC0.out (Kd.C_below HR1.out (by repeat (first | exact HBw.out | exact Below.refl _ _ | apply below_alloc | apply pw_below_drewN | apply below_drew1))) HC1.out HGB.out).mono ?_); rintro e w1 ⟨p, rfl, N1, N2, A, c, HO⟩; rw [HCB.out]; have hb := HO.below; have HBw : Aside0 (Below w.heap.size w w1) := Aside0.mk (below_chain (w := w) (by repeat (first | exact HBw.out | exact Below.refl _ _ | apply below_alloc | apply pw_below_drewN | apply below_drew1)) hb); have hb0 := pw_cell_below hb hb0; have hb1 := pw_cell_below hb hb1; have HOA := Aside0.mk HO; clear hb HO) | (go_at_call 51; (refine (impl_order_rows.calls _ p N1 N2 A c l0_0 _ _ _ HOA.out HG.out.1).mono ?_); rintro e w2 ⟨v2, rfl, hS, hb⟩; rw [HOW.out] at hS; obtain ⟨OA, oc, rfl, hol, hoC⟩ := Kd.S_reads hS; have HOC := Aside0.mk hoC; have HOA := Aside0.mk (HOA.out.step hb); have HBw : Aside0 (Below w.heap.size w w2) := Aside0.mk (below_chain (w := w) (by repeat (first | exact HBw.out | exact Below.refl _ _ | apply below_alloc | apply pw_below_drewN | apply below_drew1)) hb); have hb0 := pw_cell_below hb hb0; have hb1 := pw_cell_below hb hb1; clear hb hS hol hoC) | (go_at_call 65; (refine (impl_isArrangement.calls _ _ l1 _ _ own _ (Kd.C_below HP1.out (by repeat (first | exact HBw.out | exact Below.refl _ _ | apply below_alloc | apply pw_below_drewN | apply below_drew1))) (Kd.C_below HOC.out (by repeat (first | exact Below.refl _ _ | apply below_alloc | apply pw_below_drewN | apply below_drew1))) (by have := HSM.out.1; omega) (fun r hr => by have := HSM.out.2 r hr; omega)).mono ?_); rintro e w3 ⟨rfl, hb⟩; rw [HAR.out]; have HOA := Aside0.mk (HOA.out.step (below_chain (by repeat (first | exact Below.refl _ _ | apply below_alloc | apply pw_below_drewN | apply below_drew1)) hb)); have HBw : Aside0 (Below w.heap.size w w3) := Aside0.mk (below_chain (w := w) (by repeat (first | exact HBw.out | exact Below.refl _ _ | apply below_alloc | apply pw_below_drewN | apply below_drew1)) hb); have hb0 := pw_cell_below hb hb0; have hb1 := pw_cell_below hb hb1; clear hb))
        go_ret2
        exact ⟨rfl, (by repeat (first | exact HBw.out | exact Below.refl _ _ | apply below_alloc | apply pw_below_drewN | apply below_drew1))⟩
      | true =>
        injection H' with H1 H2
        obtain ⟨ls, hls⟩ : ∃ l, linkRels l0_0 l0_1 (abv l0_0 l0_1) (lat l0_0 l0_1) = l := ⟨_, rfl⟩
        have HLK := Aside0.mk hls
        have HLL := Aside0.mk (show ls.length ≤ 24 from by rw [← hls]; exact Nat.le_trans (linkRels_le _ _ _ _) HG.out.2.1)
        rw [hls] at H1
        have HR_ := Aside0.mk H1
        subst H2
        clear hls H1
        go_enter Try.func21, Try.ntmps21
        go_upto_region 1 with (fail)
        try rw [HW.out]
        clear HW
        go_upto_region 5 with (first | (go_at_call 50; (refine (impl_readConsistent.calls _ _ l0_0 _ _ l0_1 _ (Kd.C_below HR0.out (by repeat (first | exact HBw.out | exact Below.refl _ _ | apply below_alloc | apply pw_below_drewN | apply below_drew1))) HC0.out (Kd.C_below HR1.out (by repeat (first | exact HBw.out | exact Below.refl _ _ | apply below_alloc | apply pw_below_drewN | apply below_drew1))) HC1.out HGB.out).mono ?_); rintro e w1 ⟨p, rfl, N1, N2, A, c, HO⟩; rw [HCB.out]; have hb := HO.below; have HBw : Aside0 (Below w.heap.size w w1) := Aside0.mk (below_chain (w := w) (by repeat (first | exact HBw.out | exact Below.refl _ _ | apply below_alloc | apply pw_below_drewN | apply below_drew1)) hb); have hb0 := pw_cell_below hb hb0; have hb1 := pw_cell_below hb hb1; have HOA := Aside0.mk HO; clear hb HO) | (go_at_call 51; (refine (impl_order_rows.calls _ p N1 N2 A c l0_0 _ _ _ HOA.out HG.out.1).mono ?_); rintro e w2 ⟨v2, rfl, hS, hb⟩; rw [HOW.out] at hS; obtain ⟨OA, oc, rfl, hol, hoC⟩ := Kd.S_reads hS; have HOC := Aside0.mk hoC; have HOA := Aside0.mk (HOA.out.step hb); have HBw : Aside0 (Below w.heap.size w w2) := Aside0.mk (below_chain (w := w) (by repeat (first | exact HBw.out | exact Below.refl _ _ | apply below_alloc | apply pw_below_drewN | apply below_drew1)) hb); have hb0 := pw_cell_below hb hb0; have hb1 := pw_cell_below hb hb1; clear hb hS hol hoC) | (go_at_call 65; (refine (impl_isArrangement.calls _ _ l1 _ _ own _ (Kd.C_below HP1.out (by repeat (first | exact HBw.out | exact Below.refl _ _ | apply below_alloc | apply pw_below_drewN | apply below_drew1))) (Kd.C_below HOC.out (by repeat (first | exact Below.refl _ _ | apply below_alloc | apply pw_below_drewN | apply below_drew1))) (by have := HSM.out.1; omega) (fun r hr => by have := HSM.out.2 r hr; omega)).mono ?_); rintro e w3 ⟨rfl, hb⟩; rw [HAR.out]; have HOA := Aside0.mk (HOA.out.step (below_chain (by repeat (first | exact Below.refl _ _ | apply below_alloc | apply pw_below_drewN | apply below_drew1)) hb)); have HBw : Aside0 (Below w.heap.size w w3) := Aside0.mk (below_chain (w := w) (by repeat (first | exact HBw.out | exact Below.refl _ _ | apply below_alloc | apply pw_below_drewN | apply below_drew1)) hb); have hb0 := pw_cell_below hb hb0; have hb1 := pw_cell_below hb hb1; clear hb) | (go_at_call 54; (refine (impl_links.calls _ _ l0_0 _ _ l0_1 _ p N1 N2 A c _ _ _ _ (Kd.C_below HR0.out (by repeat (first | exact HBw.out | exact Below.refl _ _ | apply below_alloc | apply pw_below_drewN | apply below_drew1))) HC0.out (Kd.C_below HR1.out (by repeat (first | exact HBw.out | exact Below.refl _ _ | apply below_alloc | apply pw_below_drewN | apply below_drew1))) HC1.out HOA.out HG.out.1 HG.out.2.1 HG.out.2.2).mono ?_); rintro e w4 ⟨v2, rfl, hR, hb⟩; rw [HLK.out] at hR; have HRL := Aside0.mk (Kd.R_lower hR HBw.out.size); have HBw : Aside0 (Below w.heap.size w w4) := Aside0.mk (below_chain (w := w) (by repeat (first | exact HBw.out | exact Below.refl _ _ | apply below_alloc | apply pw_below_drewN | apply below_drew1)) hb); have hb0 := pw_cell_below hb hb0; clear hb hR))
        obtain ⟨LA, lc, eL⟩ := Kd.R_slice HRL.out
        subst eL
        have HB := HBw
        clear HBw hb0
        have HLS := HRL
        clear HRL
        go_wp2
        go_loopg [9, 10, 30] l1.length (fun gg s9 _ s30 wr => ∃ i : Nat, i ≤ l1.length ∧ l1.length - i ≤ gg ∧ s9 = .int .i64 (ccTo l1 ls i : Nat) ∧ s30 = .int .i64 i ∧ Aside0 (Below w.heap.size w wr) ∧ Aside0 (Kd.R k100 100 wr w.heap.size (fun _ => True) (.slice LA ls.length lc) ls))
        case atStart => exact ⟨0, Nat.zero_le _, by omega, rfl, rfl, HB, HLS⟩
        case round =>
          clear HB HLS
          obtain ⟨i, hi, hgg, rfl, rfl, HB, HLS⟩ := hrel
          by_cases hil : i < l1.length
          · have hilz : (i : Int) < (l1.length : Int) := by omega
            by_cases hi0 : i = 0
            · subst hi0
              go_wp2
              go_roundg (l1.length - (0 + 1))
              case measure => omega
              case rel => exact ⟨0 + 1, by omega, by omega, rfl, by first | rfl | go_num, HB, HLS⟩
            · obtain ⟨j, hj⟩ : ∃ j, j + 1 = i := ⟨i - 1, by omega⟩
              have HJ := Aside0.mk hj
              clear hi0
              have hj0 : (0 : Int) < (i : Int) := by omega
              obtain ⟨ad, PU, pc, e1, hx, hpl, hpc⟩ := row_at HP1.out j (by omega)
              obtain ⟨bd, QU, qc, e2, hy, hql, hqc⟩ := row_at HP1.out i hil
              subst e1
              obtain rfl := Option.some.inj e2
              have hmx : (l1.getD j []).length ≤ 1048576 := HSM.out.2 _ (by rw [List.getD_eq_getElem?_getD, List.getElem?_eq_getElem (by omega : j < l1.length)]; exact List.getElem_mem _)
              have hmy : (l1.getD i []).length ≤ 1048576 := HSM.out.2 _ (by rw [List.getD_eq_getElem?_getD, List.getElem?_eq_getElem hil]; exact List.getElem_mem _)
              have HSU := Aside0.mk (show ccTo l1 ls (i + 1) = ccTo l1 ls i + crsTo ls (l1.getD j []) (l1.getD i []) ls.length from by rw [← hj]; rfl)
              obtain ⟨pu, hpu⟩ : ∃ q, l1.getD j [] = q := ⟨_, rfl⟩
              obtain ⟨qu, hqu⟩ : ∃ q, l1.getD i [] = q := ⟨_, rfl⟩
              rw [hpu] at hx hpl hpc hmx HSU
              rw [hqu] at hy hql hqc hmy HSU
              have HPX := Aside0.mk hpc
              have HPL := Aside0.mk hpl
              have HQX := Aside0.mk hqc
              have HQL := Aside0.mk hql
              have HCF := Aside0.mk (show impl_crossings.f ls pu qu = some ((crsTo ls pu qu ls.length : Nat) : Int) from if_pos ⟨by have := HLL.out; omega, hmx, hmy⟩)
              have HAD := Aside0.mk (show wrap64 (((ccTo l1 ls i : Nat) : Int) + ((crsTo ls pu qu ls.length : Nat) : Int)) = ((ccTo l1 ls i + crsTo ls pu qu ls.length : Nat) : Int) from by
                have h1 := ccTo_le l1 ls i
                have h2 := crsTo_le ls pu qu ls.length
                have h3 : ls.length * ls.length ≤ 24 * 24 := Nat.mul_le_mul HLL.out HLL.out
                have h4 : i * (ls.length * ls.length) ≤ 1048576 * (24 * 24) := Nat.mul_le_mul (by have := HSM.out.1; omega) h3
                generalize ccTo l1 ls i = x at h1 ⊢
                generalize crsTo ls pu qu ls.length = y at h2 ⊢
                clear HCF
                unfold wrap64
                omega)
              have hwk : wrap64 ((i : Int) - 1) = (j : Int) := by have := HSM.out.1; unfold wrap64; omega
              have hj1 : (0 : Int) ≤ (j : Int) := by omega
              have hj2 : (j : Int) < (l1.length : Int) := by omega
              have hj3 : (0 : Int) ≤ (i : Int) := by omega
              clear hpl hpc hql hqc hmx hmy hpu hqu e2 hj
              replace hx := (HB.out.cell (World.block_lt_of_cell? w _ hx)).trans hx
              replace hy := (HB.out.cell (World.block_lt_of_cell? w _ hy)).trans hy
              go_upto_region 10 with (fail)
              have HS0 := Aside0.mk (show (fun w' : World => w'.cell? (ad.add j) = some (.slice PU pu.length pc) ∧ w'.cell? (ad.add i) = some (.slice QU qu.length qc) ∧ Aside0 (Below w.heap.size w w') ∧ Aside0 (Kd.R k100 100 w' w.heap.size (fun _ => True) (.slice LA ls.length lc) ls)) wr.drew from ⟨hx, hy, ⟨below_drew1 HB.out⟩, ⟨Kd.R_drew HLS.out⟩⟩)
              clear hx hy HB HLS
              obtain ⟨cv, hcv⟩ : ∃ q, crsTo ls pu qu ls.length = q := ⟨_, rfl⟩
              rw [hcv] at HCF HAD HSU
              have hadd := HAD.out
              clear hcv
              all_goals refine start_ (n := 14) (S := (fun w' : World => w'.cell? (ad.add j) = some (.slice PU pu.length pc) ∧ w'.cell? (ad.add i) = some (.slice QU qu.length qc) ∧ Aside0 (Below w.heap.size w w') ∧ Aside0 (Kd.R k100 100 w' w.heap.size (fun _ => True) (.slice LA ls.length lc) ls))) (ds := []) (bl 0 14) (by kernel_rfl) rfl rfl HS0.out (fun hHeld => ?_); refine with_tabW impl_CountCrossings.tab10 impl_CountCrossings.bits10 (fun HT_ HW_ => ?_)
              all_goals generalize wr.drew = wv at hHeld ⊢
              all_goals first | refine pA_ 0 (some 35) (bl 1 14) HT_.out (h := ?_) | refine pO_ 0 (some 35) (bl 1 14) HT_.out (h := ?_)
              all_goals first | refine pA_ 1 (some 36) (bl 2 14) HT_.out (h := ?_) | refine pO_ 1 (some 36) (bl 2 14) HT_.out (h := ?_)
              all_goals first | refine pA_ 2 (some 37) (bl 3 14) HT_.out (h := ?_) | refine pO_ 2 (some 37) (bl 3 14) HT_.out (h := ?_)
              all_goals first | refine pA_ 3 (some 38) (bl 4 14) HT_.out (h := ?_) | refine pO_ 3 (some 38) (bl 4 14) HT_.out (h := ?_)
              all_goals first | refine pA_ 4 (some 39) (bl 5 14) HT_.out (h := ?_) | refine pO_ 4 (some 39) (bl 5 14) HT_.out (h := ?_)
              all_goals first | refine pA_ 5 (some 40) (bl 6 14) HT_.out (h := ?_) | refine pO_ 5 (some 40) (bl 6 14) HT_.out (h := ?_)
              all_goals first | refine pA_ 7 (some 42) (bx 6 [7] 14) HT_.out (h := ?_) | refine pO_ 7 (some 42) (bx 6 [7] 14) HT_.out (h := ?_)
              all_goals first | refine pA_ 8 (some 43) (bx 6 [7, 8] 14) HT_.out (h := ?_) | refine pO_ 8 (some 43) (bx 6 [7, 8] 14) HT_.out (h := ?_)
              all_goals first | refine pA_ 9 (some 44) (bx 6 [7, 8, 9] 14) HT_.out (h := ?_) | refine pO_ 9 (some 44) (bx 6 [7, 8, 9] 14) HT_.out (h := ?_)
              all_goals first | refine tA_ 6 (some 41) (bl 10 14) HT_.out HW_.out hHeld (h := ?_) | refine pO_ 6 (some 41) (bl 10 14) HT_.out (h := ?_)
              all_goals first | refine tA_ 10 (some 45) (bl 11 14) HT_.out HW_.out hHeld (h := ?_) | refine pO_ 10 (some 45) (bl 11 14) HT_.out (h := ?_)
              all_goals first | refine pO_ 11 (some 46) (bl 12 14) HT_.out (h := ?_) | (refine one_ (i := 11) (N := some 46) (bl 12 14) rfl rfl (one_of HT_.out (by kernel_rfl)) (by decide) (fun K hK => ?_); refine goes_ Try.func66 (by kernel_rfl) rfl #[.slice LA ls.length lc, .slice PU pu.length pc, .slice QU qu.length qc] (by rfl) rfl rfl (by (try simp only [List.map_toArray, List.map_cons, List.map_nil]); first | done | rfl) ?_; with_reducible refine (impl_crossings.calls _ _ ls _ _ pu _ _ qu _ _ (Kd.R_reads' hHeld.2.2.2.out).2.2 (Kd.R_reads' hHeld.2.2.2.out).2.1 (Kd.C_below HPX.out hHeld.2.2.1.out) HPL.out (Kd.C_below HQX.out hHeld.2.2.1.out) HQL.out HCF.out).mono ?_; rintro e w6 ⟨rfl, hb⟩; refine ⟨_, rfl, ?_⟩; refine hK.out _ _ ⟨pw_cell_below hb hHeld.1, pw_cell_below hb hHeld.2.1, ⟨below_chain hHeld.2.2.1.out hb⟩, ⟨Kd.R_below hHeld.2.2.2.out hb⟩⟩ (fun hHeld => ?_); clear hK K; refine norm_ (a' := ?_) ?_ ?_; rotate_left; (show Act.put _ (some 46) _ = _; simp only [Act.put, List.setIfInBounds_toArray, List.set_cons_zero, List.set_cons_succ, i64_w, i32_w]; rfl))
              all_goals first | refine pA_ 12 (some 47) (bl 13 14) HT_.out (h := ?_) | refine pO_ 12 (some 47) (bl 13 14) HT_.out (h := ?_)
              all_goals first | refine pA_ 13 (some 9) (bl 14 14) HT_.out (h := ?_) | refine pO_ 13 (some 9) (bl 14 14) HT_.out (h := ?_)
              all_goals refine done_ (done_of HT_.out (by kernel_rfl)) ?_
              try rw [hadd]
              clear hadd hwk hj1 hj2 hj3
              go_wp2
              go_roundg (l1.length - (i + 1))
              case measure => omega
              case rel => exact ⟨i + 1, by omega, by omega, by rw [HSU.out]; first | rfl | (simp only [Int.natCast_add]; rfl) | (simp; done), by first | go_num | exact congrArg (Value.int .i64) (wrap_succ2 i (by have := HSM.out.1; omega)), ⟨hHeld.2.2.1.out⟩, ⟨hHeld.2.2.2.out⟩⟩
          · obtain rfl : i = l1.length := by omega
            have hkz : ¬ ((l1.length : Int) < (l1.length : Int)) := by omega
            go_wp2
            go_ret2
            exact ⟨by rw [← HR_.out]; rfl, HB.out⟩

end Go.Proofs.Ytlbkoejpjpcgaaa.Q

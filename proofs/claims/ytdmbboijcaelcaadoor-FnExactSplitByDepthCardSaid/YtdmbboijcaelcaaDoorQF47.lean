-- Written by a program of this session (wip/xprint.py over the kit's printer).
import Derived.Test.YtdmbboijcaelcaaDoorQ0
import Derived.Test.YtdmbboijcaelcaaDoorQF126
import Derived.Test.YtdmbboijcaelcaaDoorQF127
import Derived.Test.YtdmbboijcaelcaaDoorQF128
import Derived.Test.YtdmbboijcaelcaaDoorQF83
import Derived.Test.YtdmbboijcaelcaaDoorQF97
import Derived.Test.YtdmbboijcaelcaaDoorQF98
import Derived.Test.YtdmbboijcaelcaaDoorQP
import Derived.Test.YtdmbboijcaelcaaDoorFmt
import Derived.Lib.ItoaLen
namespace Go.Proofs.YtdmbboijcaelcaaDoor.Q
open Go.RowKit Go.Proofs.YtdmbboijcaelcaaDoorW.PrintWords Go.Proofs.YtdmbboijcaelcaaDoorW.PrintLast
set_option linter.unusedVariables false
set_option linter.unusedSimpArgs false

/-! ### impl_SplitByDepth: function 47 -/
/-- The name of a row. -/
def rowNm (i : Nat) : ByteArray := (⟨#[114, 111, 119]⟩ : ByteArray) ++ (⟨(Lib.itoa (i : Int)).toArray⟩ : ByteArray)
/-- The phases of rows. -/
def phsL (rows : List (List Int)) (m : Nat) : List S105 := (List.range m).map fun i => ⟨rowNm i, rows.getD i []⟩
theorem phsL_succ (rows : List (List Int)) (m : Nat) : phsL rows (m + 1) = phsL rows m ++ [⟨rowNm m, rows.getD m []⟩] := by
  unfold phsL; rw [List.range_succ, List.map_append]; rfl
theorem phsL_len (rows : List (List Int)) (m : Nat) : (phsL rows m).length = m := by unfold phsL; rw [List.length_map, List.length_range]
theorem kept_belowO {w5 W w1 : World} {q : Nat → Prop} (hk : Kept w5 W q) (hb : Below W.heap.size W w1) : Kept w5 w1 q :=
  ⟨Nat.le_trans hk.1 hb.size, fun i hi hn => (hb.block i (Nat.lt_of_lt_of_le hi hk.1)).trans (hk.2 i hi hn)⟩
theorem kept_grownO {w5 W w1 : World} {b : Nat} {row : Option Nat} (hk : Kept w5 W (fun k => b ≤ k)) (hg : W.grownBy w1 row) (hr : ∀ k, row = some k → b ≤ k) : Kept w5 w1 (fun k => b ≤ k) :=
  ⟨Nat.le_trans hk.1 hg.size, fun i hi hn => (hg.block i (Nat.lt_of_lt_of_le hi hk.1) (fun e => hn (hr i e.symm))).trans (hk.2 i hi hn)⟩
def phsR (rows : List (List Int)) : List S105 × Bool := if 6 < rows.length then ([], false) else (phsL rows rows.length, true)
def impl_SplitByDepth.f (l0_0 : List S94) (l0_1 : List S96) : Option (List S105 × Bool) := some (if goodB l0_0 l0_1 && consB l0_0.length (lat l0_0 l0_1) then phsR (rowsL l0_0 (dAll (abv l0_0 l0_1) l0_0.length l0_0.length) l0_0.length) else ([], false))
theorem zip_getD (rows : List (List Int)) (i : Nat) (h : i < rows.length) : rows.zipIdx.getD i ([], 0) = (rows.getD i [], i) := by
  simp [List.getD_eq_getElem?_getD, h]
set_option maxHeartbeats 16000000 in
set_option maxRecDepth 100000 in
theorem impl_SplitByDepth.calls (A0_0 : Option Addr) (c0_0 : Nat) (l0_0 : List S94) (A0_1 : Option Addr) (c0_1 : Nat) (l0_1 : List S96) (r1 : List S105) (r2 : Bool) (w : World) (hr0_0 : Kd.C k94 w A0_0 l0_0.length l0_0) (hc0_0 : l0_0.length ≤ c0_0) (hr0_1 : Kd.C k96 w A0_1 l0_1.length l0_1) (hc0_1 : l0_1.length ≤ c0_1) (hlw : LW w) (h : impl_SplitByDepth.f l0_0 l0_1 = some (r1, r2)) :
    Calls Tryd.prog 47 #[.agg #[.slice A0_0 l0_0.length c0_0, .slice A0_1 l0_1.length c0_1]] w fun e w' => ∃ v0_ : Value, e = .returned (.tuple #[v0_, .bool r2]) ∧ Kd.S k105 105 w' w.heap.size (fun _ => True) v0_ r1 ∧ Below w.heap.size w w' := by
  have H := Option.some.inj h
  have HLW := Aside0.mk hlw
  clear h hlw
  have HR0 := Aside0.mk hr0_0
  have HR1 := Aside0.mk hr0_1
  have HC0 := Aside0.mk hc0_0
  have HC1 := Aside0.mk hc0_1
  clear hr0_0 hr0_1 hc0_0 hc0_1
  obtain ⟨wb, hwb⟩ : ∃ wb, (w).alloc (.cells #[.slice A0_0 l0_0.length c0_0, .slice A0_1 l0_1.length c0_1] 52 (0, 0)) = wb := ⟨_, rfl⟩
  have HBw := Aside0.mk (show Below w.heap.size w wb from by rw [← hwb]; repeat (first | exact Below.refl _ _ | apply below_alloc))
  have HWB := HBw
  have hhr : wb.heap[w.heap.size]? = some (.cells #[.slice A0_0 l0_0.length c0_0, .slice A0_1 l0_1.length c0_1] 52 (0, 0)) := by rw [← hwb]; have h := blk_new (w) (.cells #[.slice A0_0 l0_0.length c0_0, .slice A0_1 l0_1.length c0_1] 52 (0, 0)); rw [show (w).heap.size = w.heap.size from by rfl] at h; exact h
  have hb0 : wb.cell? ⟨w.heap.size, 0, none⟩ = some (.slice A0_0 l0_0.length c0_0) := (blk_cell hhr 0).trans rfl
  have hb1 : wb.cell? ⟨w.heap.size, 1, none⟩ = some (.slice A0_1 l0_1.length c0_1) := (blk_cell hhr 1).trans rfl
  have hbs : w.heap.size < wb.heap.size := blk_lt hhr
  have HW := Aside0.mk hwb
  clear hwb hhr
  obtain ⟨b, hb⟩ : ∃ b, goodB l0_0 l0_1 = b := ⟨_, rfl⟩
  rw [hb] at H
  have HGB := Aside0.mk hb
  cases b with
  | false =>
    clear hb
    injection H with H1 H2
    subst H1; subst H2
    go_enter Tryd.func47, Tryd.ntmps47
    go_upto_region 1 with (fail)
    try rw [HW.out]
    clear HW
    go_wp2_with (go_at_call 97; (refine (impl_readConsistent.bad _ _ l0_0 _ _ l0_1 _ (Kd.C_below HR0.out (by repeat (first | exact HBw.out | exact Below.refl _ _ | apply below_alloc | apply pw_below_drewN | apply below_drew1))) HC0.out (Kd.C_below HR1.out (by repeat (first | exact HBw.out | exact Below.refl _ _ | apply below_alloc | apply pw_below_drewN | apply below_drew1))) HC1.out HGB.out).mono ?_); rintro e w1 ⟨rfl, hb⟩; have HBw : Aside0 (Below w.heap.size w w1) := Aside0.mk (below_chain (w := w) (by repeat (first | exact HBw.out | exact Below.refl _ _ | apply below_alloc | apply pw_below_drewN | apply below_drew1)) hb); have hb0 := pw_cell_below hb hb0; clear hb)
    go_ret2
    exact ⟨_, rfl, Kd.S_nil _ _ _ _ _, (by repeat (first | exact HBw.out | exact Below.refl _ _ | apply below_alloc | apply pw_below_drewN | apply below_drew1))⟩
  | true =>
    have HG := Aside0.mk (goodB_parts hb)
    clear hb
    obtain ⟨b2, hb2⟩ : ∃ b, consB l0_0.length (lat l0_0 l0_1) = b := ⟨_, rfl⟩
    rw [hb2] at H
    have HCB := Aside0.mk hb2
    clear hb2
    cases b2 with
    | false =>
      injection H with H1 H2
      subst H1; subst H2
      go_enter Tryd.func47, Tryd.ntmps47
      go_upto_region 1 with (fail)
      try rw [HW.out]
      clear HW
      go_wp2_with (go_at_call 97; (refine (impl_readConsistent.calls _ _ l0_0 _ _ l0_1 _ (Kd.C_below HR0.out (by repeat (first | exact HBw.out | exact Below.refl _ _ | apply below_alloc | apply pw_below_drewN | apply below_drew1))) HC0.out (Kd.C_below HR1.out (by repeat (first | exact HBw.out | exact Below.refl _ _ | apply below_alloc | apply pw_below_drewN | apply below_drew1))) HC1.out HGB.out).mono ?_); rintro e w1 ⟨p, rfl, N1, N2, A, c, HO⟩; rw [HCB.out]; have hb := HO.below; have HBw : Aside0 (Below w.heap.size w w1) := Aside0.mk (below_chain (w := w) (by repeat (first | exact HBw.out | exact Below.refl _ _ | apply below_alloc | apply pw_below_drewN | apply below_drew1)) hb); have hb0 := pw_cell_below hb hb0; clear hb HO)
      go_ret2
      exact ⟨_, rfl, Kd.S_nil _ _ _ _ _, (by repeat (first | exact HBw.out | exact Below.refl _ _ | apply below_alloc | apply pw_below_drewN | apply below_drew1))⟩
    | true =>
      have H' : phsR (rowsL l0_0 (dAll (abv l0_0 l0_1) l0_0.length l0_0.length) l0_0.length) = (r1, r2) := H
      clear H
      obtain ⟨rows, hrows⟩ : ∃ rows, rowsL l0_0 (dAll (abv l0_0 l0_1) l0_0.length l0_0.length) l0_0.length = rows := ⟨_, rfl⟩
      rw [hrows] at H'
      have HRW := Aside0.mk hrows
      clear hrows
      unfold phsR at H'
      obtain ⟨n, hn⟩ : ∃ n, rows.length = n := ⟨_, rfl⟩
      have HN := Aside0.mk hn
      rw [hn] at H'
      clear hn
      by_cases hlen : 6 < n
      · rw [if_pos hlen] at H'
        injection H' with H1 H2
        subst H1; subst H2
        have hz : (6 : Int) < (n : Int) := by omega
        have hzz := eq_true hz
        go_enter Tryd.func47, Tryd.ntmps47
        go_upto_region 1 with (fail)
        try rw [HW.out]
        clear HW
        go_wp2_with (first | (go_at_call 97; (refine (impl_readConsistent.calls _ _ l0_0 _ _ l0_1 _ (Kd.C_below HR0.out (by repeat (first | exact HBw.out | exact Below.refl _ _ | apply below_alloc | apply pw_below_drewN | apply below_drew1))) HC0.out (Kd.C_below HR1.out (by repeat (first | exact HBw.out | exact Below.refl _ _ | apply below_alloc | apply pw_below_drewN | apply below_drew1))) HC1.out HGB.out).mono ?_); rintro e w1 ⟨p, rfl, N1, N2, A, c, HO⟩; rw [HCB.out]; have hb := HO.below; have HBw : Aside0 (Below w.heap.size w w1) := Aside0.mk (below_chain (w := w) (by repeat (first | exact HBw.out | exact Below.refl _ _ | apply below_alloc | apply pw_below_drewN | apply below_drew1)) hb); have hb0 := pw_cell_below hb hb0; have hb1 := pw_cell_below hb hb1; have HOA := Aside0.mk HO; clear hb HO) | (go_at_call 98; (refine (impl_order_rows.calls _ p N1 N2 A c l0_0 _ _ _ HOA.out HG.out.1).mono ?_); rintro e w2 ⟨v2, rfl, hR2, hb2⟩; rw [HRW.out] at hR2; obtain ⟨Av, cv, hv, hcv, hCv⟩ := Kd.S_reads hR2; rw [HN.out] at hv; subst hv; have HBw : Aside0 (Below w.heap.size w w2) := Aside0.mk (below_chain (w := w) (by repeat (first | exact HBw.out | exact Below.refl _ _ | apply below_alloc | apply pw_below_drewN | apply below_drew1)) hb2); clear hR2 hcv hCv hb2))
        go_ret2
        exact ⟨_, rfl, Kd.S_nil _ _ _ _ _, HBw.out⟩
      · rw [if_neg hlen] at H'
        injection H' with H1 H2
        subst H1; subst H2
        have hz : ¬ (6 : Int) < (n : Int) := by omega
        have hzz := eq_false hz
        go_enter Tryd.func47, Tryd.ntmps47
        go_upto_region 1 with (fail)
        try rw [HW.out]
        clear HW
        go_upto_region 7 with (first | (go_at_call 97; (refine (impl_readConsistent.calls _ _ l0_0 _ _ l0_1 _ (Kd.C_below HR0.out (by repeat (first | exact HBw.out | exact Below.refl _ _ | apply below_alloc | apply pw_below_drewN | apply below_drew1))) HC0.out (Kd.C_below HR1.out (by repeat (first | exact HBw.out | exact Below.refl _ _ | apply below_alloc | apply pw_below_drewN | apply below_drew1))) HC1.out HGB.out).mono ?_); rintro e w1 ⟨p, rfl, N1, N2, A, c, HO⟩; rw [HCB.out]; have hb := HO.below; have HBw : Aside0 (Below w.heap.size w w1) := Aside0.mk (below_chain (w := w) (by repeat (first | exact HBw.out | exact Below.refl _ _ | apply below_alloc | apply pw_below_drewN | apply below_drew1)) hb); have hb0 := pw_cell_below hb hb0; have hb1 := pw_cell_below hb hb1; have HOA := Aside0.mk HO; clear hb HO) | (go_at_call 98; (refine (impl_order_rows.calls _ p N1 N2 A c l0_0 _ _ _ HOA.out HG.out.1).mono ?_); rintro e w2 ⟨v2, rfl, hR2, hb2⟩; rw [HRW.out] at hR2; obtain ⟨Av, cv, hv, hcv, hCv⟩ := Kd.S_reads hR2; rw [HN.out] at hv; subst hv; have HRS := Aside0.mk (Kd.S_lower hR2 HBw.out.size); have HBw : Aside0 (Below w.heap.size w w2) := Aside0.mk (below_chain (w := w) (by repeat (first | exact HBw.out | exact Below.refl _ _ | apply below_alloc | apply pw_below_drewN | apply below_drew1)) hb2); clear hR2 hcv hCv hb2))
        obtain ⟨bO, hbO⟩ : ∃ b, w2.heap.size = b := ⟨_, rfl⟩
        have HBO := Aside0.mk hbO
        clear hbO
        go_upto_region 8 with ((with_reducible refine gate_dst (N := 22) rfl ?_); refine Kd.S_lit k105 (w0 := w) w.heap.size 105 ?hg (N := 22) ?hd (xs := ([] : List S105)) (inner := []) (ok := fun k => k = bO) (okp := fun k => k = bO) ?hr ?hp (fun _ hk => hk) HBO.out HBw.out HBw.out.size (by simp) ?_; (case hd => rfl); (case hg => rfl); (case hr => first | (go_simp; done) | (go_simp; rfl)); (case hp => exact (Reps.none _ _)); intro v3 w5 ho hb hg_ hnew_; have HR := Aside0.mk ho; have HB := Aside0.mk hb; have HV3 := Aside0.mk hnew_; have HG3 := Aside0.mk hg_; clear ho hb hnew_ hg_)
        obtain ⟨f, hf⟩ := HRS.out
        have hf1 : (Kd.tag f (Kd.slice 3 (Kd.int .i64))).R 33 w2 w.heap.size (fun k => k < bO) (.slice Av n cv) rows.zipIdx := Kd.R_mono (Kd.R_bound hf) (fun k hk => by have h1 := hk.2.2.1; have h2 := HBO.out; omega)
        have HT := Aside0.mk (show (Kd.tag f (Kd.slice 3 (Kd.int .i64))).R 33 w5 w.heap.size (fun k => k < bO) (.slice Av n cv) rows.zipIdx from Kd.R_step hf1 (fun k _ hlt => HG3.out.block k hlt (by simp)))
        have HOB := Aside0.mk (show ∀ k, v3.ownBlock = some k → bO ≤ k from fun k hk => by obtain ⟨b, e, hle⟩ := HV3.out; rw [e] at hk; injection hk with hk; have := HBO.out; omega)
        have HBL := Aside0.mk (show bO ≤ w5.heap.size from by have h1 := HG3.out.size; have h2 := HBO.out; omega)
        have HR := Aside0.mk (show Kd.S k105 105 w5 w.heap.size (fun k => (k < bO ∧ f k < 0) ∨ bO ≤ k) v3 (phsL rows 0) from Kd.S_mono HR.out (fun k hk => .inr (Nat.le_of_eq hk.symm)))
        have HKP := Aside0.mk (show Kept w5 w5 (fun k => bO ≤ k) from ⟨Nat.le_refl _, fun _ _ _ => rfl⟩)
        have HWB := Aside0.mk (show w.heap.size ≤ bO from by have h1 := HBw.out.size; have h2 := HBO.out; omega)
        clear hf hf1 HV3 HG3 HRS HBw HOA hb0 hb1
        go_wp2
        go_loopg [7, 8, 9, 25] n (fun gg s7 _ _ s25 wr => ∃ i : Nat, i ≤ n ∧ n - i ≤ gg ∧ s25 = .int .i64 i ∧ Aside0 (Below w.heap.size w wr) ∧ Aside0 (Kept w5 wr (fun k => bO ≤ k)) ∧ Aside0 (∀ k, s7.ownBlock = some k → bO ≤ k) ∧ Aside0 (Kd.S k105 105 wr w.heap.size (fun k => (k < bO ∧ f k < i) ∨ bO ≤ k) s7 (phsL rows i)))
        case atStart => exact ⟨0, Nat.zero_le _, by omega, rfl, HB, HKP, HOB, HR⟩
        case round =>
          clear HB HKP HOB HR
          obtain ⟨i, hi, hgg, rfl, HB, HKP, HOB, HR⟩ := hrel
          by_cases hlt : i < n
          · have hltz : (i : Int) < (n : Int) := by omega
            have hTr : (Kd.tag f (Kd.slice 3 (Kd.int .i64))).R 33 wr w.heap.size (fun k => k < bO) (.slice Av n cv) rows.zipIdx := Kd.R_step HT.out (fun k hk hl => HKP.out.2 k hl (by omega))
            obtain ⟨ad, rfl⟩ : ∃ ad, Av = some ad := by
              obtain ⟨g, cap, hv, _, _, _⟩ := Kd.R_form hTr (by rw [List.length_zipIdx]; have := HN.out; omega)
              injection hv with hv1 hv2 hv3
              exact ⟨_, hv1⟩
            obtain ⟨cc, hcl, hM, hcells⟩ := Kd.R_getA hTr (([] : List Int), 0) (i : Int) (by omega) (by omega)
            rw [Int.toNat_natCast, zip_getD rows i (by have := HN.out; omega)] at hM
            obtain ⟨row, hrow⟩ : ∃ row, rows.getD i [] = row := ⟨_, rfl⟩
            rw [hrow] at hM
            obtain ⟨vd, rfl, hRd⟩ := hM
            have hx : wr.cell? (ad.add i) = some vd := by
              have := hcells 0 vd rfl
              simpa [Kd.tag, Kd.slice] using this
            obtain ⟨A1, c1, rfl⟩ := Kd.R_slice hRd
            have HM := Aside0.mk (show (Kd.int .i64).R 3 wr w.heap.size (fun k => k < bO ∧ f k = i) (.slice A1 row.length c1) row from Kd.R_mono hRd (fun k hk => ⟨hk.1.1, hk.2⟩))
            have h6 : i ≤ 5 := by omega
            have HSU := phsL_succ rows i
            rw [hrow] at HSU
            have HI := Aside0.mk (fun (W : World) (h : LW W) => show Calls Tryd.prog 54 #[.int .i64 i] W (fun e w' => e = .returned (.string ⟨(Lib.itoa (i : Int)).toArray⟩) ∧ Below W.heap.size W w') from itoa_calls i (by omega) (by omega) W h)
            have htz : (⟨(Lib.itoa (i : Int)).toArray⟩ : ByteArray).size ≤ 21 := by
              show (Lib.itoa (i : Int)).toArray.size ≤ 21
              rw [List.size_toArray]
              exact Lib.itoa_length_le i (by omega) (by omega)
            unfold rowNm at HSU
            generalize (⟨(Lib.itoa (i : Int)).toArray⟩ : ByteArray) = t at HSU HI htz
            have HSN := Aside0.mk HSU
            have z1 : (⟨#[114, 111, 119]⟩ : ByteArray).size = 3 := rfl
            have f1 : (9223372036854775807 < 3 + t.size) = False := eq_false (by omega)
            have HLP := Aside0.mk (phsL_len rows i)
            have H6 := Aside0.mk h6
            have HOI := Aside0.mk (show ∀ k, ((k < bO ∧ f k < i) ∨ bO ≤ k) → ((k < bO ∧ f k < i + 1) ∨ bO ≤ k) ∧ ¬ (k < bO ∧ f k = i) from fun k hk => by omega)
            clear hTr hcells hrow hRd hcl HSU htz h6
            go_upto_region 11 with (fail)
            clear hx
            go_wp2_with (first | (go_at_call 54; refine (HI.out _ (LW.below HLW.out (by repeat (first | exact HB.out | apply below_alloc | apply pw_below_drewN | apply below_drew1)))).mono ?_; rintro e w6 ⟨rfl, hb⟩; have HR := Aside0.mk (Kd.S_below HR.out (below_chain (by repeat (first | exact Below.refl _ _ | apply below_alloc | apply pw_below_drewN | apply below_drew1)) hb)); have HM := Aside0.mk (Kd.R_below HM.out (below_chain (by repeat (first | exact Below.refl _ _ | apply below_alloc | apply pw_below_drewN | apply below_drew1)) hb)); have HKP := Aside0.mk (kept_belowO HKP.out (below_chain (by repeat (first | exact Below.refl _ _ | apply below_alloc | apply pw_below_drewN | apply below_drew1)) hb)); have HB := Aside0.mk (below_chain (w := w) (by repeat (first | exact HB.out | apply below_alloc | apply pw_below_drewN | apply below_drew1)) hb); clear hb) | ((with_reducible refine gate_builtin (b := .append) (xs := #[.tmp 30, .tmp 36]) rfl ?_); at_builtin; refine Kd.S_append k105 (w0 := w) w.heap.size rfl (.tmp 30) (.tmp 36) 61 105 (.agg #[(.string ⟨#[]⟩), (.slice none 0 0)]) 40 rfl Tryd.underlying61 info105 rfl (by decide) (by omega) u7 (phsL rows i) (⟨(⟨#[114, 111, 119]⟩ : ByteArray) ++ t, row⟩ : S105) [.string ((⟨#[114, 111, 119]⟩ : ByteArray) ++ t), .slice A1 row.length c1] (fun k => (k < bO ∧ f k < i + 1) ∨ bO ≤ k) (fun k => k < bO ∧ f k = i) rfl rfl ?aP ?aK ?aF ?aO ?aB ?aS ?aL ?_; (case aP => exact k105_mkM _ _ _ _ (by (with_reducible repeat (first | apply Kd.R_alloc | apply Kd.R_drewN | apply Kd.R_drew)); exact HM.out)); (case aK => exact fun k hk => ⟨.inl ⟨hk.1, by have := hk.2; omega⟩, fun he => by have h1 := HOB.out k he.symm; have := hk.1; omega⟩); (case aF => exact fun k hk => .inr (Nat.le_trans HBL.out (Nat.le_trans HKP.out.1 hk))); (case aO => exact Kd.S_mono (by (with_reducible repeat (first | apply Kd.S_alloc | apply Kd.S_drewN | apply Kd.S_drew)); exact HR.out) HOI.out); (case aB => exact (by repeat (first | exact HB.out | apply below_alloc | apply pw_below_drewN | apply below_drew1))); (case aS => exact below_size (by repeat (first | exact HB.out | apply below_alloc | apply pw_below_drewN | apply below_drew1))); (case aL => (rw [HLP.out]; have := H6.out; omega)); intro v1 w7 ho hb hg hat; have HKP0 := HKP; have HKP := Aside0.mk (kept_grownO HKP.out hg (fun k hk => HOB.out k hk)); have HOB := Aside0.mk (show ∀ k, v1.ownBlock = some k → bO ≤ k from fun k hk => hat.elim (fun h => HOB.out k (by rw [← h]; exact hk)) (fun h => by obtain ⟨b, h, hle⟩ := h; rw [h] at hk; injection hk with hk; have h1 := Nat.le_trans HBL.out (Nat.le_trans HKP0.out.1 hle); omega)); have HB := Aside0.mk hb; have HR := Aside0.mk ho; clear hg hat ho hb))
            rw [← HSN.out] at HR
            go_roundg (n - (i + 1))
            case measure => omega
            case rel => exact ⟨i + 1, by omega, by omega, by have := H6.out; first | go_num | exact congrArg (Value.int .i64) (wrap_succ i (by omega)), HB, HKP, HOB, HR⟩
          · obtain rfl : i = n := by omega
            have hltz : ¬ ((i : Int) < (i : Int)) := by omega
            go_wp2
            go_ret2
            exact ⟨_, rfl, Kd.S_mono HR.out (fun _ _ => trivial), HB.out⟩

end Go.Proofs.YtdmbboijcaelcaaDoor.Q

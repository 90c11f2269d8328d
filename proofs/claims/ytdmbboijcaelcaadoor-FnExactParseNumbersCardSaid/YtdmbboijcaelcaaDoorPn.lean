/- The walk of ParseNumbers. -/
import Derived.Test.YtdmbboijcaelcaaDoorCut
import Derived.Test.YtdmbboijcaelcaaDoorInt
import Derived.Test.YtdmbboijcaelcaaDoorNumsE
namespace Go.Proofs.YtdmbboijcaelcaaDoor.Q
open Go.RowKit Go.Proofs.YtdmbboijcaelcaaDoorW.PrintWords Go.Proofs.YtdmbboijcaelcaaDoorW.PrintLast
set_option linter.unusedVariables false
set_option linter.unusedSimpArgs false
def rdB (x : ByteArray) : Int × Bool := readL x.data.toList
def commaB : ByteArray := ⟨#[44, 32]⟩
/-- What the program parses. -/
def pnI (s : ByteArray) : List Int × Bool :=
  if 4000 < s.size then ([], false) else if s.toList = ([110, 111, 110, 101] : List UInt8) then ([], true) else
  if (cutB s commaB).all (fun x => (rdB x).2) then
    (if (numsI ((cutB s commaB).map (fun x => (rdB x).1))).2 = true then (if (numsI ((cutB s commaB).map (fun x => (rdB x).1))).1.toList = s.toList then ((cutB s commaB).map (fun x => (rdB x).1), true) else ([], false)) else ([], false))
  else ([], false)
theorem words_calls (x : ByteArray) (hx : x.size ≤ 1048576) (w : World) (hl : LW w) (he : EW w) : Calls Tryd.prog 30 #[.string x] w fun e w' => e = .returned (.tuple #[.int .i64 (rdB x).1, .bool (rdB x).2]) ∧ Below w.heap.size w w' := parseint_calls x hx w hl he
set_option maxHeartbeats 1000000 in
set_option maxRecDepth 100000 in
theorem parsenums_calls (s : ByteArray) (hs : s.size ≤ 1048576) (hw : ∀ x ∈ cutB s commaB, x.size ≤ 1048576) (w : World) (hl : LW w) (he : EW w) (hm : MX w) :
    Calls Tryd.prog 32 #[.string s] w fun e w' => ∃ v, e = .returned (.tuple #[v, .bool (pnI s).2]) ∧ Kd.R (Kd.int .i64) 3 w' w.heap.size (fun _ => True) v (pnI s).1 ∧ Below w.heap.size w w' := by
  have hP : pnI s = if 4000 < s.size then ([], false) else if s.toList = ([110, 111, 110, 101] : List UInt8) then ([], true) else
    if (cutB s commaB).all (fun x => (rdB x).2) then
      (if (numsI ((cutB s commaB).map (fun x => (rdB x).1))).2 = true then (if (numsI ((cutB s commaB).map (fun x => (rdB x).1))).1.toList = s.toList then ((cutB s commaB).map (fun x => (rdB x).1), true) else ([], false)) else ([], false))
    else ([], false) := rfl
  have HS := Aside0.mk (fun (W : World) (h : MX W) => split_calls s commaB W (by decide) hs h)
  have hlen := cutB_le s commaB (by decide)
  generalize pnI s = P at hP ⊢
  generalize cutB s commaB = xs at HS hP hlen hw
  have HP := Aside0.mk hP
  have HL := Aside0.mk hl
  have HE := Aside0.mk he
  have HM := Aside0.mk hm
  have HW := Aside0.mk hw
  have HLN := Aside0.mk hlen
  have HSZ := Aside0.mk hs
  have HB := Aside0.mk (Below.refl w.heap.size w)
  clear hP hl he hm hw hlen hs
  by_cases h4 : 4000 < s.size
  · have hz : decide (4000 < (s.size : Int)) = true := decide_eq_true (by omega)
    have hy : decide (4000 < s.size) = true := decide_eq_true h4
    have HV := Aside0.mk (show P = ([], false) from by rw [HP.out, if_pos h4])
    clear h4
    go_enter Tryd.func32, Tryd.ntmps32
    go_wp2
    go_ret2
    exact ⟨_, by rw [HV.out]; rfl, by rw [HV.out]; exact Kd.R_nil _ _ _ _ _, by repeat (first | exact HB.out | apply below_alloc | apply pw_below_drewN | apply below_drew1)⟩
  · have hz : decide (4000 < (s.size : Int)) = false := decide_eq_false (by omega)
    have hy : decide (4000 < s.size) = false := decide_eq_false h4
    have HP := Aside0.mk (show P = _ from by rw [HP.out, if_neg h4])
    clear h4
    go_enter Tryd.func32, Tryd.ntmps32
    go_upto_region 4 with ((with_reducible refine gate_dst (N := 14) rfl ?_); refine Kd.R_lit (Kd.int .i64) _ 3 ?hg (N := 14) ?hd (xs := ([] : List Int)) (inner := []) (ok := fun _ => True) (okp := fun _ => True) ?hr ?hp (fun _ hk => hk) trivial (Below.refl _ _) (Nat.le_refl _) (by simp) ?_; (case hd => rfl); (case hg => rfl); (case hr => first | (go_simp; done) | (go_simp; rfl)); (case hp => exact (Reps.none _ _)); intro v0 w1 ho hb hg_ hnew_; clear hg_ hnew_; have HR := Aside0.mk ho; have HB := Aside0.mk hb; clear ho hb)
    by_cases hn : s.toList = ([110, 111, 110, 101] : List UInt8)
    · have e0 : (s.toList == ([110, 111, 110, 101] : List UInt8)) = true := beq_iff_eq.mpr hn
      have e1 : (s.toList != ([110, 111, 110, 101] : List UInt8)) = false := bne_eq_false_iff_eq.mpr hn
      have HV := Aside0.mk (show P = ([], true) from by rw [HP.out, if_pos hn])
      clear hn
      go_wp2
      go_ret2
      exact ⟨_, by rw [HV.out]; rfl, by rw [HV.out]; exact Kd.R_below HR.out (by repeat (first | exact Below.refl _ _ | apply below_alloc | apply pw_below_drewN | apply below_drew1)), by repeat (first | exact HB.out | apply below_alloc | apply pw_below_drewN | apply below_drew1)⟩
    · have e0 : (s.toList == ([110, 111, 110, 101] : List UInt8)) = false := beq_eq_false_iff_ne.mpr hn
      have e1 : (s.toList != ([110, 111, 110, 101] : List UInt8)) = true := bne_iff_ne.mpr hn
      have HP := Aside0.mk (show P = _ from by rw [HP.out, if_neg hn])
      clear hn
      go_upto_region 7 with (go_at_call 56; refine (HS.out _ (MX.below HM.out (by repeat (first | exact HB.out | apply below_alloc | apply pw_below_drewN | apply below_drew1)))).mono ?_; rintro e w2 ⟨A1, rfl, hC, hb⟩; have HC := Aside0.mk (Kd.R_lower hC (below_size (by repeat (first | exact HB.out | apply below_alloc | apply pw_below_drewN | apply below_drew1)))); have HR := Aside0.mk (Kd.R_below HR.out (below_chain (by repeat (first | exact Below.refl _ _ | apply below_alloc | apply pw_below_drewN | apply below_drew1)) hb)); have HB := Aside0.mk (below_chain (w := w) (by repeat (first | exact HB.out | apply below_alloc | apply pw_below_drewN | apply below_drew1)) hb); clear hb hC)
      go_loopg [4, 6, 7, 8, 21] xs.length (fun gg s4 _ _ _ s21 wr => ∃ i : Nat, i ≤ xs.length ∧ xs.length - i ≤ gg ∧ s21 = .int .i64 i ∧ Aside0 (Below w.heap.size w wr) ∧ Aside0 (Kd.R (Kd.int .i64) 3 wr w.heap.size (fun _ => True) s4 ((xs.take i).map (fun x => (rdB x).1))) ∧ Aside0 (Kd.R Kd.string 9 wr w.heap.size (fun _ => True) (.slice A1 xs.length xs.length) xs) ∧ Aside0 ((xs.take i).all (fun x => (rdB x).2) = true))
      case atStart => exact ⟨0, Nat.zero_le _, by omega, rfl, HB, ⟨HR.out⟩, HC, ⟨rfl⟩⟩
      case round =>
        clear HR HB HC
        obtain ⟨i, hi, hgg, rfl, HB, HR, HC, HA⟩ := hrel
        by_cases hlt : i < xs.length
        · have hltz : (i : Int) < (xs.length : Int) := by omega
          obtain ⟨ad, e3, hx⟩ := Kd.at_string (Kd.R_reads' HC.out).2.2 (i : Int) (by omega) hltz
          cases e3
          have e2 : rdOf ByteArray.empty xs (i : Int) = xs[i] := by simp [rdOf, hlt]
          rw [e2, Int.toNat_natCast] at hx
          clear e2
          have hmem : xs[i] ∈ xs := List.getElem_mem hlt
          have htk : (xs.take (i + 1)).map (fun x => (rdB x).1) = (xs.take i).map (fun x => (rdB x).1) ++ [(rdB xs[i]).1] := by
            rw [List.take_succ_eq_append_getElem hlt, List.map_append]
            rfl
          have hal : (xs.take (i + 1)).all (fun x => (rdB x).2) = ((xs.take i).all (fun x => (rdB x).2) && (rdB xs[i]).2) := by
            rw [List.take_succ_eq_append_getElem hlt, List.all_append]
            simp
          have hsz := HW.out _ hmem
          have hno : (rdB xs[i]).2 = false → xs.all (fun x => (rdB x).2) = false := fun h => List.all_eq_false.2 ⟨xs[i], hmem, by rw [h]; simp⟩
          generalize xs[i] = y at hx hmem htk hal hsz hno
          have hcall := fun (W : World) (h1 : LW W) (h2 : EW W) => words_calls y hsz W h1 h2
          obtain ⟨q, hrd⟩ : ∃ q, rdB y = q := ⟨_, rfl⟩
          obtain ⟨n, ok⟩ := q
          rw [hrd] at htk hal hcall hno
          have HT := Aside0.mk htk
          have HAL := Aside0.mk hal
          have HCL := Aside0.mk hcall
          have HNO := Aside0.mk hno
          have HLI := Aside0.mk (show ((xs.take i).map (fun x => (rdB x).1)).length = i from by rw [List.length_map, List.length_take]; omega)
          clear htk hal hcall hno hmem hsz hrd
          cases ok with
          | false =>
            have HV := Aside0.mk (show P = ([], false) from by rw [HP.out, HNO.out rfl, if_neg (by simp)])
            clear HP
            go_wp2_with (go_at_call 30; refine (HCL.out _ (LW.below HL.out (by repeat (first | exact HB.out | apply below_alloc | apply pw_below_drewN | apply below_drew1))) (EW.below HE.out (by repeat (first | exact HB.out | apply below_alloc | apply pw_below_drewN | apply below_drew1)))).mono ?_; rintro e w3 ⟨rfl, hb⟩; have HB := Aside0.mk (below_chain (w := w) (by repeat (first | exact HB.out | apply below_alloc | apply pw_below_drewN | apply below_drew1)) hb); clear hb)
            go_ret2
            exact ⟨_, by rw [HV.out]; rfl, by rw [HV.out]; exact Kd.R_nil _ _ _ _ _, (by repeat (first | exact HB.out | apply below_alloc | apply pw_below_drewN | apply below_drew1))⟩
          | true =>
            go_wp2_with (first | (go_at_call 30; refine (HCL.out _ (LW.below HL.out (by repeat (first | exact HB.out | apply below_alloc | apply pw_below_drewN | apply below_drew1))) (EW.below HE.out (by repeat (first | exact HB.out | apply below_alloc | apply pw_below_drewN | apply below_drew1)))).mono ?_; rintro e w3 ⟨rfl, hb⟩; have HR := Aside0.mk (Kd.R_below HR.out (below_chain (by repeat (first | exact Below.refl _ _ | apply below_alloc | apply pw_below_drewN | apply below_drew1)) hb)); have HC := Aside0.mk (Kd.R_below HC.out (below_chain (by repeat (first | exact Below.refl _ _ | apply below_alloc | apply pw_below_drewN | apply below_drew1)) hb)); have HB := Aside0.mk (below_chain (w := w) (by repeat (first | exact HB.out | apply below_alloc | apply pw_below_drewN | apply below_drew1)) hb); clear hb hx) | ((with_reducible refine gate_builtin (b := .append) (xs := #[.tmp 32, .tmp 34]) rfl ?_); at_builtin; refine Kd.R_append (Kd.int .i64) (w0 := w) w.heap.size rfl (.tmp 32) (.tmp 34) 33 3 (.int .i64 0) 8 rfl Tryd.underlying33 info3 rfl (by decide) (by omega) _ ((xs.take i).map (fun x => (rdB x).1)) n [.int .i64 n] (fun _ => True) (fun _ => False) rfl rfl rfl (fun _ hk => hk.elim) (fun _ _ => trivial) ?aO ?aB ?aS ?aL ?_; (case aO => exact (by (with_reducible repeat (first | apply Kd.R_alloc | apply Kd.R_drewN | apply Kd.R_drew)); exact HR.out)); (case aB => exact (by repeat (first | exact HB.out | apply below_alloc | apply pw_below_drewN | apply below_drew1))); (case aS => exact below_size (by repeat (first | exact HB.out | apply below_alloc | apply pw_below_drewN | apply below_drew1))); (case aL => have h1 := HLI.out; have h2 := HLN.out; have h3 := HSZ.out; omega); intro v1 w1 ho hb hg hat; have HC := Aside0.mk (Kd.R_over' (by (with_reducible repeat (first | apply Kd.R_alloc | apply Kd.R_drewN | apply Kd.R_drew)); exact HC.out) (Kd.R_typed (by (with_reducible repeat (first | apply Kd.R_alloc | apply Kd.R_drewN | apply Kd.R_drew)); exact HR.out)) (by decide) hg); have HB := Aside0.mk hb; have HR := Aside0.mk (show Kd.R (Kd.int .i64) 3 w1 w.heap.size (fun _ => True) v1 ((xs.take (i + 1)).map (fun x => (rdB x).1)) from by rw [HT.out]; exact ho); clear ho hb hg hat))
            go_roundg (xs.length - (i + 1))
            case measure => omega
            case rel => exact ⟨i + 1, by omega, by omega, congrArg (Value.int .i64) (wn64 i (by have h2 := HLN.out; have h3 := HSZ.out; omega)), HB, HR, HC, ⟨by rw [HAL.out, HA.out]; rfl⟩⟩
        · obtain rfl : i = xs.length := by omega
          have hltz : ¬ ((xs.length : Int) < (xs.length : Int)) := by omega
          have HR2 := HR.out
          have ha := HA.out
          rw [List.take_length] at HR2 ha
          have hPP := HP.out
          rw [ha, if_pos rfl] at hPP
          generalize xs.map (fun x => (rdB x).1) = out at HR2 hPP
          obtain ⟨A2, c2, rfl, hd2, hC2⟩ := Kd.R_reads HR2
          have HR := Aside0.mk HR2
          clear HR2 HA HC ha HP
          have hcl := fun (W : World) (hW : Kd.C (Kd.int .i64) W A2 out.length out) (h : LW W) => fmtNumbers_calls out A2 c2 W hW hd2 (fun h1 h2 => join_len out h1 h2) h
          generalize numsI out = q at hcl hPP
          obtain ⟨tx_, ok⟩ := q
          have HCL := Aside0.mk hcl
          have HC2 := Aside0.mk hC2
          clear hcl hC2
          cases ok with
          | false =>
            have HV := Aside0.mk (show P = ([], false) from by rw [hPP, if_neg (by simp)])
            clear hPP
            go_wp2_with (go_at_call 25; refine (HCL.out _ (Kd.C_below HC2.out (by repeat (first | exact Below.refl _ _ | apply below_alloc | apply pw_below_drewN | apply below_drew1))) (LW.below HL.out (by repeat (first | exact HB.out | apply below_alloc | apply pw_below_drewN | apply below_drew1)))).mono ?_; rintro e w4 ⟨rfl, hb⟩; have HB := Aside0.mk (below_chain (w := w) (by repeat (first | exact HB.out | apply below_alloc | apply pw_below_drewN | apply below_drew1)) hb); clear hb)
            go_ret2
            exact ⟨_, by rw [HV.out]; rfl, by rw [HV.out]; exact Kd.R_nil _ _ _ _ _, (by repeat (first | exact HB.out | apply below_alloc | apply pw_below_drewN | apply below_drew1))⟩
          | true =>
            rw [if_pos rfl] at hPP
            by_cases hq : tx_.toList = s.toList
            · have f0 : (tx_.toList == s.toList) = true := beq_iff_eq.mpr hq
              have f1 : (tx_.toList != s.toList) = false := bne_eq_false_iff_eq.mpr hq
              have HV := Aside0.mk (show P = (out, true) from by rw [hPP]; exact if_pos hq)
              clear hPP hq
              go_wp2_with (go_at_call 25; refine (HCL.out _ (Kd.C_below HC2.out (by repeat (first | exact Below.refl _ _ | apply below_alloc | apply pw_below_drewN | apply below_drew1))) (LW.below HL.out (by repeat (first | exact HB.out | apply below_alloc | apply pw_below_drewN | apply below_drew1)))).mono ?_; rintro e w4 ⟨rfl, hb⟩; have HR := Aside0.mk (Kd.R_below HR.out (below_chain (by repeat (first | exact Below.refl _ _ | apply below_alloc | apply pw_below_drewN | apply below_drew1)) hb)); have HB := Aside0.mk (below_chain (w := w) (by repeat (first | exact HB.out | apply below_alloc | apply pw_below_drewN | apply below_drew1)) hb); clear hb)
              go_ret2
              exact ⟨_, by rw [HV.out]; rfl, by rw [HV.out]; exact Kd.R_below HR.out (by repeat (first | exact Below.refl _ _ | apply below_alloc | apply pw_below_drewN | apply below_drew1)), (by repeat (first | exact HB.out | apply below_alloc | apply pw_below_drewN | apply below_drew1))⟩
            · have f0 : (tx_.toList == s.toList) = false := beq_eq_false_iff_ne.mpr hq
              have f1 : (tx_.toList != s.toList) = true := bne_iff_ne.mpr hq
              have HV := Aside0.mk (show P = ([], false) from by rw [hPP]; exact if_neg hq)
              clear hPP hq
              go_wp2_with (go_at_call 25; refine (HCL.out _ (Kd.C_below HC2.out (by repeat (first | exact Below.refl _ _ | apply below_alloc | apply pw_below_drewN | apply below_drew1))) (LW.below HL.out (by repeat (first | exact HB.out | apply below_alloc | apply pw_below_drewN | apply below_drew1)))).mono ?_; rintro e w4 ⟨rfl, hb⟩; have HB := Aside0.mk (below_chain (w := w) (by repeat (first | exact HB.out | apply below_alloc | apply pw_below_drewN | apply below_drew1)) hb); clear hb)
              go_ret2
              exact ⟨_, by rw [HV.out]; rfl, by rw [HV.out]; exact Kd.R_nil _ _ _ _ _, (by repeat (first | exact HB.out | apply below_alloc | apply pw_below_drewN | apply below_drew1))⟩
end Go.Proofs.YtdmbboijcaelcaaDoor.Q

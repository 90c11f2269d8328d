-- Written by a program of this session (wip/xprint.py over the kit's printer).
import Derived.Test.YtdiejmhphhdcfaaQ0
import Derived.Test.YtdiejmhphhdcfaaQF128
import Derived.Test.YtdiejmhphhdcfaaQF18
import Derived.Test.YtdiejmhphhdcfaaQF61
import Derived.Test.YtdiejmhphhdcfaaQF67
import Derived.Test.YtdiejmhphhdcfaaQF68
import Derived.Test.YtdiejmhphhdcfaaQF70
import Derived.Test.YtdiejmhphhdcfaaQF75
import Derived.Test.YtdiejmhphhdcfaaQP
namespace Go.Proofs.Ytdiejmhphhdcfaa.Q
open Go.RowKit Go.Proofs.YtdiejmhphhdcfaaW.PrintWords Go.Proofs.YtdiejmhphhdcfaaW.PrintLast
set_option linter.unusedVariables false
set_option linter.unusedSimpArgs false

/-! ### impl_ShortestCycle: function 33 -/
theorem run_eql_slice_nil {P : Program} (w : World) (t e : TypeId) (a : Option Addr) (n c n' c' : Nat) (h : P.underlying t = some (.slice e)) :
    (binOp .eql t (.slice a n c) (.slice none n' c')).run P w = .ok (.bool (!a.isSome)) w := by
  simp only [binOp]
  cases a <;> simp [Op.equal, Op.maxDepth, Lib.run_equalIn_slice_nil w 9999 t e _ n c n' c' h]
def icStep (best list : Option (List Int)) : Option (List Int) := match list, best with
  | none, best => best
  | some l, none => some l
  | some l, some b => if l.length < b.length then some l else some b
def icTo (cs : List S86) (rs : List S95) : Nat → Option (Option (List Int))
  | 0 => some none
  | m + 1 => (icTo cs rs m).bind fun best => (chnG cs rs m m m).map fun res => icStep best (res.map fun t => (m : Int) :: t)
theorem icTo_succ {cs : List S86} {rs : List S95} {m : Nat} {b : Option (List Int)} (h : icTo cs rs (m + 1) = some b) : ∃ best res, icTo cs rs m = some best ∧ chnG cs rs m m m = some res ∧ b = icStep best (res.map fun t => (m : Int) :: t) := by
  obtain ⟨best, h1, h2⟩ := Option.bind_eq_some_iff.1 h
  obtain ⟨ch, h3, h4⟩ := Option.map_eq_some_iff.1 h2
  exact ⟨best, ch, h1, h3, h4.symm⟩
theorem icTo_some {cs : List S86} {rs : List S95} {n : Nat} : ∀ {b : Option (List Int)}, icTo cs rs n = some b → ∀ m, m ≤ n → ∃ b', icTo cs rs m = some b' := by
  induction n with
  | zero => intro b h m hm; obtain rfl : m = 0 := by omega
            exact ⟨b, h⟩
  | succ n ih =>
    intro b h m hm
    by_cases e : m = n + 1
    · subst e; exact ⟨b, h⟩
    · obtain ⟨b1, _, h1, _, _⟩ := icTo_succ h
      exact ih h1 m (by omega)
theorem icTo_in {cs : List S86} {rs : List S95} : ∀ (m : Nat) {b : List Int}, m ≤ cs.length → icTo cs rs m = some (some b) → 0 < b.length ∧ b.length ≤ 31 ∧ ∀ x ∈ b, 0 ≤ x ∧ x < (cs.length : Int)
  | 0, b, _, h => by cases h
  | m + 1, b, hm, h => by
    obtain ⟨best, res, h1, h2, h3⟩ := icTo_succ h
    have new : ∀ t, res = some t → 0 < ((m : Int) :: t).length ∧ ((m : Int) :: t).length ≤ 31 ∧ ∀ x ∈ (m : Int) :: t, 0 ≤ x ∧ x < (cs.length : Int) := by
      intro t ht
      subst ht
      refine ⟨by simp, by have := chainGo_len _ _ _ _ _ _ _ _ h2; simp only [List.length_cons]; omega, fun x hx => ?_⟩
      rcases List.mem_cons.1 hx with rfl | hx
      · omega
      · exact chainGo_in _ _ _ _ _ (by omega) _ _ _ h2 x hx
    cases res with
    | none => 
      cases best with
      | none => cases h3
      | some b0 => obtain rfl := Option.some.inj h3; exact icTo_in m (by omega) h1
    | some t =>
      cases best with
      | none => obtain rfl := Option.some.inj h3; exact new t rfl
      | some b0 =>
        have h4 : some b = if ((m : Int) :: t).length < b0.length then some ((m : Int) :: t) else some b0 := h3
        split at h4
        · obtain rfl := Option.some.inj h4; exact new t rfl
        · obtain rfl := Option.some.inj h4; exact icTo_in m (by omega) h1
def impl_ShortestCycle.f (l0_0 : List S86) (l0_1 : List S95) : Option (List Int × Bool × Bool) :=
  if goodB l0_0 l0_1 then (icTo l0_0 l0_1 l0_0.length).map fun best => match best with | none => ([], false, true) | some b => (numI l0_0 (b.take (b.length - 1)), true, true) else some ([], false, false)
set_option maxHeartbeats 16000000 in
set_option maxRecDepth 100000 in
theorem impl_ShortestCycle.calls (A0_0 : Option Addr) (c0_0 : Nat) (l0_0 : List S86) (A0_1 : Option Addr) (c0_1 : Nat) (l0_1 : List S95) (r1 : List Int) (r2 r3 : Bool) (w : World) (hr0_0 : Kd.C k86 w A0_0 l0_0.length l0_0) (hc0_0 : l0_0.length ≤ c0_0) (hr0_1 : Kd.C k95 w A0_1 l0_1.length l0_1) (hc0_1 : l0_1.length ≤ c0_1) (h : impl_ShortestCycle.f l0_0 l0_1 = some (r1, r2, r3)) :
    Calls Try.prog 33 #[.agg #[.slice A0_0 l0_0.length c0_0, .slice A0_1 l0_1.length c0_1]] w fun e w' => ∃ v0_ : Value, e = .returned (.tuple #[v0_, .bool r2, .bool r3]) ∧ Kd.R (Kd.int .i64) 3 w' w.heap.size (fun _ => True) v0_ r1 ∧ Below w.heap.size w w' := by
  have H := h
  unfold impl_ShortestCycle.f at H
  clear h
  have HR0 := Aside0.mk hr0_0
  have HR1 := Aside0.mk hr0_1
  have HC0 := Aside0.mk hc0_0
  have HC1 := Aside0.mk hc0_1
  clear hr0_0 hr0_1 hc0_0 hc0_1
  obtain ⟨wb, hwb⟩ : ∃ wb, (w).alloc (.cells #[.slice A0_0 l0_0.length c0_0, .slice A0_1 l0_1.length c0_1] 33 (0, 0)) = wb := ⟨_, rfl⟩
  have HBw := Aside0.mk (show Below w.heap.size w wb from by rw [← hwb]; repeat (first | exact Below.refl _ _ | apply below_alloc))
  have HWB := HBw
  have hhr : wb.heap[w.heap.size]? = some (.cells #[.slice A0_0 l0_0.length c0_0, .slice A0_1 l0_1.length c0_1] 33 (0, 0)) := by rw [← hwb]; have h := blk_new (w) (.cells #[.slice A0_0 l0_0.length c0_0, .slice A0_1 l0_1.length c0_1] 33 (0, 0)); rw [show (w).heap.size = w.heap.size from by rfl] at h; exact h
  have hb0 : wb.cell? ⟨w.heap.size, 0, none⟩ = some (.slice A0_0 l0_0.length c0_0) := (blk_cell hhr 0).trans rfl
  have hb1 : wb.cell? ⟨w.heap.size, 1, none⟩ = some (.slice A0_1 l0_1.length c0_1) := (blk_cell hhr 1).trans rfl
  have hbs : w.heap.size < wb.heap.size := blk_lt hhr
  have HW := Aside0.mk hwb
  clear hwb hhr
  obtain ⟨b, hb⟩ : ∃ b, goodB l0_0 l0_1 = b := ⟨_, rfl⟩
  have AV := Aside0.mk (show impl_IsValidRecord.f l0_0 l0_1 = some b from congrArg some hb)
  rw [hb] at H
  cases b with
  | false =>
    clear hb
    have H := Option.some.inj H
    injection H with H1 H2
    injection H2 with H2 H3
    subst H1; subst H2; subst H3
    go_enter Try.func33, Try.ntmps33
    go_upto_region 1 with (fail)
    try rw [HW.out]
    clear HW
    go_wp2_with (go_at_call 75; (with_reducible refine (impl_IsValidRecord.calls _ _ l0_0 _ _ l0_1 _ _ (Kd.C_below HR0.out (by repeat (first | exact HBw.out | exact Below.refl _ _ | apply below_alloc | apply pw_below_drewN | apply below_drew1))) HC0.out (Kd.C_below HR1.out (by repeat (first | exact HBw.out | exact Below.refl _ _ | apply below_alloc | apply pw_below_drewN | apply below_drew1))) HC1.out AV.out).mono ?_); rintro e w1 ⟨rfl, hb⟩; have HBw : Aside0 (Below w.heap.size w w1) := Aside0.mk (below_chain (w := w) (by repeat (first | exact HBw.out | exact Below.refl _ _ | apply below_alloc | apply pw_below_drewN | apply below_drew1)) hb); have hb0 := pw_cell_below hb hb0; clear hb)
    go_ret3
    exact ⟨_, rfl, Kd.R_nil _ _ _ _ _, (by repeat (first | exact HBw.out | exact Below.refl _ _ | apply below_alloc | apply pw_below_drewN | apply below_drew1))⟩
  | true =>
    have HG := Aside0.mk (goodB_parts hb)
    obtain ⟨bst, hbst, hr⟩ := Option.map_eq_some_iff.1 (show (icTo l0_0 l0_1 l0_0.length).map _ = _ from H)
    have HH := Aside0.mk hbst
    have HRR := Aside0.mk hr
    clear hb hr hbst H
    go_enter Try.func33, Try.ntmps33
    go_upto_region 1 with (fail)
    try rw [HW.out]
    clear HW
    go_upto_region 4 with (first | (go_at_call 75; (with_reducible refine (impl_IsValidRecord.calls _ _ l0_0 _ _ l0_1 _ _ (Kd.C_below HR0.out (by repeat (first | exact HBw.out | exact Below.refl _ _ | apply below_alloc | apply pw_below_drewN | apply below_drew1))) HC0.out (Kd.C_below HR1.out (by repeat (first | exact HBw.out | exact Below.refl _ _ | apply below_alloc | apply pw_below_drewN | apply below_drew1))) HC1.out AV.out).mono ?_); rintro e w1 ⟨rfl, hb⟩; have HBw : Aside0 (Below w.heap.size w w1) := Aside0.mk (below_chain (w := w) (by repeat (first | exact HBw.out | exact Below.refl _ _ | apply below_alloc | apply pw_below_drewN | apply below_drew1)) hb); have hb0 := pw_cell_below hb hb0; have hb1 := pw_cell_below hb hb1; clear hb) | (go_at_call 67; (refine (impl_orderOf.calls _ _ l0_0 _ _ l0_1 _ (Kd.C_below HR0.out (by repeat (first | exact HBw.out | exact Below.refl _ _ | apply below_alloc | apply pw_below_drewN | apply below_drew1))) HC0.out (Kd.C_below HR1.out (by repeat (first | exact HBw.out | exact Below.refl _ _ | apply below_alloc | apply pw_below_drewN | apply below_drew1))) HC1.out HG.out.1 HG.out.2.1 HG.out.2.2).mono ?_); rintro e w2 ⟨p, rfl, N1, N2, v, HO⟩; obtain ⟨A, c, rfl, hc⟩ := HO.slice (nums_length l0_0); have hb := HO.below; have HBw : Aside0 (Below w.heap.size w w2) := Aside0.mk (below_chain (w := w) (by repeat (first | exact HBw.out | exact Below.refl _ _ | apply below_alloc | apply pw_below_drewN | apply below_drew1)) hb); have hb0 := pw_cell_below hb hb0; have hb1 := pw_cell_below hb hb1; have HOA := Aside0.mk HO; clear hb HO))
    clear hb0 hb1
    obtain ⟨wb, rfl⟩ : ∃ x, x = w2 := ⟨_, rfl⟩
    obtain ⟨wo, HOB⟩ : ∃ wo, OrdIn wo wb p N1 N2 l0_0.length (.slice A l0_0.length c) (nums l0_0) (abv l0_0 l0_1) (lat l0_0 l0_1) := ⟨_, HOA.out⟩
    have HOA := Aside0.mk HOB
    have g0 := HOB.c0
    clear HOB
    go_wp2
    clear g0
    go_loopg [6, 19] l0_0.length (fun gg s6 s19 wr => ∃ (m : Nat) (best : Option (List Int)), m ≤ l0_0.length ∧ l0_0.length - m ≤ gg ∧ s19 = .int .i64 m ∧ icTo l0_0 l0_1 m = some best ∧ Aside0 (Below w.heap.size w wr) ∧ Aside0 (OrdIn wo wr p N1 N2 l0_0.length (.slice A l0_0.length c) (nums l0_0) (abv l0_0 l0_1) (lat l0_0 l0_1)) ∧ (best = none → s6 = .slice none 0 0) ∧ Aside0 (∀ l, best = some l → Kd.R (Kd.int .i64) 3 wr w.heap.size (fun _ => True) s6 l))
    case atStart => exact ⟨0, none, Nat.zero_le _, by omega, rfl, rfl, HBw, HOA, fun _ => rfl, ⟨fun _ h => by cases h⟩⟩
    case round =>
      clear HBw HOA
      obtain ⟨m, best, hm, hgg, rfl, hbest, HBw, HOA, hnil, HRB⟩ := hrel
      by_cases hml : m < l0_0.length
      · have hmlz : (m : Int) < (l0_0.length : Int) := by omega
        obtain ⟨b1, hb1'⟩ := icTo_some HH.out (m + 1) (by omega)
        obtain ⟨best2, res, e1, hch, hst⟩ := icTo_succ hb1'
        rw [hbest] at e1
        obtain rfl := Option.some.inj e1
        have HST := Aside0.mk (show icTo l0_0 l0_1 (m + 1) = some (icStep best (res.map fun t => (m : Int) :: t)) from by rw [hb1', hst])
        have HRS := Aside0.mk (show chainGo (abv l0_0 l0_1) (fAll (abv l0_0 l0_1) m m l0_0.length l0_0.length) l0_0.length m m 30 m = some res from hch)
        have HNIL := Aside0.mk hnil
        have HBS := Aside0.mk hbest
        clear hb1' hst hch hbest e1 hnil
        have g0 := HOA.out.c0
        go_upto_region 9 with (go_at_call 68; (refine (impl_order_chain.calls _ p N1 N2 _ A c _ _ _ _ HOA.out HG.out.1 m m m 30 res hml hml hm (by decide) HRS.out).mono ?_); rintro e w6 ⟨v6, rfl, hb, hno, hso⟩; have HNO := Aside0.mk hno; have HSO := Aside0.mk (fun t ht => Kd.R_lower (hso t ht) HBw.out.size); have HRB := Aside0.mk (fun l hl => Kd.R_below (HRB.out l hl) hb); have HOA := Aside0.mk (HOA.out.step hb); have HBw := Aside0.mk (below_chain (w := w) HBw.out hb); clear hno hso hb g0)
        obtain ⟨wv, rfl⟩ : ∃ x, x = w6 := ⟨_, rfl⟩
        have HN := Aside0.mk HG.out.1
        have qn := fun (W : World) (a : Option Addr) (n c n' c' : Nat) => run_neq_slice_nil (P := Try.prog) W 27 3 a n c n' c' Try.underlying27
        have qe := fun (W : World) (a : Option Addr) (n c n' c' : Nat) => run_eql_slice_nil (P := Try.prog) W 27 3 a n c n' c' Try.underlying27
        cases res with
        | none =>
          obtain rfl := HNO.out rfl
          have HSL := Aside0.mk (show icTo l0_0 l0_1 (m + 1) = some best from by rw [HST.out]; cases best <;> rfl)
          clear HNO HSO HST
          cases best with
          | none =>
            obtain rfl := HNIL.out rfl
            clear HNIL
            go_wp2
            repeat (go_quiet (fail); try go_wp2)
            go_roundg (l0_0.length - (m + 1))
            case measure => omega
            case rel => exact ⟨m + 1, none, by omega, by omega, by first | go_num | exact congrArg (Value.int .i64) (wrap_succ m (by have := HN.out; omega)), HSL.out, HBw, HOA, (fun _ => rfl), HRB⟩
          | some b =>
            obtain ⟨D, d, e, _, _⟩ := Kd.R_reads (HRB.out b rfl)
            subst e
            clear HNIL
            go_wp2
            repeat (go_quiet (fail); try go_wp2)
            go_roundg (l0_0.length - (m + 1))
            case measure => omega
            case rel => exact ⟨m + 1, some b, by omega, by omega, by first | go_num | exact congrArg (Value.int .i64) (wrap_succ m (by have := HN.out; omega)), HSL.out, HBw, HOA, (fun h => by cases h), HRB⟩
        | some t =>
          have hR6 := HSO.out t rfl
          obtain ⟨g6, cap6, hv6, _, _, _, _⟩ := R_form hR6 (by simp)
          subst hv6
          have HR6 := Aside0.mk hR6
          clear HNO HSO hR6
          obtain ⟨ls, hls⟩ : ∃ ls, ((m : Int) :: t) = ls := ⟨_, rfl⟩
          have HLS := Aside0.mk hls
          have HST := Aside0.mk (show icTo l0_0 l0_1 (m + 1) = some (icStep best (some ls)) from by rw [HST.out, ← hls]; rfl)
          rw [hls] at HR6 ⊢
          clear hls
          cases best with
          | none =>
            obtain rfl := HNIL.out rfl
            have HSL := Aside0.mk (show icTo l0_0 l0_1 (m + 1) = some (some ls) from HST.out)
            clear HST HNIL HRB
            go_wp2
            repeat (go_quiet (fail); try go_wp2)
            go_roundg (l0_0.length - (m + 1))
            case measure => omega
            case rel => exact ⟨m + 1, some ls, by omega, by omega, by first | go_num | exact congrArg (Value.int .i64) (wrap_succ m (by have := HN.out; omega)), HSL.out, HBw, HOA, (fun h => by cases h), ⟨fun l hl => by obtain rfl := Option.some.inj hl; exact HR6.out⟩⟩
          | some b =>
            have hRb := HRB.out b rfl
            have hbp := (icTo_in m hm HBS.out).1
            obtain ⟨gb, capb, hvb, _, _, _, _⟩ := R_form hRb hbp
            subst hvb
            have HRb := Aside0.mk hRb
            clear HRB hRb HNIL hbp
            by_cases hlt : ls.length < b.length
            · have hltz : (ls.length : Int) < (b.length : Int) := by omega
              have hdz : decide ((ls.length : Int) < (b.length : Int)) = true := decide_eq_true hltz
              have HSL := Aside0.mk (show icTo l0_0 l0_1 (m + 1) = some (some ls) from by rw [HST.out]; exact congrArg some (if_pos hlt))
              clear HST
              go_wp2
              repeat (go_quiet (fail); try go_wp2)
              go_roundg (l0_0.length - (m + 1))
              case measure => omega
              case rel => exact ⟨m + 1, some ls, by omega, by omega, by first | go_num | exact congrArg (Value.int .i64) (wrap_succ m (by have := HN.out; omega)), HSL.out, HBw, HOA, (fun h => by cases h), ⟨fun l hl => by obtain rfl := Option.some.inj hl; exact HR6.out⟩⟩
            · have hltz : ¬ (ls.length : Int) < (b.length : Int) := by omega
              have hdz : decide ((ls.length : Int) < (b.length : Int)) = false := decide_eq_false hltz
              have HSL := Aside0.mk (show icTo l0_0 l0_1 (m + 1) = some (some b) from by rw [HST.out]; exact congrArg some (if_neg hlt))
              clear HST
              go_wp2
              repeat (go_quiet (fail); try go_wp2)
              go_roundg (l0_0.length - (m + 1))
              case measure => omega
              case rel => exact ⟨m + 1, some b, by omega, by omega, by first | go_num | exact congrArg (Value.int .i64) (wrap_succ m (by have := HN.out; omega)), HSL.out, HBw, HOA, (fun h => by cases h), ⟨fun l hl => by obtain rfl := Option.some.inj hl; exact HRb.out⟩⟩
      · obtain rfl : m = l0_0.length := by omega
        have hmlz : ¬ ((l0_0.length : Int) < (l0_0.length : Int)) := by omega
        have qe := fun (W : World) (a : Option Addr) (n c n' c' : Nat) => run_eql_slice_nil (P := Try.prog) W 27 3 a n c n' c' Try.underlying27
        obtain rfl : bst = best := Option.some.inj (HH.out.symm.trans hbest)
        cases bst with
        | none =>
          obtain rfl := hnil rfl
          have H := HRR.out
          injection H with H1 H2
          injection H2 with H2 H3
          subst H1; subst H2; subst H3
          clear hnil HRB
          go_wp2
          go_ret3
          exact ⟨_, rfl, Kd.R_nil _ _ _ _ _, HBw.out⟩
        | some b =>
          have H := HRR.out
          injection H with H1 H2
          injection H2 with H2 H3
          subst H1; subst H2; subst H3
          have hR := HRB.out b rfl
          have hI := icTo_in l0_0.length (Nat.le_refl _) hbest
          obtain ⟨gb, capb, hvb, hcb, _, _, _⟩ := R_form hR hI.1
          subst hvb
          obtain ⟨i3, hi3, hi4⟩ := Option.map_eq_some_iff.1 info3
          injection hi4 with hi5 hi6
          injection hi6 with hi7 hi8
          have hpos := hI.1
          have hup := hI.2.1
          have hm1 : wrap64 ((b.length : Int) - 1) = (b.length : Int) - 1 := by unfold wrap64; omega
          have hcut := (print_take_of (P := Try.prog) (Value.int .i64) (0 : Int) 27 3 .i64 Try.underlying27 hi3 hi7 (some ⟨gb, 0, none⟩) capb b ((b.length : Int) - 1) (by omega) (by omega) hcb).1
          have HRC := Aside0.mk (Kd.R_take (m := b.length - 1) hR (by omega))
          rw [show ((b.length : Int) - 1).toNat = b.length - 1 from by omega] at hcut
          have HCL := Aside0.mk (show (b.take (b.length - 1)).length = b.length - 1 from by rw [List.length_take]; omega)
          have HIN := Aside0.mk (show ∀ x ∈ b.take (b.length - 1), 0 ≤ x ∧ x < (l0_0.length : Int) from fun x hx => hI.2.2 x (List.mem_of_mem_take hx))
          have HUP := Aside0.mk (show (b.take (b.length - 1)).length ≤ 1000000 from by rw [List.length_take]; omega)
          obtain ⟨cy, hcy⟩ : ∃ x, b.take (b.length - 1) = x := ⟨_, rfl⟩
          have HCY := Aside0.mk hcy
          rw [hcy] at hcut HRC HCL HIN HUP
          have HRC := Aside0.mk (show Kd.R (Kd.int .i64) 3 wr w.heap.size (fun _ => True) (.slice (some ⟨gb, 0, none⟩) cy.length capb) cy from by rw [HCL.out]; exact HRC.out)
          have HCC := Aside0.mk (Kd.R_reads' HRC.out).2.2
          have HBL := Aside0.mk hpos
          clear hi3 hi5 hi7 hi8 hcy hcb HRC hI hnil HRB hR hpos hup hbest
          have g0 := HOA.out.c0
          go_wp2_with (go_at_call 70; (refine (impl_order_numbered.calls _ p N1 N2 A c l0_0 _ _ _ HOA.out (some ⟨gb, 0, none⟩) capb cy HCC.out HIN.out HUP.out).mono ?_); rintro e w8 ⟨v8, rfl, hR, hb⟩; have HR8 := Aside0.mk hR; have HB8 := Aside0.mk (below_chain HBw.out hb); clear hR hb)
          go_ret3
          exact ⟨_, rfl, by rw [HCY.out]; exact Kd.R_lower HR8.out HBw.out.size, HB8.out⟩

end Go.Proofs.Ytdiejmhphhdcfaa.Q

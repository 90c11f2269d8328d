/- The walk of VerifyChecksum. -/
import Derived.Test.YtdmbboijcaelcaaDoorShelfD
import Derived.Test.YtdmbboijcaelcaaDoorAppNum
namespace Go.Proofs.YtdmbboijcaelcaaDoor.Q
open Go.RowKit Go.Proofs.YtdmbboijcaelcaaDoorW.PrintWords Go.Proofs.YtdmbboijcaelcaaDoorW.PrintLast
set_option linter.unusedVariables false
set_option linter.unusedSimpArgs false
theorem indexbyte_calls (s : ByteArray) (w : World) : Calls Tryd.prog 67 #[.string s, .int .u8 35] w fun e w' => e = .returned (.int .i64 (Lib.indexByte s.data.toList 35)) ∧ Below w.heap.size w w' :=
  (Any.strings_IndexByte Tryd.laysIndexByte s 35 w).mono fun e w' h => ⟨h.1, by rw [h.2]; exact Below.refl _ _⟩
/-- What the program finds: the checksum's text ahead of the first number sign. -/
def verI (s t : ByteArray) (c : Int) : ByteArray × Bool := if Lib.indexByte s.data.toList 35 < 0 then (⟨#[]⟩, false) else if (appI t c).2 = true then (if (appI t c).1.toList = s.toList then (t, true) else (⟨#[]⟩, false)) else (⟨#[]⟩, false)
set_option maxHeartbeats 2000000 in
set_option maxRecDepth 100000 in
theorem verify_calls (s t : ByteArray) (c : Int) (ht : t = s.extract 0 (Lib.indexByte s.data.toList 35).toNat) (hix : Lib.indexByte s.data.toList 35 ≤ (s.size : Int))
    (happ : ∀ W : World, LW W → Calls Tryd.prog 22 #[.string t] W fun e w' => e = .returned (.tuple #[.string (appI t c).1, .bool (appI t c).2]) ∧ Below W.heap.size W w') (w : World) (hl : LW w) :
    Calls Tryd.prog 28 #[.string s] w fun e w' => e = .returned (.tuple #[.string (verI s t c).1, .bool (verI s t c).2]) ∧ Below w.heap.size w w' := by
  have hcall := fun W : World => indexbyte_calls s W
  have hV : verI s t c = if Lib.indexByte s.data.toList 35 < 0 then (⟨#[]⟩, false) else if (appI t c).2 = true then (if (appI t c).1.toList = s.toList then (t, true) else (⟨#[]⟩, false)) else (⟨#[]⟩, false) := rfl
  generalize verI s t c = V at hV ⊢
  generalize Lib.indexByte s.data.toList 35 = ix at hcall hV ht hix
  obtain ⟨p, hp⟩ : ∃ p, appI t c = p := ⟨_, rfl⟩
  rw [hp] at happ hV
  obtain ⟨r, b⟩ := p
  have HC := Aside0.mk hcall
  have HA := Aside0.mk happ
  have HL := Aside0.mk hl
  have HT := Aside0.mk ht
  have HB := Aside0.mk (Below.refl w.heap.size w)
  clear hcall happ hl hp
  by_cases h0 : ix < 0
  · have hz : decide (ix < 0) = true := decide_eq_true h0
    rw [if_pos h0] at hV
    have HV := Aside0.mk hV
    clear hV ht
    go_enter Tryd.func28, Tryd.ntmps28
    go_wp2_with (go_at_call 67; (refine (HC.out _).mono ?_); rintro e w1 ⟨rfl, hb⟩; have HB := Aside0.mk (below_chain (w := w) (by repeat (first | exact HB.out | apply below_alloc | apply pw_below_drewN | apply below_drew1)) hb); clear hb)
    go_ret2
    exact ⟨by rw [HV.out]; rfl, by repeat (first | exact HB.out | apply below_alloc | apply pw_below_drewN | apply below_drew1)⟩
  · have hz : decide (ix < 0) = false := decide_eq_false h0
    rw [if_neg h0] at hV
    have p0 : (0 ≤ ix) = True := eq_true (by omega)
    have p1 : decide (0 ≤ ix) = true := decide_eq_true (by omega)
    have q0 : (ix ≤ (s.size : Int)) = True := eq_true hix
    have q1 : decide (ix ≤ (s.size : Int)) = true := decide_eq_true hix
    clear hix h0
    subst ht
    cases b with
    | false =>
      rw [if_neg (by simp)] at hV
      have HV := Aside0.mk hV
      clear hV
      go_enter Tryd.func28, Tryd.ntmps28
      go_wp2_with (first | (go_at_call 67; (refine (HC.out _).mono ?_); rintro e w1 ⟨rfl, hb⟩; have HB := Aside0.mk (below_chain (w := w) (by repeat (first | exact HB.out | apply below_alloc | apply pw_below_drewN | apply below_drew1)) hb); clear hb) | (go_at_call 22; (refine (HA.out _ (LW.below HL.out (by repeat (first | exact HB.out | apply below_alloc | apply pw_below_drewN | apply below_drew1)))).mono ?_); rintro e w2 ⟨rfl, hb⟩; have HB := Aside0.mk (below_chain (w := w) (by repeat (first | exact HB.out | apply below_alloc | apply pw_below_drewN | apply below_drew1)) hb); clear hb))
      go_ret2
      exact ⟨by rw [HV.out]; rfl, by repeat (first | exact HB.out | apply below_alloc | apply pw_below_drewN | apply below_drew1)⟩
    | true =>
      rw [if_pos rfl] at hV
      by_cases he : r.toList = s.toList
      · rw [if_pos he] at hV
        have e0 : (r.toList == s.toList) = true := beq_iff_eq.mpr he
        have e1 : (r.toList != s.toList) = false := bne_eq_false_iff_eq.mpr he
        have HV := Aside0.mk hV
        clear hV he
        go_enter Tryd.func28, Tryd.ntmps28
        go_wp2_with (first | (go_at_call 67; (refine (HC.out _).mono ?_); rintro e w1 ⟨rfl, hb⟩; have HB := Aside0.mk (below_chain (w := w) (by repeat (first | exact HB.out | apply below_alloc | apply pw_below_drewN | apply below_drew1)) hb); clear hb) | (go_at_call 22; (refine (HA.out _ (LW.below HL.out (by repeat (first | exact HB.out | apply below_alloc | apply pw_below_drewN | apply below_drew1)))).mono ?_); rintro e w2 ⟨rfl, hb⟩; have HB := Aside0.mk (below_chain (w := w) (by repeat (first | exact HB.out | apply below_alloc | apply pw_below_drewN | apply below_drew1)) hb); clear hb))
        go_ret2
        exact ⟨by rw [HV.out]; rfl, by repeat (first | exact HB.out | apply below_alloc | apply pw_below_drewN | apply below_drew1)⟩
      · rw [if_neg he] at hV
        have e0 : (r.toList == s.toList) = false := beq_eq_false_iff_ne.mpr he
        have e1 : (r.toList != s.toList) = true := bne_iff_ne.mpr he
        have HV := Aside0.mk hV
        clear hV he
        go_enter Tryd.func28, Tryd.ntmps28
        go_wp2_with (first | (go_at_call 67; (refine (HC.out _).mono ?_); rintro e w1 ⟨rfl, hb⟩; have HB := Aside0.mk (below_chain (w := w) (by repeat (first | exact HB.out | apply below_alloc | apply pw_below_drewN | apply below_drew1)) hb); clear hb) | (go_at_call 22; (refine (HA.out _ (LW.below HL.out (by repeat (first | exact HB.out | apply below_alloc | apply pw_below_drewN | apply below_drew1)))).mono ?_); rintro e w2 ⟨rfl, hb⟩; have HB := Aside0.mk (below_chain (w := w) (by repeat (first | exact HB.out | apply below_alloc | apply pw_below_drewN | apply below_drew1)) hb); clear hb))
        go_ret2
        exact ⟨by rw [HV.out]; rfl, by repeat (first | exact HB.out | apply below_alloc | apply pw_below_drewN | apply below_drew1)⟩
end Go.Proofs.YtdmbboijcaelcaaDoor.Q

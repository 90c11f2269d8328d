import Derived.Test.YtdmbboijcaelcaaDoorShelfB
import Derived.Test.YtdmbboijcaelcaaDoorFmt
import Derived.Test.YtdmbboijcaelcaaDoorQF61
namespace Go.Proofs.YtdmbboijcaelcaaDoor.Q
open Go.RowKit Go.Proofs.YtdmbboijcaelcaaDoorW.PrintWords Go.Proofs.YtdmbboijcaelcaaDoorW.PrintLast
set_option linter.unusedVariables false
def sealB (s : ByteArray) (c : Int) : ByteArray := (s ++ (⟨#[35]⟩ : ByteArray)) ++ (⟨(Lib.itoa c).toArray⟩ : ByteArray)
def hasB (s : ByteArray) : Bool := decide (0 ≤ Lib.indexByte s.data.toList 35)
def appI (s : ByteArray) (c : Int) : ByteArray × Bool := if 4000 < s.size then (⟨#[]⟩, false) else if hasB s then (⟨#[]⟩, false) else if 4000 < (sealB s c).size then (⟨#[]⟩, false) else (sealB s c, true)
theorem contains_calls (s : ByteArray) (w : World) : Calls Tryd.prog 60 #[.string s, .string ⟨#[35]⟩] w fun e w' => e = .returned (.bool (hasB s)) ∧ w' = w :=
  Any.strings_Contains_one Tryd.laysContains s 35 w
set_option maxHeartbeats 8000000 in
set_option maxRecDepth 100000 in
theorem append_calls (s : ByteArray) (hs : s.size ≤ 1048576) (k : Nat) (c : Int) (hc : impl_checksum.f k s = some c) (hc0 : 0 ≤ c) (hc1 : c ≤ 999979) (hlen : (Lib.itoa c).length ≤ 1048576) (w : World) (hl : LW w) :
    Calls Tryd.prog 22 #[.string s] w fun e w' => e = .returned (.tuple #[.string (appI s c).1, .bool (appI s c).2]) ∧ Below w.heap.size w w' := by
  have HL := Aside0.mk hl
  have HC := Aside0.mk hc
  have HR := Aside0.mk (And.intro hc0 hc1)
  clear hl hc hc0 hc1
  by_cases h1 : 4000 < s.size
  · have HF := Aside0.mk (show appI s c = (⟨#[]⟩, false) from if_pos h1)
    have h1z : decide (4000 < (s.size : Int)) = true := decide_eq_true (by omega)
    have h1y : decide (4000 < s.size) = true := decide_eq_true h1
    clear hlen hs
    go_enter Tryd.func22, Tryd.ntmps22
    go_wp2
    go_ret2
    exact ⟨by rw [HF.out]; rfl, by repeat (first | exact Below.refl _ _ | apply below_alloc | apply pw_below_drewN | apply below_drew1)⟩
  · have h1z : decide (4000 < (s.size : Int)) = false := decide_eq_false (by omega)
    have h1y : decide (4000 < s.size) = false := decide_eq_false h1
    obtain ⟨b, hb⟩ : ∃ b, hasB s = b := ⟨_, rfl⟩
    have HB := Aside0.mk hb
    cases b with
    | true =>
      have HF := Aside0.mk (show appI s c = (⟨#[]⟩, false) from by unfold appI; rw [if_neg h1, if_pos hb])
      clear hlen hs hb
      go_enter Tryd.func22, Tryd.ntmps22
      go_wp2_with (go_at_call 60; (refine (contains_calls s _).mono ?_); rintro e w1 ⟨rfl, rfl⟩; rw [HB.out])
      go_ret2
      exact ⟨by rw [HF.out]; rfl, by repeat (first | exact Below.refl _ _ | apply below_alloc | apply pw_below_drewN | apply below_drew1)⟩
    | false =>
      have hsz : (s ++ (⟨#[35]⟩ : ByteArray)).size = s.size + 1 := by rw [ByteArray.size_append]; rfl
      have hiz : (⟨(Lib.itoa c).toArray⟩ : ByteArray).size = (Lib.itoa c).length := by show (Lib.itoa c).toArray.size = _; simp
      have hss : (sealB s c).size = s.size + 1 + (⟨(Lib.itoa c).toArray⟩ : ByteArray).size := by unfold sealB; rw [ByteArray.size_append, hsz]
      have hF2 : ¬ 4000 < (sealB s c).size → appI s c = (sealB s c, true) := fun h2 => by unfold appI; rw [if_neg h1, hb, if_neg (by simp), if_neg h2]
      have hF1 : 4000 < (sealB s c).size → appI s c = (⟨#[]⟩, false) := fun h2 => by unfold appI; rw [if_neg h1, hb, if_neg (by simp), if_pos h2]
      have hi0 := fun (W : World) (h : LW W) => itoa_calls c (by have := HR.out.1; omega) (by have := HR.out.2; omega) W h
      unfold sealB at hF1 hF2 hss
      generalize (⟨(Lib.itoa c).toArray⟩ : ByteArray) = t at hF1 hF2 hss hiz hi0
      have HI := Aside0.mk hi0
      have f1 : (9223372036854775807 < s.size + 1) = False := eq_false (by omega)
      have f2 : (9223372036854775807 < s.size + 1 + t.size) = False := eq_false (by omega)
      clear hi0
      by_cases h2 : 4000 < s.size + 1 + t.size
      · have HF := Aside0.mk (hF1 (by rw [hss]; exact h2))
        have g1 : decide (4000 < (s.size : Int) + 1 + (t.size : Int)) = true := decide_eq_true (by omega)
        have g2 : decide (4000 < s.size + 1 + t.size) = true := decide_eq_true h2
        clear hF1 hF2 hss hiz hsz hlen hs hb h1 h2
        go_enter Tryd.func22, Tryd.ntmps22
        go_wp2_with (first | (go_at_call 60; (refine (contains_calls s _).mono ?_); rintro e w1 ⟨rfl, rfl⟩; rw [HB.out]) | (go_at_call 61; (refine (impl_checksum.calls k s c _ HC.out).mono ?_); rintro e w2 ⟨rfl, ⟨nd, rfl⟩⟩) | (go_at_call 54; (refine (HI.out _ (LW.below HL.out (by repeat (first | exact Below.refl _ _ | apply below_alloc | apply pw_below_drewN | apply below_drew1)))).mono ?_); rintro e w3 ⟨rfl, hb3⟩))
        go_ret2
        exact ⟨by rw [HF.out]; rfl, below_chain (by repeat (first | exact Below.refl _ _ | apply below_alloc | apply pw_below_drewN | apply below_drew1)) hb3⟩
      · have HF := Aside0.mk (hF2 (by rw [hss]; exact h2))
        have g1 : decide (4000 < (s.size : Int) + 1 + (t.size : Int)) = false := decide_eq_false (by omega)
        have g2 : decide (4000 < s.size + 1 + t.size) = false := decide_eq_false h2
        clear hF1 hF2 hss hiz hsz hlen hs hb h1 h2
        go_enter Tryd.func22, Tryd.ntmps22
        go_wp2_with (first | (go_at_call 60; (refine (contains_calls s _).mono ?_); rintro e w1 ⟨rfl, rfl⟩; rw [HB.out]) | (go_at_call 61; (refine (impl_checksum.calls k s c _ HC.out).mono ?_); rintro e w2 ⟨rfl, ⟨nd, rfl⟩⟩) | (go_at_call 54; (refine (HI.out _ (LW.below HL.out (by repeat (first | exact Below.refl _ _ | apply below_alloc | apply pw_below_drewN | apply below_drew1)))).mono ?_); rintro e w3 ⟨rfl, hb3⟩))
        go_ret2
        exact ⟨by rw [HF.out]; rfl, below_chain (by repeat (first | exact Below.refl _ _ | apply below_alloc | apply pw_below_drewN | apply below_drew1)) hb3⟩
end Go.Proofs.YtdmbboijcaelcaaDoor.Q

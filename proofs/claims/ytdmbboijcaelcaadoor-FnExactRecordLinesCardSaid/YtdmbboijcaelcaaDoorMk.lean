/- Strings marked and held. -/
import Derived.Test.YtdmbboijcaelcaaDoorQF18
import Derived.Test.YtdmbboijcaelcaaDoorQF19
import Derived.Test.YtdmbboijcaelcaaDoorQF20
namespace Go.Proofs.YtdmbboijcaelcaaDoor.Q
open Go.RowKit Go.Proofs.YtdmbboijcaelcaaDoorW.PrintWords Go.Proofs.YtdmbboijcaelcaaDoorW.PrintLast
set_option linter.unusedVariables false
set_option linter.unusedSimpArgs false
theorem wm64 (i : Nat) (h : i ≤ 4611686018427387904) : wrap64 ((i : Int) + 1) = ((i + 1 : Nat) : Int) := by unfold wrap64; omega
theorem mtext_loop : ∀ (u : Nat) (x : ByteArray), x.size + u ≤ 4611686018427387904 → ∃ t, Ev (fun k => laws_markText.l0 k (u : Int) x) t := by
  intro u
  induction u using Nat.strongRecOn with
  | ind u ih =>
    intro x hx
    by_cases h0 : u = 0
    · subst h0
      refine ⟨(⟨#[109]⟩ : ByteArray) ++ x, Ev.step (fun q => by rw [laws_markText.l0]) ?_⟩
      simp only [show ¬ (((0 : Nat) : Int) > 0) by omega, if_false, show 1 + x.size ≤ 9223372036854775807 by omega, if_true]
      exact Ev.now _
    · have hd : Int.tdiv (u : Int) 10 = ((u / 10 : Nat) : Int) := by
        rw [Int.tdiv_eq_ediv_of_nonneg (by omega)]
        omega
      have hw : wrap64 (((u / 10 : Nat) : Int)) = ((u / 10 : Nat) : Int) := by unfold wrap64; omega
      obtain ⟨y, hy⟩ : ∃ y : List Int, [(wrap64 (48 + (Int.tmod (u : Int) 10))) % 256] = y := ⟨_, rfl⟩
      have hs : (strOfNums y).size = 1 := by rw [← hy]; rfl
      obtain ⟨t, ht⟩ := ih (u / 10) (by omega) (strOfNums y ++ x) (by rw [ByteArray.size_append, hs]; omega)
      refine ⟨t, Ev.step (fun q => by rw [laws_markText.l0]) ?_⟩
      simp only [show (u : Int) > 0 by omega, if_true, Option.bind_some, hy, hs, show 1 + x.size ≤ 9223372036854775807 by omega, hd, hw]
      exact ht
theorem mtext_ev (i : Nat) (hi : i ≤ 1048577) : ∃ t, Ev (fun k => laws_markText.f k (1 + (i : Int))) t := by
  obtain ⟨t, ht⟩ := mtext_loop (1 + i) ⟨#[]⟩ (by show 0 + (1 + i) ≤ _; omega)
  refine ⟨t, ?_⟩
  unfold laws_markText.f
  simp only [show ¬ (1 + (i : Int) ≤ 0) by omega, if_false]
  rw [show ((1 + i : Nat) : Int) = 1 + (i : Int) by omega] at ht
  exact ht
/-- The text of the mark i + 1. -/
noncomputable def mty (i : Nat) : ByteArray := if h : i ≤ 1048577 then (mtext_ev i h).choose else ⟨#[]⟩
theorem mty_ev (i : Nat) (hi : i ≤ 1048577) : Ev (fun k => laws_markText.f k (1 + (i : Int))) (mty i) := by
  unfold mty
  rw [dif_pos hi]
  exact (mtext_ev i hi).choose_spec
noncomputable def mtys (n : Nat) : List ByteArray := (List.range n).map mty
theorem mtys_length (n : Nat) : (mtys n).length = n := by simp [mtys]
theorem mtys_succ (n : Nat) : mtys (n + 1) = mtys n ++ [mty n] := by simp [mtys, List.range_succ]
theorem mtys_get (n i : Nat) (h : i < n) : rdOf ByteArray.empty (mtys n) (i : Int) = mty i := by
  have h2 : i < (mtys n).length := by rw [mtys_length]; exact h
  simp [rdOf, h2, mtys, h]
theorem markSS_held (l : List ByteArray) (hl : l.length ≤ 1048576) : ∃ (q : Int) (my : List ByteArray) (k1 k2 : Nat), 0 ≤ q ∧ my.length = l.length ∧ laws_markStringS.f k1 l 1 = some (q, my) ∧ laws_heldStringS.f k2 my 1 = some q := by
  have key : ∀ d i, l.length - i = d → i ≤ l.length → Ev (fun k => laws_markStringS.l0 k (mtys i ++ l.drop i) (1 + (i : Int)) (i : Int)) (1 + (l.length : Int), mtys l.length) := by
    intro d
    induction d with
    | zero =>
      intro i hd hi
      obtain rfl : i = l.length := by omega
      refine Ev.step (fun k => by rw [laws_markStringS.l0]) ?_
      simp only [List.drop_length, List.append_nil, mtys_length, Int.lt_irrefl, if_false]
      exact Ev.now _
    | succ d ih =>
      intro i hd hi
      have hlt : i < l.length := by omega
      have a2 : (mtys i ++ l.drop i).length = l.length := by rw [List.length_append, mtys_length, List.length_drop]; omega
      have a5 : (mtys i ++ l.drop i).set i (mty i) = mtys (i + 1) ++ l.drop (i + 1) := by
        rw [List.set_append_right _ _ (by rw [mtys_length]; omega), mtys_length, Nat.sub_self, List.drop_eq_getElem_cons hlt, List.set_cons_zero, mtys_succ, List.append_assoc]
        rfl
      refine Ev.step (fun k => by rw [laws_markStringS.l0]) ?_
      have h := ih (i + 1) (by omega) (by omega)
      rw [show 1 + ((i + 1 : Nat) : Int) = 1 + (i : Int) + 1 by omega] at h
      simp only [a2, show (i : Int) < (l.length : Int) by omega, if_true]
      refine Ev.bind (mty_ev i (by omega)) ?_
      simp only [show (0 : Int) ≤ (i : Int) by omega, if_true, Int.toNat_natCast, a5, wm64 i (by omega), show wrap64 (1 + (i : Int) + 1) = 1 + (i : Int) + 1 from by unfold wrap64; omega]
      exact h
  have key2 : ∀ d i, l.length - i = d → i ≤ l.length → Ev (fun k => laws_heldStringS.l0 k (mtys l.length) (1 + (i : Int)) (i : Int)) (1 + (l.length : Int)) := by
    intro d
    induction d with
    | zero =>
      intro i hd hi
      obtain rfl : i = l.length := by omega
      refine Ev.step (fun k => by rw [laws_heldStringS.l0]) ?_
      simp only [mtys_length, Int.lt_irrefl, if_false]
      exact Ev.now _
    | succ d ih =>
      intro i hd hi
      have hlt : i < l.length := by omega
      refine Ev.step (fun k => by rw [laws_heldStringS.l0]) ?_
      have h := ih (i + 1) (by omega) (by omega)
      rw [show 1 + ((i + 1 : Nat) : Int) = 1 + (i : Int) + 1 by omega] at h
      simp only [mtys_length, show (i : Int) < (l.length : Int) by omega, show (0 : Int) ≤ (i : Int) by omega, if_true]
      refine Ev.bind (mty_ev i (by omega)) ?_
      simp only [mtys_get l.length i hlt, if_true, wm64 i (by omega), show wrap64 (1 + (i : Int) + 1) = 1 + (i : Int) + 1 from by unfold wrap64; omega]
      exact h
  obtain ⟨k1, h1⟩ := Ev.rounds (key l.length 0 (by omega) (by omega))
  obtain ⟨k2, h2⟩ := Ev.rounds (key2 l.length 0 (by omega) (by omega))
  refine ⟨1 + (l.length : Int), mtys l.length, k1, k2, by omega, mtys_length _, ?_, ?_⟩
  · unfold laws_markStringS.f
    simpa [mtys] using h1
  · unfold laws_heldStringS.f
    simpa using h2
theorem eqSS_ev (l : List ByteArray) (hl : l.length ≤ 1048576) : ∃ k, laws_eqStringS.f k l l = some true := by
  refine Ev.rounds ?_
  have key : ∀ d i, l.length - i = d → i ≤ l.length → Ev (fun k => laws_eqStringS.l0 k l l (i : Int)) true := by
    intro d
    induction d with
    | zero =>
      intro i hd hi
      obtain rfl : i = l.length := by omega
      refine Ev.step (fun q => by rw [laws_eqStringS.l0]) ?_
      simp only [Int.lt_irrefl, if_false]
      exact Ev.now _
    | succ d ih =>
      intro i hd hi
      have a3 : (i : Int) < (l.length : Int) := by omega
      have a4 : (0 : Int) ≤ (i : Int) := by omega
      refine Ev.step (fun q => by rw [laws_eqStringS.l0]) ?_
      simp only [a3, a4, if_true, wm64 i (by omega)]
      exact ih (i + 1) (by omega) (by omega)
  unfold laws_eqStringS.f
  simp only [if_true]
  exact key l.length 0 (by omega) (by omega)
end Go.Proofs.YtdmbboijcaelcaaDoor.Q

/- Plain facts: lists marked and held; what the law of ParseNumbers wants. -/
import Derived.Test.YtdmbboijcaelcaaDoorPnF
import Derived.Test.YtdmbboijcaelcaaDoorQF33
import Derived.Test.YtdmbboijcaelcaaDoorQF34
namespace Go.Proofs.YtdmbboijcaelcaaDoor.Q
open Go.RowKit Go.Proofs.YtdmbboijcaelcaaDoorW.PrintWords Go.Proofs.YtdmbboijcaelcaaDoorW.PrintLast
set_option linter.unusedVariables false
set_option linter.unusedSimpArgs false
def ints (k : Int) (n : Nat) : List Int := (List.range n).map fun (i : Nat) => k + (i : Int)
theorem ints_length (k : Int) (n : Nat) : (ints k n).length = n := by simp [ints]
theorem ints_succ (k : Int) (n : Nat) : ints k (n + 1) = ints k n ++ [k + (n : Int)] := by simp [ints, List.range_succ]
theorem ints_get (k : Int) (n i : Nat) (h : i < n) : rd (ints k n) (i : Int) = k + (i : Int) := by
  have h2 : i < (ints k n).length := by rw [ints_length]; exact h
  rw [rdn _ i h2]
  simp [ints]
theorem markIntS_held (l : List Int) (hl : l.length ≤ 1048576) : ∃ (q : Int) (my : List Int) (k1 k2 : Nat), 0 ≤ q ∧ my.length = l.length ∧ laws_markIntS.f k1 l 1 = some (q, my) ∧ laws_heldIntS.f k2 my 1 = some q := by
  have key : ∀ d i, l.length - i = d → i ≤ l.length → Ev (fun k => laws_markIntS.l0 k (ints 1 i ++ l.drop i) (1 + (i : Int)) (i : Int)) (1 + (l.length : Int), ints 1 l.length) := by
    intro d
    induction d with
    | zero =>
      intro i hd hi
      obtain rfl : i = l.length := by omega
      refine Ev.step (fun k => by rw [laws_markIntS.l0]) ?_
      simp only [List.drop_length, List.append_nil, ints_length, Int.lt_irrefl, if_false]
      exact Ev.now _
    | succ d ih =>
      intro i hd hi
      have hlt : i < l.length := by omega
      have a2 : (ints 1 i ++ l.drop i).length = l.length := by rw [List.length_append, ints_length, List.length_drop]; omega
      have a5 : (ints 1 i ++ l.drop i).set i (1 + (i : Int)) = ints 1 (i + 1) ++ l.drop (i + 1) := by
        rw [List.set_append_right _ _ (by rw [ints_length]; omega), ints_length, Nat.sub_self, List.drop_eq_getElem_cons hlt, List.set_cons_zero, ints_succ, List.append_assoc]
        rfl
      refine Ev.step (fun k => by rw [laws_markIntS.l0]) ?_
      have h := ih (i + 1) (by omega) (by omega)
      rw [show 1 + ((i + 1 : Nat) : Int) = 1 + (i : Int) + 1 by omega] at h
      simp only [a2, show (i : Int) < (l.length : Int) by omega, show (0 : Int) ≤ (i : Int) by omega, if_true, Int.toNat_natCast, a5, wn64 i (by omega), show wrap64 (1 + (i : Int) + 1) = 1 + (i : Int) + 1 from by unfold wrap64; omega]
      exact h
  have key2 : ∀ d i, l.length - i = d → i ≤ l.length → Ev (fun k => laws_heldIntS.l0 k (ints 1 l.length) (1 + (i : Int)) (i : Int)) (1 + (l.length : Int)) := by
    intro d
    induction d with
    | zero =>
      intro i hd hi
      obtain rfl : i = l.length := by omega
      refine Ev.step (fun k => by rw [laws_heldIntS.l0]) ?_
      simp only [ints_length, Int.lt_irrefl, if_false]
      exact Ev.now _
    | succ d ih =>
      intro i hd hi
      have hlt : i < l.length := by omega
      refine Ev.step (fun k => by rw [laws_heldIntS.l0]) ?_
      have h := ih (i + 1) (by omega) (by omega)
      rw [show 1 + ((i + 1 : Nat) : Int) = 1 + (i : Int) + 1 by omega] at h
      simp only [ints_length, show (i : Int) < (l.length : Int) by omega, show (0 : Int) ≤ (i : Int) by omega, if_true, ints_get 1 l.length i hlt, wn64 i (by omega), show wrap64 (1 + (i : Int) + 1) = 1 + (i : Int) + 1 from by unfold wrap64; omega]
      exact h
  obtain ⟨k1, h1⟩ := Ev.rounds (key l.length 0 (by omega) (by omega))
  obtain ⟨k2, h2⟩ := Ev.rounds (key2 l.length 0 (by omega) (by omega))
  refine ⟨1 + (l.length : Int), ints 1 l.length, k1, k2, by omega, ints_length _ _, ?_, ?_⟩
  · unfold laws_markIntS.f
    simpa [ints] using h1
  · unfold laws_heldIntS.f
    simpa using h2
theorem pnI_len (s : ByteArray) (hs : s.size ≤ 1048576) : (pnI s).1.length ≤ 1048576 := by
  unfold pnI
  have h := cutB_le s commaB (by decide)
  split
  · simp
  · split
    · simp
    · split
      · split
        · split
          · rw [List.length_map]; omega
          · simp
        · simp
      · simp
theorem ParseNumbers_both (s : ByteArray) (hs : s.size ≤ 1048576) : ∃ (l : List Int) (b : Bool) (k1 : Nat), spec_ParseNumbers.f k1 s = some (l, b) ∧ l.length ≤ 1048576 ∧
    ∀ W : World, LW W → EW W → MX W → Calls Tryd.prog 32 #[.string s] W fun e w' => ∃ v, e = .returned (.tuple #[v, .bool b]) ∧ Kd.R (Kd.int .i64) 3 w' W.heap.size (fun _ => True) v l ∧ Below W.heap.size W w' := by
  obtain ⟨k, hk⟩ := parsenums_ev s hs
  exact ⟨(pnI s).1, (pnI s).2, k, hk, pnI_len s hs, fun W h1 h2 h3 => parsenums_calls s hs (fun x hx => by have := piece_le commaB _ s x hx; omega) W h1 h2 h3⟩
end Go.Proofs.YtdmbboijcaelcaaDoor.Q

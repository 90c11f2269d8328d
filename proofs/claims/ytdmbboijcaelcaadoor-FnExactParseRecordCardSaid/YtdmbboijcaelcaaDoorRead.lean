/- Plain facts: a decimal numeral read back. No program is walked here. -/
import Derived.Lib.AtoiTie
import Derived.Lib.ItoaLen
import Derived.Lib.ItoaMem
namespace Go.Proofs.YtdmbboijcaelcaaDoor.Q
open Go.Lib
set_option linter.unusedVariables false
set_option linter.unusedSimpArgs false
theorem decFrom_snoc (b : UInt8) (d : Nat) (hb : digitVal b = some d) : ∀ (l : List UInt8) (acc n : Nat), decFrom acc l = some n → decFrom acc (l ++ [b]) = some (n * 10 + d)
  | [], acc, n, h => by
    simp only [decFrom, Option.some.injEq] at h
    subst h
    simp only [List.nil_append, decFrom, hb]
  | c :: r, acc, n, h => by
    simp only [decFrom, List.cons_append] at h ⊢
    cases hc : digitVal c with
    | none => rw [hc] at h; cases h
    | some x => rw [hc] at h; exact decFrom_snoc b d hb r _ _ h
theorem digit_ok (d : Nat) (h : d < 10) : digitVal (UInt8.ofNat (48 + d)) = some d := by
  match d, h with
  | 0, _ => rfl
  | 1, _ => rfl
  | 2, _ => rfl
  | 3, _ => rfl
  | 4, _ => rfl
  | 5, _ => rfl
  | 6, _ => rfl
  | 7, _ => rfl
  | 8, _ => rfl
  | 9, _ => rfl
theorem decFrom_digits : ∀ u : Nat, decFrom 0 (decDigits u) = some u := by
  intro u
  induction u using Nat.strongRecOn with
  | ind u ih =>
    rw [decDigits]
    split
    · rename_i h
      simp only [decFrom, digit_ok u h]
      simp
    · rename_i h
      rw [decFrom_snoc _ (u % 10) (digit_ok _ (by omega)) _ _ _ (ih (u / 10) (by omega))]
      congr 1
      omega
theorem decDigits_ne (u : Nat) : decDigits u ≠ [] := by
  rw [decDigits]
  split <;> simp
theorem decNat_digits (u : Nat) : decNat (decDigits u) = some u := by
  unfold decNat
  have h := decDigits_ne u
  cases hd : decDigits u with
  | nil => exact absurd hd h
  | cons b r =>
    have := decFrom_digits u
    rw [hd] at this
    exact this
theorem decDigits_digit : ∀ (u : Nat) (b : UInt8), b ∈ decDigits u → 48 ≤ b.toNat ∧ b.toNat ≤ 57 := by
  intro u b hb
  obtain ⟨k, hk⟩ := List.getElem?_of_mem hb
  obtain ⟨d, hd⟩ := digit_of_decFrom _ 0 u (decFrom_digits u) k b hk
  have := digitVal_eq hd
  omega
theorem atoi_itoa (n : Int) : atoi (itoa n) = some n := by
  unfold itoa
  by_cases h : n < 0
  · rw [if_pos h]
    simp only [atoi, beq_self_eq_true, if_true, decNat_digits, Option.map_some]
    congr 1
    omega
  · rw [if_neg h]
    have hn := decNat_digits n.toNat
    have hdg := decDigits_digit n.toNat
    cases hd : decDigits n.toNat with
    | nil => exact absurd hd (decDigits_ne _)
    | cons b r =>
      rw [hd] at hn hdg
      have h1 := hdg b (by simp)
      have h2 : (b == 45) = false := beq_eq_false_iff_ne.2 (fun e => by subst e; simp at h1)
      have h3 : (b == 43) = false := beq_eq_false_iff_ne.2 (fun e => by subst e; simp at h1)
      simp only [atoi, h2, h3, hn, Option.map_some, Bool.false_eq_true, if_false]
      congr 1
      omega
/-- How many digits. -/
theorem decDigits_len : ∀ (k u : Nat), u < 10 ^ (k + 1) → (decDigits u).length ≤ k + 1
  | 0, u, h => by
    rw [decDigits, dif_pos (by omega)]
    simp
  | k + 1, u, h => by
    rw [decDigits]
    split
    · simp
    · have := decDigits_len k (u / 10) (by rw [Nat.pow_succ] at h; omega)
      rw [List.length_append, List.length_singleton]
      omega
theorem itoa_len7 (n : Int) (h1 : -999999 ≤ n) (h2 : n ≤ 999999) : (itoa n).length ≤ 7 := by
  unfold itoa
  split
  · have := decDigits_len 5 n.natAbs (by omega)
    simp only [List.length_cons]
    omega
  · have := decDigits_len 5 n.toNat (by omega)
    omega
theorem itoa_inj {m n : Int} (h : itoa m = itoa n) : m = n := by
  have h1 := atoi_itoa m
  rw [h, atoi_itoa n] at h1
  exact (Option.some.inj h1).symm
theorem atoiAll_itoa (n : Int) (h1 : -999999 ≤ n) (h2 : n ≤ 999999) : atoiAll (itoa n) = .ok n := by
  rw [atoiAll_short _ (by have := itoa_len7 n h1 h2; omega), atoi_itoa]
  rfl
/-- What a text reads as: the number within the bounds whose numeral it is. -/
def readL (l : List UInt8) : Int × Bool := match atoi l with
  | some n => if -999999 ≤ n ∧ n ≤ 999999 ∧ itoa n = l then (n, true) else (0, false)
  | none => (0, false)
theorem readL_itoa (n : Int) (h1 : -999999 ≤ n) (h2 : n ≤ 999999) : readL (itoa n) = (n, true) := by
  unfold readL
  rw [atoi_itoa]
  simp [h1, h2]
theorem readL_hit {l : List UInt8} {n : Int} (h1 : -999999 ≤ n) (h2 : n ≤ 999999) (h : itoa n = l) : readL l = (n, true) := by
  rw [← h]; exact readL_itoa n h1 h2
theorem readL_miss {l : List UInt8} (h : ∀ n, -999999 ≤ n → n ≤ 999999 → itoa n ≠ l) : readL l = (0, false) := by
  unfold readL
  cases ha : atoi l with
  | none => rfl
  | some n => exact if_neg (fun hh => h n hh.1 hh.2.1 hh.2.2)
theorem readL_cases (l : List UInt8) : (∃ n, -999999 ≤ n ∧ n ≤ 999999 ∧ itoa n = l ∧ readL l = (n, true)) ∨ (readL l = (0, false) ∧ ∀ n, -999999 ≤ n → n ≤ 999999 → itoa n ≠ l) := by
  by_cases h : ∃ n, -999999 ≤ n ∧ n ≤ 999999 ∧ itoa n = l
  · obtain ⟨n, h1, h2, h3⟩ := h
    exact .inl ⟨n, h1, h2, h3, readL_hit h1 h2 h3⟩
  · have h' : ∀ n, -999999 ≤ n → n ≤ 999999 → itoa n ≠ l := fun n h1 h2 h3 => h ⟨n, h1, h2, h3⟩
    exact .inr ⟨readL_miss h', h'⟩
theorem readL_fell {l : List UInt8} (h : ∀ v, atoiAll l ≠ .ok v) : readL l = (0, false) :=
  readL_miss fun n h1 h2 e => h n (by rw [← e]; exact atoiAll_itoa n h1 h2)
theorem readL_other {l : List UInt8} {v : Int} (hv : atoiAll l = .ok v) (h : ¬ (-999999 ≤ v ∧ v ≤ 999999 ∧ itoa v = l)) : readL l = (0, false) :=
  readL_miss fun n h1 h2 e => by
    have h3 := atoiAll_itoa n h1 h2
    rw [e, hv] at h3
    injection h3 with h3
    subst h3
    exact h ⟨h1, h2, e⟩
end Go.Proofs.YtdmbboijcaelcaaDoor.Q

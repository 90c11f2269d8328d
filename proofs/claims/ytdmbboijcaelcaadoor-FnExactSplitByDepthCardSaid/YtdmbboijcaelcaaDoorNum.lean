/- Plain facts: the reference's numeral is the library's. No program is walked here. -/
import Derived.Test.YtdmbboijcaelcaaDoorFmt
namespace Go.Proofs.YtdmbboijcaelcaaDoor.Q
open Go.RowKit Go.Proofs.YtdmbboijcaelcaaDoorW.PrintWords Go.Proofs.YtdmbboijcaelcaaDoorW.PrintLast
set_option linter.unusedVariables false
theorem dig_len : ∀ u : Nat, (Lib.decDigits u).length ≤ u + 1 := by
  intro u
  induction u using Nat.strongRecOn with
  | ind u ih =>
    rw [Lib.decDigits]
    split
    · simp
    · rename_i h
      have := ih (u / 10) (by omega)
      rw [List.length_append, List.length_singleton]
      omega
theorem cut_digit (d : Nat) (h : d < 10) : (⟨#[48, 49, 50, 51, 52, 53, 54, 55, 56, 57]⟩ : ByteArray).extract d (d + 1) = ⟨([UInt8.ofNat (48 + d)] : List UInt8).toArray⟩ := by
  match d, h with
  | 0, _ => rfl
  | 1, _ => rfl
  | 2, _ => rfl
  | 3, _ => rfl
  | 4, _ => rfl
  | 5, _ => rfl
  | 6, _ => rfl
  | 7, _ => rfl
  | 8, _ => rfl
  | 9, _ => rfl
theorem ba_append (a b : List UInt8) : (⟨a.toArray⟩ : ByteArray) ++ ⟨b.toArray⟩ = ⟨(a ++ b).toArray⟩ := by
  apply ByteArray.ext
  simp
theorem ba_size (a : List UInt8) : (⟨a.toArray⟩ : ByteArray).size = a.length := by
  show a.toArray.size = a.length
  simp
theorem dig_ev : ∀ u : Nat, u ≤ 999999 → Ev (fun k => spec_l1Num.f k (u : Int)) ⟨(Lib.decDigits u).toArray⟩ := by
  intro u
  induction u using Nat.strongRecOn with
  | ind u ih =>
    intro hu
    have h0 : ¬ (u : Int) < 0 := by omega
    refine Ev.step (fun q => by rw [spec_l1Num.f]) ?_
    by_cases h10 : u < 10
    · have e1 : wrap64 ((u : Int) + 1) = ((u + 1 : Nat) : Int) := by unfold wrap64; omega
      have hc := cut_digit u h10
      rw [Lib.decDigits, dif_pos h10]
      simp only [h0, if_false, show (u : Int) < 10 by omega, if_true, show (0 : Int) ≤ (u : Int) by omega, e1, show (u : Int) ≤ ((u + 1 : Nat) : Int) by omega, show ((u + 1 : Nat) : Int) ≤ 10 by omega, Int.toNat_natCast, hc]
      exact Ev.now _
    · have ed : Int.tdiv (u : Int) 10 = ((u / 10 : Nat) : Int) := by
        rw [Int.tdiv_eq_ediv_of_nonneg (by omega)]
        omega
      have em : Int.tmod (u : Int) 10 = ((u % 10 : Nat) : Int) := by
        rw [Int.tmod_eq_emod_of_nonneg (by omega)]
        omega
      have ew : wrap64 ((u / 10 : Nat) : Int) = ((u / 10 : Nat) : Int) := by unfold wrap64; omega
      have e1 : wrap64 (((u % 10 : Nat) : Int) + 1) = ((u % 10 + 1 : Nat) : Int) := by unfold wrap64; omega
      have hc := cut_digit (u % 10) (by omega)
      have hl := dig_len (u / 10)
      have hd : Lib.decDigits u = Lib.decDigits (u / 10) ++ [UInt8.ofNat (48 + u % 10)] := by
        rw [Lib.decDigits, dif_neg h10]
      rw [hd]
      simp only [h0, if_false, show ¬ (u : Int) < 10 by omega, ed, em, ew, e1]
      refine Ev.bind (ih (u / 10) (by omega) (by omega)) ?_
      simp only [show (0 : Int) ≤ ((u % 10 : Nat) : Int) by omega, if_true, show ((u % 10 : Nat) : Int) ≤ ((u % 10 + 1 : Nat) : Int) by omega, show ((u % 10 + 1 : Nat) : Int) ≤ 10 by omega, Int.toNat_natCast, hc, ba_size, List.length_singleton, show (Lib.decDigits (u / 10)).length + 1 ≤ 9223372036854775807 by omega, ba_append]
      exact Ev.now _
theorem num_ev (n : Int) (h1 : -999999 ≤ n) (h2 : n ≤ 999999) : Ev (fun k => spec_l1Num.f k n) ⟨(Lib.itoa n).toArray⟩ := by
  unfold Lib.itoa
  by_cases h : n < 0
  · rw [if_pos h]
    obtain ⟨u, hu⟩ : ∃ u : Nat, n.natAbs = u := ⟨_, rfl⟩
    have ew : wrap64 (-n) = (u : Int) := by unfold wrap64; omega
    have hl := dig_len u
    rw [hu]
    refine Ev.step (fun q => by rw [spec_l1Num.f]) ?_
    simp only [h, if_true, ew]
    refine Ev.bind (dig_ev u (by omega)) ?_
    simp only [ba_size, show 1 + (Lib.decDigits u).length ≤ 9223372036854775807 by omega, if_true]
    rw [show (⟨#[45]⟩ : ByteArray) = ⟨([45] : List UInt8).toArray⟩ from rfl, ba_append]
    exact Ev.now _
  · rw [if_neg h]
    obtain ⟨u, hu⟩ : ∃ u : Nat, n.toNat = u := ⟨_, rfl⟩
    have hn : n = (u : Int) := by omega
    rw [hu, hn]
    exact dig_ev u (by omega)
theorem format_ev (n : Int) : ∃ k, spec_FormatInt.f k n = some (fmtI n) := by
  refine Ev.rounds ?_
  unfold spec_FormatInt.f fmtI
  simp only [l1In_eq, Option.bind_some]
  by_cases h : -999999 ≤ n ∧ n ≤ 999999
  · rw [if_pos h]
    simp only [show (decide (-999999 ≤ n) && decide (n ≤ 999999)) = true by simp [h], if_true]
    refine Ev.bind (num_ev n h.1 h.2) ?_
    exact Ev.now _
  · rw [if_neg h]
    simp only [show (decide (-999999 ≤ n) && decide (n ≤ 999999)) = false by simpa using h, Bool.false_eq_true, if_false]
    exact Ev.now _
end Go.Proofs.YtdmbboijcaelcaaDoor.Q

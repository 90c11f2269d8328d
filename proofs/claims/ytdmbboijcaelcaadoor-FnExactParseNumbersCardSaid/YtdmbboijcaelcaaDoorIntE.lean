/- Plain facts: the reference reads a numeral as the program does. No program is walked here. -/
import Derived.Test.YtdmbboijcaelcaaDoorInt
import Derived.Test.YtdmbboijcaelcaaDoorAppNum
import Derived.Test.YtdmbboijcaelcaaDoorQF68
import Derived.Lib.IndexBytes
namespace Go.Proofs.YtdmbboijcaelcaaDoor.Q
open Go.RowKit Go.Proofs.YtdmbboijcaelcaaDoorW.PrintWords Go.Proofs.YtdmbboijcaelcaaDoorW.PrintLast
set_option linter.unusedVariables false
set_option linter.unusedSimpArgs false
/-- How the reference ends. -/
def finR (s t : ByteArray) : Option Nat → Int × Bool
  | none => (0, false)
  | some m => if t.size < s.size then (if Lib.itoa (-(m : Int)) = s.data.toList then (-(m : Int), true) else (0, false)) else (if Lib.itoa (m : Int) = s.data.toList then ((m : Int), true) else (0, false))
theorem read_loop (s t : ByteArray) (ht : t.size ≤ 6) (hs : s.size ≤ 1048576) : ∀ d i (n : Nat), t.size - i = d → i ≤ t.size → n + 1 ≤ 10 ^ i → Ev (fun k => spec_l1Read.l0 k s t (n : Int) (i : Int)) (finR s t (Lib.decFrom n (t.data.toList.drop i))) := by
  have hl : t.data.toList.length = t.size := by simp
  intro d
  induction d with
  | zero =>
    intro i n hd hi hn
    obtain rfl : i = t.size := by omega
    have hp : 10 ^ t.size ≤ 10 ^ 6 := Nat.pow_le_pow_right (by omega) ht
    refine Ev.step (fun q => by rw [spec_l1Read.l0]) ?_
    rw [List.drop_of_length_le (by omega), Lib.decFrom]
    simp only [Int.lt_irrefl, if_false]
    unfold finR
    by_cases h : t.size < s.size
    · simp only [show (t.size : Int) < (s.size : Int) by omega, h, if_true]
      rw [show wrap64 (-(n : Int)) = -(n : Int) by unfold wrap64; omega]
      refine Ev.bind (num_ev (-(n : Int)) (by omega) (by omega)) ?_
      simp only [toList_mk]
      by_cases h2 : Lib.itoa (-(n : Int)) = s.data.toList
      · simp only [h2, if_true]; exact Ev.now _
      · simp only [h2, if_false]; exact Ev.now _
    · simp only [show ¬ (t.size : Int) < (s.size : Int) by omega, h, if_false]
      refine Ev.bind (num_ev (n : Int) (by omega) (by omega)) ?_
      simp only [toList_mk]
      by_cases h2 : Lib.itoa (n : Int) = s.data.toList
      · simp only [h2, if_true]; exact Ev.now _
      · simp only [h2, if_false]; exact Ev.now _
  | succ d ih =>
    intro i n hd hi hn
    have hlt : i < t.size := by omega
    have a3 : (i : Int) < (t.size : Int) := by omega
    have a4 : (0 : Int) ≤ (i : Int) := by omega
    have hp : 10 ^ i ≤ 10 ^ 6 := Nat.pow_le_pow_right (by omega) (by omega)
    have hd2 : t.data.toList.drop i = t.data.toList[i]'(by omega) :: t.data.toList.drop (i + 1) := List.drop_eq_getElem_cons (by omega)
    refine Ev.step (fun q => by rw [spec_l1Read.l0]) ?_
    simp only [a3, a4, if_true, bt_nat t i hlt]
    rw [hd2]
    generalize t.data.toList[i]'(by omega) = b
    have hb := UInt8.toNat_lt b
    rw [Lib.decFrom, Lib.digitVal]
    by_cases h1 : b.toNat < 48
    · simp only [show (b.toNat : Int) < 48 by omega, if_true]
      rw [if_neg (by omega)]
      exact Ev.now _
    · simp only [show ¬ (b.toNat : Int) < 48 by omega, if_false]
      by_cases h2 : 57 < b.toNat
      · simp only [show (b.toNat : Int) > 57 by omega, if_true]
        rw [if_neg (by omega)]
        exact Ev.now _
      · simp only [show ¬ (b.toNat : Int) > 57 by omega, if_false]
        rw [if_pos (by omega)]
        have g1 : n * 10 + (b.toNat - 48) + 1 ≤ 10 ^ (i + 1) := by rw [Nat.pow_succ]; omega
        have g2 := w64 i (by omega)
        have g3 := ih (i + 1) (n * 10 + (b.toNat - 48)) (by clear g2; omega) (by clear g2; omega) g1
        rw [g2]
        clear g2 ih
        have e2 : ((b.toNat : Int) - 48) % 256 = ((b.toNat - 48 : Nat) : Int) := by omega
        rw [e2, show wrap64 (10 * (n : Int)) = 10 * (n : Int) from by clear g3 e2; unfold wrap64; omega, show wrap64 (10 * (n : Int) + ((b.toNat - 48 : Nat) : Int)) = ((n * 10 + (b.toNat - 48) : Nat) : Int) from by clear g3 e2; unfold wrap64; omega]
        exact g3
theorem read_j1 (s t : ByteArray) (hs : s.size ≤ 1048576) (ht : t.size ≤ s.size) : Ev (fun k => spec_l1Read.j1 k s t) (if 1 ≤ t.size ∧ t.size ≤ 6 then finR s t (Lib.decFrom 0 t.data.toList) else (0, false)) := by
  refine Ev.step (fun q => by rw [spec_l1Read.j1]) ?_
  simp only [l1In_eq, Option.bind_some]
  by_cases h : 1 ≤ t.size ∧ t.size ≤ 6
  · rw [if_pos h]
    simp only [show (decide ((1 : Int) ≤ (t.size : Int)) && decide ((t.size : Int) ≤ 6)) = true by simp; omega, if_true]
    have h2 := read_loop s t h.2 hs t.size 0 0 (by omega) (by omega) (by simp)
    exact h2
  · rw [if_neg h]
    simp only [show (decide ((1 : Int) ≤ (t.size : Int)) && decide ((t.size : Int) ≤ 6)) = false by (rw [Bool.and_eq_false_iff]; simp only [decide_eq_false_iff_not]; omega), Bool.false_eq_true, if_false]
    exact Ev.now _
/-- The part that the reference reads. -/
def bodyR (s : ByteArray) : ByteArray := if 1 < s.size ∧ bt s 0 = 45 then s.extract 1 s.size else s
theorem read_body (s : ByteArray) (hs : s.size ≤ 1048576) : Ev (fun k => spec_l1Read.f k s) (if 1 ≤ (bodyR s).size ∧ (bodyR s).size ≤ 6 then finR s (bodyR s) (Lib.decFrom 0 (bodyR s).data.toList) else (0, false)) := by
  unfold spec_l1Read.f
  by_cases h1 : 1 < s.size
  · simp only [show (s.size : Int) > 1 by omega, if_true, show (0 : Int) < (s.size : Int) by omega]
    refine Ev.step (fun q => by rw [spec_l1Read.j0]) ?_
    by_cases h2 : bt s 0 = 45
    · rw [show bodyR s = s.extract 1 s.size from if_pos ⟨h1, h2⟩]
      simp only [h2, beq_self_eq_true, if_true, show (1 : Int) ≤ (s.size : Int) by omega]
      exact read_j1 s _ hs (by rw [ByteArray.size_extract]; omega)
    · rw [show bodyR s = s from if_neg (fun h => h2 h.2)]
      simp only [show (bt s 0 == 45) = false from beq_eq_false_iff_ne.2 h2, Bool.false_eq_true, if_false]
      exact read_j1 s s hs (Nat.le_refl _)
  · rw [show bodyR s = s from if_neg (fun h => h1 h.1)]
    simp only [show ¬ (s.size : Int) > 1 by omega, if_false]
    refine Ev.step (fun q => by rw [spec_l1Read.j0]) ?_
    simp only [Bool.false_eq_true, if_false]
    exact read_j1 s s hs (Nat.le_refl _)
theorem decNat_from {l : List UInt8} {u : Nat} (h : Lib.decNat l = some u) : Lib.decFrom 0 l = some u := (Lib.decNat_some h).2
theorem read_ev (s : ByteArray) (hs : s.size ≤ 1048576) : Ev (fun k => spec_l1Read.f k s) (readL s.data.toList) := by
  have h := read_body s hs
  have hl : s.data.toList.length = s.size := by simp
  suffices he : (if 1 ≤ (bodyR s).size ∧ (bodyR s).size ≤ 6 then finR s (bodyR s) (Lib.decFrom 0 (bodyR s).data.toList) else (0, false)) = readL s.data.toList by rw [← he]; exact h
  clear h
  rcases readL_cases s.data.toList with ⟨n, h1, h2, h3, h4⟩ | ⟨h4, h5⟩
  · rw [h4]
    by_cases hn : n < 0
    · obtain ⟨u, hu⟩ : ∃ u : Nat, n.natAbs = u := ⟨_, rfl⟩
      have hnu : n = -(u : Int) := by omega
      have hd := decDigits_len 5 u (by omega)
      have hne := decDigits_ne u
      have hl3 : s.data.toList = 45 :: Lib.decDigits u := by rw [← h3]; unfold Lib.itoa; rw [if_pos hn, hu]
      have hpos : 1 ≤ (Lib.decDigits u).length := by
        cases hq : Lib.decDigits u with
        | nil => exact absurd hq hne
        | cons _ _ => simp
      have hsz : s.size = (Lib.decDigits u).length + 1 := by rw [← hl, hl3, List.length_cons]
      have hb0 : bt s 0 = 45 := by
        have := bt_nat s 0 (by omega)
        rw [show ((0 : Nat) : Int) = 0 from rfl] at this
        rw [this]
        have : s.data.toList[0]'(by omega) = 45 := by simp [hl3]
        rw [this]
        rfl
      have hbd : bodyR s = s.extract 1 s.size := if_pos ⟨by omega, hb0⟩
      have hbl : (bodyR s).data.toList = Lib.decDigits u := by rw [hbd, Lib.extract_to_end, hl3]; rfl
      have hbs : (bodyR s).size = (Lib.decDigits u).length := by rw [← hbl]; simp
      rw [if_pos (by omega), hbl, decFrom_digits]
      unfold finR
      simp only
      rw [if_pos (by omega), if_pos (by rw [← hnu]; exact h3), hnu]
    · obtain ⟨u, hu⟩ : ∃ u : Nat, n.toNat = u := ⟨_, rfl⟩
      have hnu : n = (u : Int) := by omega
      have hd := decDigits_len 5 u (by omega)
      have hne := decDigits_ne u
      have hl3 : s.data.toList = Lib.decDigits u := by rw [← h3]; unfold Lib.itoa; rw [if_neg hn, hu]
      have hpos : 1 ≤ (Lib.decDigits u).length := by
        cases hq : Lib.decDigits u with
        | nil => exact absurd hq hne
        | cons _ _ => simp
      have hsz : s.size = (Lib.decDigits u).length := by rw [← hl, hl3]
      have hb0 : ¬ bt s 0 = 45 := by
        have := bt_nat s 0 (by omega)
        rw [show ((0 : Nat) : Int) = 0 from rfl] at this
        rw [this]
        have hm : s.data.toList[0]'(by omega) ∈ Lib.decDigits u := by rw [← hl3]; exact List.getElem_mem _
        have := decDigits_digit u _ hm
        omega
      have hbd : bodyR s = s := if_neg (fun h => hb0 h.2)
      rw [hbd, if_pos (by omega), hl3, decFrom_digits]
      unfold finR
      simp only
      rw [if_neg (by omega), if_pos (by rw [← hnu]; exact h3), hnu]
  · rw [h4]
    split
    · rename_i hb
      cases hd : Lib.decFrom 0 (bodyR s).data.toList with
      | none => rfl
      | some m =>
        have hm := Lib.decFrom_lt _ _ _ hd
        have hlen : (bodyR s).data.toList.length = (bodyR s).size := by simp
        have hp : 10 ^ (bodyR s).data.toList.length ≤ 10 ^ 6 := Nat.pow_le_pow_right (by omega) (by omega)
        unfold finR
        simp only
        split
        · exact if_neg (h5 _ (by omega) (by omega))
        · exact if_neg (h5 _ (by omega) (by omega))
    · rfl
end Go.Proofs.YtdmbboijcaelcaaDoor.Q

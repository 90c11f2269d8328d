/- Plain facts: the reference's cut text is 'spl'. No program is walked here. -/
import Derived.Test.YtdmbboijcaelcaaDoorSpl
import Derived.Test.YtdmbboijcaelcaaDoorAppNum
import Derived.Test.YtdmbboijcaelcaaDoorQF55
import Derived.Lib.IndexBytes
namespace Go.Proofs.YtdmbboijcaelcaaDoor.Q
open Go.RowKit Go.Proofs.YtdmbboijcaelcaaDoorW.PrintWords Go.Proofs.YtdmbboijcaelcaaDoorW.PrintLast
set_option linter.unusedVariables false
set_option linter.unusedSimpArgs false
def toB (l : List (List UInt8)) : List ByteArray := l.map fun x => ⟨x.toArray⟩
theorem toB_cons (x : List UInt8) (l : List (List UInt8)) : toB (x :: l) = ⟨x.toArray⟩ :: toB l := rfl
theorem toB_length (l : List (List UInt8)) : (toB l).length = l.length := by simp [toB]
theorem ba_of (s : ByteArray) (l : List UInt8) (h : s.data.toList = l) : s = ⟨l.toArray⟩ := by subst h; cases s; simp
theorem cut_of (s : ByteArray) (a b : Nat) : s.extract a b = ⟨((s.data.toList.drop a).take (b - a)).toArray⟩ := ba_of _ _ (by
  rw [← Lib.extract_toList, Lib.toList_data])
theorem cut_end (s : ByteArray) (a : Nat) : s.extract a s.size = ⟨(s.data.toList.drop a).toArray⟩ := ba_of _ _ (Lib.extract_to_end s a)
theorem split_key (s : ByteArray) (c : UInt8) (hs : s.size ≤ 1048576) : ∀ d i from_ (out : List ByteArray), s.size - i = d → from_ ≤ i → i ≤ s.size → out.length ≤ i →
    Ev (fun k => spec_l1Split.l0 k s (c.toNat : Int) out (from_ : Int) (i : Int)) (out ++ toB (pre ((s.data.toList.drop from_).take (i - from_)) (spl c (s.data.toList.drop i)))) := by
  have hl : s.data.toList.length = s.size := by simp
  intro d
  induction d with
  | zero =>
    intro i fr out hd hf hi ho
    obtain rfl : i = s.size := by omega
    refine Ev.step (fun q => by rw [spec_l1Split.l0]) ?_
    rw [List.drop_of_length_le (l := s.data.toList) (i := s.size) (by omega), List.take_of_length_le (by rw [List.length_drop]; omega)]
    simp only [Int.lt_irrefl, if_false, show (0 : Int) ≤ (fr : Int) by omega, if_true, show (fr : Int) ≤ (s.size : Int) by omega, show out.length < 8796093022208 by omega, Int.toNat_natCast, cut_end, spl, pre, List.append_nil]
    exact Ev.now _
  | succ d ih =>
    intro i fr out hd hf hi ho
    have hlt : i < s.size := by omega
    have a3 : (i : Int) < (s.size : Int) := by omega
    have a4 : (0 : Int) ≤ (i : Int) := by omega
    have hd2 : s.data.toList.drop i = s.data.toList[i]'(by omega) :: s.data.toList.drop (i + 1) := List.drop_eq_getElem_cons (by omega)
    refine Ev.step (fun q => by rw [spec_l1Split.l0]) ?_
    simp only [a3, a4, if_true, bt_nat s i hlt]
    rw [hd2]
    by_cases h : s.data.toList[i]'(by omega) = c
    · rw [h, spl, if_pos rfl, pre, List.append_nil, toB_cons]
      simp only [if_true, show (0 : Int) ≤ (fr : Int) by omega, show (fr : Int) ≤ (i : Int) by omega, show (i : Int) ≤ (s.size : Int) by omega, show out.length < 8796093022208 by omega, Int.toNat_natCast, w64 i (by omega), cut_of]
      have h2 := ih (i + 1) (i + 1) (out ++ [⟨((s.data.toList.drop fr).take (i - fr)).toArray⟩]) (by omega) (Nat.le_refl _) (by omega) (by rw [List.length_append, List.length_singleton]; omega)
      rw [Nat.sub_self, List.take_zero, pre_nil (spl_ne _ _), List.append_assoc] at h2
      exact h2
    · have h2 : ¬ ((s.data.toList[i]'(by omega)).toNat : Int) = (c.toNat : Int) := fun e => h (UInt8.toNat_inj.1 (by omega))
      simp only [h2, if_false, w64 i (by omega)]
      have h3 := ih (i + 1) fr out (by omega) (by omega) (by omega) (by omega)
      have ht : (s.data.toList.drop fr).take (i + 1 - fr) = (s.data.toList.drop fr).take (i - fr) ++ [s.data.toList[i]'(by omega)] := by
        have hlen : i - fr < (s.data.toList.drop fr).length := by rw [List.length_drop]; omega
        rw [show i + 1 - fr = (i - fr) + 1 by omega, List.take_succ_eq_append_getElem hlen, List.getElem_drop]
        congr 3
        omega
      rw [spl, if_neg h, pre_pre]
      rw [ht] at h3
      exact h3
theorem split_ev (s : ByteArray) (c : UInt8) (hs : s.size ≤ 1048576) : Ev (fun k => spec_l1Split.f k s (c.toNat : Int)) (toB (spl c s.data.toList)) := by
  have h := split_key s c hs s.size 0 0 [] (by omega) (Nat.le_refl _) (by omega) (by simp)
  unfold spec_l1Split.f
  simpa [pre_nil (spl_ne _ _)] using h
/-- The first piece, and where it ends. -/
theorem spl_head (c : UInt8) (l : List UInt8) : (Lib.indexByte l c = -1 ∧ spl c l = [l]) ∨ (∃ i : Nat, Lib.indexByte l c = i ∧ i < l.length ∧ c ∉ l.take i ∧ spl c l = l.take i :: spl c (l.drop (i + 1))) := by
  have hge := Lib.indexByte_ge l c
  by_cases h : Lib.indexByte l c = -1
  · refine .inl ⟨h, spl_not c l (fun hm => ?_)⟩
    obtain ⟨k, hk⟩ := List.getElem?_of_mem hm
    exact Lib.indexByte_none h k hk
  · obtain ⟨i, hi⟩ : ∃ i : Nat, Lib.indexByte l c = i := ⟨(Lib.indexByte l c).toNat, by omega⟩
    obtain ⟨h1, h2⟩ := Lib.indexByte_some hi
    obtain ⟨hlt, hx⟩ := List.getElem?_eq_some_iff.1 h1
    have hn : c ∉ l.take i := fun hm => by
      obtain ⟨k, hk⟩ := List.getElem?_of_mem hm
      rw [List.getElem?_take] at hk
      split at hk
      · rename_i hki
        exact h2 k hki hk
      · cases hk
    refine .inr ⟨i, hi, hlt, hn, ?_⟩
    have e : l = l.take i ++ c :: l.drop (i + 1) := by
      rw [← hx, ← List.drop_eq_getElem_cons hlt, List.take_append_drop]
    have h3 := spl_cat c (l.drop (i + 1)) (l.take i) hn
    rw [← e] at h3
    exact h3
end Go.Proofs.YtdmbboijcaelcaaDoor.Q

-- Written by a program of this session (wip/xprint.py over the kit's printer).
import Derived.Test.YtlbkoejpjpcgaaaQ0
import Derived.Test.YtlbkoejpjpcgaaaQLBBaseB
import Derived.Test.YtlbkoejpjpcgaaaQM0
namespace Go.Proofs.Ytlbkoejpjpcgaaa.Q
open Go.RowKit Go.Proofs.YtlbkoejpjpcgaaaW.PrintWords Go.Proofs.YtlbkoejpjpcgaaaW.PrintLast
set_option linter.unusedVariables false
set_option linter.unusedSimpArgs false

/-! ### LB BaseMark -/
namespace LB
theorem markC_l0 : ∀ (d : Nat) (st : List S108) (k : Int) (i : Nat), st.length - i = d → i ≤ st.length → st.length ≤ 1048576 → 0 ≤ k → k + 2 * d ≤ 4611686018427387904 → ∃ st', Ev (fun q => laws_markContextS.l0 q st k (i : Int)) (k + 2 * d, st') := by
  intro d
  induction d with
  | zero =>
    intro st k i hd hi hl h0 h1
    obtain rfl : i = st.length := by omega
    refine ⟨st, Ev.step (fun q => by rw [laws_markContextS.l0]) ?_⟩
    simp only [Int.lt_irrefl, if_false]
    rw [show k + 2 * ((0 : Nat) : Int) = k by omega]
    exact Ev.now _
  | succ d ih =>
    intro st k i hd hi hl h0 h1
    have a1 : wrap64 (k + 1) = k + 1 := by unfold wrap64; omega
    have a2 : wrap64 (k + 1 + 1) = k + 2 := by unfold wrap64; omega
    have a3 : (i : Int) < (st.length : Int) := by omega
    have a4 : (0 : Int) ≤ (i : Int) := by omega
    obtain ⟨st', h⟩ := ih (((st.set i ⟨k, (rd_T108 st (i : Int)).f1⟩).set i ⟨(rd_T108 (st.set i ⟨k, (rd_T108 st (i : Int)).f1⟩) (i : Int)).f0, k + 1⟩)) (k + 2) (i + 1) (by simp only [List.length_set]; omega) (by simp only [List.length_set]; omega) (by simp only [List.length_set]; omega) (by omega) (by omega)
    refine ⟨st', Ev.step (fun q => by rw [laws_markContextS.l0]) ?_⟩
    simp only [a1, a2, a3, a4, if_true, Option.bind_some, Int.toNat_natCast, w64 i (by omega)]
    rw [show k + 2 * ((d + 1 : Nat) : Int) = k + 2 + 2 * (d : Int) by omega]
    exact h
theorem markC_ev (st : List S108) (k : Int) (hl : st.length ≤ 1048576) (h0 : 0 ≤ k) (h1 : k ≤ 1099511627776) : ∃ m st', 0 ≤ m ∧ m ≤ k + 2097152 ∧ Ev (fun q => laws_markContextS.f q st k) (m, st') := by
  obtain ⟨st', h⟩ := markC_l0 st.length st k 0 (by omega) (by omega) hl h0 (by omega)
  exact ⟨k + 2 * (st.length : Int), st', by omega, by omega, h⟩
theorem markR_l0 : ∀ (d : Nat) (st : List S100) (k : Int) (i : Nat), st.length - i = d → i ≤ st.length → st.length ≤ 1048576 → 0 ≤ k → k + 2 * d ≤ 4611686018427387904 → ∃ st', Ev (fun q => laws_markRelationS.l0 q st k (i : Int)) (k + 2 * d, st') := by
  intro d
  induction d with
  | zero =>
    intro st k i hd hi hl h0 h1
    obtain rfl : i = st.length := by omega
    refine ⟨st, Ev.step (fun q => by rw [laws_markRelationS.l0]) ?_⟩
    simp only [Int.lt_irrefl, if_false]
    rw [show k + 2 * ((0 : Nat) : Int) = k by omega]
    exact Ev.now _
  | succ d ih =>
    intro st k i hd hi hl h0 h1
    have a1 : wrap64 (k + 1) = k + 1 := by unfold wrap64; omega
    have a2 : wrap64 (k + 1 + 1) = k + 2 := by unfold wrap64; omega
    have a3 : (i : Int) < (st.length : Int) := by omega
    have a4 : (0 : Int) ≤ (i : Int) := by omega
    obtain ⟨st', h⟩ := ih (((st.set i ⟨k, (rd_T100 st (i : Int)).f1⟩).set i ⟨(rd_T100 (st.set i ⟨k, (rd_T100 st (i : Int)).f1⟩) (i : Int)).f0, k + 1⟩)) (k + 2) (i + 1) (by simp only [List.length_set]; omega) (by simp only [List.length_set]; omega) (by simp only [List.length_set]; omega) (by omega) (by omega)
    refine ⟨st', Ev.step (fun q => by rw [laws_markRelationS.l0]) ?_⟩
    simp only [a1, a2, a3, a4, if_true, Option.bind_some, Int.toNat_natCast, w64 i (by omega)]
    rw [show k + 2 * ((d + 1 : Nat) : Int) = k + 2 + 2 * (d : Int) by omega]
    exact h
theorem markR_ev (st : List S100) (k : Int) (hl : st.length ≤ 1048576) (h0 : 0 ≤ k) (h1 : k ≤ 1099511627776) : ∃ m st', 0 ≤ m ∧ m ≤ k + 2097152 ∧ Ev (fun q => laws_markRelationS.f q st k) (m, st') := by
  obtain ⟨st', h⟩ := markR_l0 st.length st k 0 (by omega) (by omega) hl h0 (by omega)
  exact ⟨k + 2 * (st.length : Int), st', by omega, by omega, h⟩
/-- Marking a record: what it answers is not below 0. -/
theorem markRecord_ev (cs : List S108) (rs : List S100) (k : Int) (hc : cs.length ≤ 1048576) (hr : rs.length ≤ 1048576) (h0 : 0 ≤ k) (h1 : k ≤ 1048576) : ∃ m x y, 0 ≤ m ∧ m ≤ 8388608 ∧ Ev (fun q => laws_markRecord.f q cs rs k) (m, x, y) := by
  obtain ⟨m, x, a, b, hm⟩ := markC_ev cs k hc h0 (by omega)
  obtain ⟨n, y, c, d, hn⟩ := markR_ev rs m hr a (by omega)
  refine ⟨n, x, y, c, by omega, ?_⟩
  unfold laws_markRecord.f
  exact Ev.bind hm (Ev.bind hn (Ev.now _))
end LB

end Go.Proofs.Ytlbkoejpjpcgaaa.Q

-- Written by a program of this session (wip/xprint.py over the kit's printer).
import Derived.Test.YtenphfagdpkjaaaQ0
import Derived.Test.YtenphfagdpkjaaaQLBBaseB
import Derived.Test.YtenphfagdpkjaaaQM0
import Derived.Test.YtenphfagdpkjaaaQM1
namespace Go.Proofs.Ytenphfagdpkjaaa.Q
open Go.RowKit Go.Proofs.YtenphfagdpkjaaaW.PrintWords Go.Proofs.YtenphfagdpkjaaaW.PrintLast
set_option linter.unusedVariables false
set_option linter.unusedSimpArgs false

/-! ### LB BaseHeldC -/
namespace LB
def pairsC (k : Int) (n : Nat) : List S77 := (List.range n).map fun (i : Nat) => ⟨k + 2 * (i : Int), k + 2 * (i : Int) + 1⟩
theorem pairsC_length (k : Int) (n : Nat) : (pairsC k n).length = n := by simp [pairsC]
theorem markC_pairs (l : List S77) (k : Int) (hl : l.length ≤ 1048576) (h0 : 0 ≤ k) (h1 : k ≤ 8388608) : Ev (fun q => laws_markContextS.f q l k) (k + 2 * (l.length : Int), pairsC k l.length) := by
  unfold laws_markContextS.f
  have key := Ev.down l.length (fun q i => laws_markContextS.l0 q (pairsC k i ++ l.drop i) (k + 2 * (i : Int)) (i : Int)) (fun _ => (k + 2 * (l.length : Int), pairsC k l.length))
    (by
      refine Ev.step (fun k => by rw [laws_markContextS.l0]) ?_
      simp only [List.drop_length, List.append_nil, pairsC_length, Int.lt_irrefl, if_false]
      exact Ev.now _)
    (fun i hi ih => by
      refine Ev.step (fun k => by rw [laws_markContextS.l0]) ?_
      have a2 : (pairsC k i ++ l.drop i).length = l.length := by rw [List.length_append, pairsC_length, List.length_drop]; omega
      have a3 : (i : Int) < (l.length : Int) := by omega
      have a4 : (0 : Int) ≤ (i : Int) := by omega
      have a5 : wrap64 (k + 2 * (i : Int) + 1) = k + 2 * (i : Int) + 1 := by unfold wrap64; omega
      have a6 : wrap64 (k + 2 * (i : Int) + 1 + 1) = k + 2 * ((i + 1 : Nat) : Int) := by unfold wrap64; omega
      have a7 : ∀ x : S77, (pairsC k i ++ l.drop i).set i x = pairsC k i ++ x :: l.drop (i + 1) := fun x => by
        rw [List.set_append_right _ _ (by rw [pairsC_length]; omega), pairsC_length, Nat.sub_self, List.drop_eq_getElem_cons hi, List.set_cons_zero]
      have a8 : ∀ x y : S77, (pairsC k i ++ x :: l.drop (i + 1)).set i y = pairsC k i ++ y :: l.drop (i + 1) := fun x y => by
        rw [List.set_append_right _ _ (by rw [pairsC_length]; omega), pairsC_length, Nat.sub_self, List.set_cons_zero]
      have a9 : ∀ x : S77, rd_T77 (pairsC k i ++ x :: l.drop (i + 1)) (i : Int) = x := fun x => by
        rw [rdC _ _ (by rw [List.length_append, pairsC_length, List.length_cons]; omega), List.getElem_append_right (by rw [pairsC_length]; omega)]
        simp [pairsC_length]
      have b1 : pairsC k i ++ (⟨k + 2 * (i : Int), k + 2 * (i : Int) + 1⟩ : S77) :: l.drop (i + 1) = pairsC k (i + 1) ++ l.drop (i + 1) := by simp [pairsC, List.range_succ]
      simp only [a2, a3, a4, if_true, Option.bind_some, Int.toNat_natCast, w64 i (by omega), a5, a6, a7, a8, a9, b1]
      exact ih) 0 (Nat.zero_le _)
  simpa [pairsC] using key
theorem heldC_pairs (n : Nat) (k : Int) (hl : n ≤ 1048576) (h0 : 0 ≤ k) (h1 : k ≤ 8388608) : Ev (fun q => laws_heldContextS.f q (pairsC k n) k) (k + 2 * (n : Int)) := by
  unfold laws_heldContextS.f
  have key := Ev.down n (fun q i => laws_heldContextS.l0 q (pairsC k n) (k + 2 * (i : Int)) (i : Int)) (fun _ => k + 2 * (n : Int))
    (by
      refine Ev.step (fun k => by rw [laws_heldContextS.l0]) ?_
      simp only [pairsC_length, Int.lt_irrefl, if_false]
      exact Ev.now _)
    (fun i hi ih => by
      refine Ev.step (fun k => by rw [laws_heldContextS.l0]) ?_
      have a3 : (i : Int) < (n : Int) := by omega
      have a4 : (0 : Int) ≤ (i : Int) := by omega
      have a5 : wrap64 (k + 2 * (i : Int) + 1) = k + 2 * (i : Int) + 1 := by unfold wrap64; omega
      have a6 : wrap64 (k + 2 * (i : Int) + 1 + 1) = k + 2 * ((i + 1 : Nat) : Int) := by unfold wrap64; omega
      have a7 : rd_T77 (pairsC k n) (i : Int) = ⟨k + 2 * (i : Int), k + 2 * (i : Int) + 1⟩ := by rw [rdC _ _ (by rw [pairsC_length]; exact hi)]; simp [pairsC]
      simp only [pairsC_length, a3, a4, a5, a6, a7, if_true, w64 i (by omega)]
      exact ih) 0 (Nat.zero_le _)
  simpa using key
end LB

end Go.Proofs.Ytenphfagdpkjaaa.Q

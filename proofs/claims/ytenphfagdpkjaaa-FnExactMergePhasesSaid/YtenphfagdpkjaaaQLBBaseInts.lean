-- Written by a program of this session (wip/xprint.py over the kit's printer).
import Derived.Test.YtenphfagdpkjaaaQ0
import Derived.Test.YtenphfagdpkjaaaQB2
import Derived.Test.YtenphfagdpkjaaaQLBBaseB
import Derived.Test.YtenphfagdpkjaaaQM2
namespace Go.Proofs.Ytenphfagdpkjaaa.Q
open Go.RowKit Go.Proofs.YtenphfagdpkjaaaW.PrintWords Go.Proofs.YtenphfagdpkjaaaW.PrintLast
set_option linter.unusedVariables false
set_option linter.unusedSimpArgs false

/-! ### LB BaseInts -/
namespace LB
theorem rdI (l : List Int) (i : Nat) (h : i < l.length) : rd l (i : Int) = l[i] := by simp [rd, List.getD_eq_getElem?_getD, List.getElem?_eq_getElem h]
theorem eqIntS_ev (a : List Int) (ha : a.length ≤ 1048576) : Ev (fun k => laws_eqIntS.f k a a) true := by
  unfold laws_eqIntS.f
  simp only [if_true]
  exact Ev.down a.length (fun k i => laws_eqIntS.l0 k a a (i : Int)) (fun _ => true)
    (by
      refine Ev.step (fun k => by rw [laws_eqIntS.l0]) ?_
      simp only [Int.lt_irrefl, if_false]
      exact Ev.now _)
    (fun i hi ih => by
      refine Ev.step (fun k => by rw [laws_eqIntS.l0]) ?_
      have a3 : (i : Int) < (a.length : Int) := by omega
      have a4 : (0 : Int) ≤ (i : Int) := by omega
      simp only [a3, a4, if_true, w64 i (by omega)]
      exact ih) 0 (Nat.zero_le _)
def ints (k : Int) (n : Nat) : List Int := (List.range n).map fun (i : Nat) => k + (i : Int)
theorem ints_length (k : Int) (n : Nat) : (ints k n).length = n := by simp [ints]
theorem markIntS_ev (l : List Int) (k : Int) (hl : l.length ≤ 4194304) (h0 : 0 ≤ k) (h1 : k ≤ 33554432) : Ev (fun q => laws_markIntS.f q l k) (k + (l.length : Int), ints k l.length) := by
  unfold laws_markIntS.f
  have key := Ev.down l.length (fun q i => laws_markIntS.l0 q (ints k i ++ l.drop i) (k + (i : Int)) (i : Int)) (fun _ => (k + (l.length : Int), ints k l.length))
    (by
      refine Ev.step (fun k => by rw [laws_markIntS.l0]) ?_
      simp only [List.drop_length, List.append_nil, ints_length, Int.lt_irrefl, if_false]
      exact Ev.now _)
    (fun i hi ih => by
      refine Ev.step (fun k => by rw [laws_markIntS.l0]) ?_
      have a2 : (ints k i ++ l.drop i).length = l.length := by rw [List.length_append, ints_length, List.length_drop]; omega
      have a3 : (i : Int) < (l.length : Int) := by omega
      have a4 : (0 : Int) ≤ (i : Int) := by omega
      have a5 : wrap64 (k + (i : Int) + 1) = k + ((i + 1 : Nat) : Int) := by unfold wrap64; omega
      have a6 : (ints k i ++ l.drop i).set i (k + (i : Int)) = ints k (i + 1) ++ l.drop (i + 1) := by
        rw [List.set_append_right _ _ (by rw [ints_length]; omega), ints_length, Nat.sub_self, List.drop_eq_getElem_cons hi, List.set_cons_zero]
        simp [ints, List.range_succ]
      simp only [a2, a3, a4, if_true, w64 i (by omega), a5, Int.toNat_natCast, a6]
      exact ih) 0 (Nat.zero_le _)
  simpa [ints] using key
theorem heldIntS_ev (n : Nat) (k : Int) (hl : n ≤ 4194304) (h0 : 0 ≤ k) (h1 : k ≤ 33554432) : Ev (fun q => laws_heldIntS.f q (ints k n) k) (k + (n : Int)) := by
  unfold laws_heldIntS.f
  have key := Ev.down n (fun q i => laws_heldIntS.l0 q (ints k n) (k + (i : Int)) (i : Int)) (fun _ => k + (n : Int))
    (by
      refine Ev.step (fun k => by rw [laws_heldIntS.l0]) ?_
      simp only [ints_length, Int.lt_irrefl, if_false]
      exact Ev.now _)
    (fun i hi ih => by
      refine Ev.step (fun k => by rw [laws_heldIntS.l0]) ?_
      have a3 : (i : Int) < (n : Int) := by omega
      have a4 : (0 : Int) ≤ (i : Int) := by omega
      have a5 : wrap64 (k + (i : Int) + 1) = k + ((i + 1 : Nat) : Int) := by unfold wrap64; omega
      have a6 : rd (ints k n) (i : Int) = k + (i : Int) := by rw [rdI _ _ (by rw [ints_length]; exact hi)]; simp [ints]
      simp only [ints_length, a3, a4, a6, if_true, w64 i (by omega), a5]
      exact ih) 0 (Nat.zero_le _)
  simpa using key
end LB

end Go.Proofs.Ytenphfagdpkjaaa.Q

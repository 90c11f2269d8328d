/- The law FnExactRemoveRelation answers true at every record and relation: RemoveRelation of the program and of the reference agree. No conditions. -/
import Derived.Test.YtlmdmnenljmdgaaQ0
import Derived.Test.YtlmdmnenljmdgaaQF51
import Derived.Test.YtlmdmnenljmdgaaQF3
import Derived.Test.YtlmdmnenljmdgaaQF10
import Derived.Test.YtlmdmnenljmdgaaQF13
namespace Go.Proofs.Ytlmdmnenljmdgaa.Pure
open Go.RowKit Go.Proofs.Ytlmdmnenljmdgaa.Q Go.Proofs.YtlmdmnenljmdgaaW.PrintWords
set_option linter.unusedVariables false
set_option linter.unusedSimpArgs false
theorem Ev.some {α : Type} (r : α) : Ev (fun _ => Option.some r) r := Ev.now r
theorem w64 (i : Nat) (h : i ≤ 4611686018427387904) : wrap64 ((i : Int) + 1) = ((i + 1 : Nat) : Int) := by unfold wrap64; omega
theorem rdR (l : List S36) (i : Nat) (h : i < l.length) : rd_T36 l (i : Int) = l[i] := by simp [rd_T36, List.getD_eq_getElem?_getD, List.getElem?_eq_getElem h]
def cvC (x : S42) : S44 := ⟨x.f0, x.f1⟩
def cvR (x : S27) : S36 := ⟨x.f0, x.f1⟩
def keepX (rs : List S36) (a b : Int) : List S36 := rs.filter fun x => !(x.f0 == a && x.f1 == b)
theorem keepX_cons (a b : Int) (c : S36) (r : List S36) : keepX (c :: r) a b = if (!(c.f0 == a) || !(c.f1 == b)) = true then c :: keepX r a b else keepX r a b := by
  unfold keepX
  rw [List.filter_cons]
  cases h1 : (c.f0 == a) <;> cases h2 : (c.f1 == b) <;> simp
theorem keepX_len (a b : Int) : ∀ rs : List S36, (keepX rs a b).length ≤ rs.length ∧ ((keepX rs a b).length = rs.length ↔ (rs.any fun x => a == x.f0 && b == x.f1) = false)
  | [] => by simp [keepX]
  | c :: r => by
    have ih := keepX_len a b r
    rw [keepX_cons]
    cases h1 : (c.f0 == a) with
    | true =>
      cases h2 : (c.f1 == b) with
      | true =>
        have e1 : (a == c.f0) = true := beq_iff_eq.2 (beq_iff_eq.1 h1).symm
        have e2 : (b == c.f1) = true := beq_iff_eq.2 (beq_iff_eq.1 h2).symm
        simp only [Bool.not_true, Bool.or_self, Bool.false_eq_true, if_false, List.length_cons, List.any_cons, e1, e2, Bool.and_self, Bool.true_or]
        exact ⟨by omega, ⟨fun h => by omega, fun h => by cases h⟩⟩
      | false =>
        have e2 : (b == c.f1) = false := beq_eq_false_iff_ne.2 (fun e => (beq_eq_false_iff_ne.1 h2) e.symm)
        simp only [Bool.not_true, Bool.not_false, Bool.or_true, if_true, List.length_cons, List.any_cons, e2, Bool.and_false, Bool.false_or]
        exact ⟨by omega, by rw [← ih.2]; omega⟩
    | false =>
      have e1 : (a == c.f0) = false := beq_eq_false_iff_ne.2 (fun e => (beq_eq_false_iff_ne.1 h1) e.symm)
      simp only [Bool.not_false, Bool.true_or, if_true, List.length_cons, List.any_cons, e1, Bool.false_and, Bool.false_or]
      exact ⟨by omega, by rw [← ih.2]; omega⟩
theorem spec_l0 (cs : List S44) (rs : List S36) (a b : Int) (out : List S44) (hr : rs.length ≤ 1048576) : ∀ (d : Nat) (acc : List S36) (i : Nat), rs.length - i = d → i ≤ rs.length → acc.length ≤ i → Ev (fun k => spec_RemoveRelation.l0 k (i : Int) cs rs a b out acc) (if (acc ++ keepX (rs.drop i) a b).length = rs.length then ([], [], false) else (out, acc ++ keepX (rs.drop i) a b, true)) := by
  intro d
  induction d with
  | zero =>
    intro acc i hd hi ha
    obtain rfl : i = rs.length := by omega
    refine Ev.step (fun q => by rw [spec_RemoveRelation.l0]) ?_
    simp only [Int.lt_irrefl, if_false, List.drop_length, keepX, List.filter_nil, List.append_nil]
    by_cases h : acc.length = rs.length
    · have h2 : (acc.length : Int) = (rs.length : Int) := by omega
      simp only [h, h2, if_true]
      exact Ev.now _
    · have h2 : ¬ (acc.length : Int) = (rs.length : Int) := by omega
      simp only [h, h2, if_false]
      exact Ev.now _
  | succ d ih =>
    intro acc i hd hi ha
    have hlt : i < rs.length := by omega
    have a3 : (i : Int) < (rs.length : Int) := by omega
    have a4 : (0 : Int) ≤ (i : Int) := by omega
    have a5 : acc.length < 8796093022208 := by omega
    refine Ev.step (fun q => by rw [spec_RemoveRelation.l0]) ?_
    simp only [a3, a4, a5, if_true, rdR rs i hlt, w64 i (by omega)]
    rw [List.drop_eq_getElem_cons hlt, keepX_cons]
    by_cases h : (!(rs[i].f0 == a) || !(rs[i].f1 == b)) = true
    · simp only [h, if_true]
      rw [show acc ++ rs[i] :: keepX (rs.drop (i + 1)) a b = (acc ++ [rs[i]]) ++ keepX (rs.drop (i + 1)) a b by simp]
      exact ih (acc ++ [rs[i]]) (i + 1) (by omega) (by omega) (by simp; omega)
    · simp only [h, if_false]
      exact ih acc (i + 1) (by omega) (by omega) (by omega)
theorem both (cs : List S44) (rs : List S36) (a b : Int) (hc : cs.length ≤ 1048576) (hr : rs.length ≤ 1048576) : ∃ A, impl_RemoveRelation.f cs rs a b = some A ∧ Ev (fun k => spec_RemoveRelation.f k cs rs a b) A ∧ A.1.length ≤ 1000 ∧ A.2.1.length ≤ 1000 := by
  unfold impl_RemoveRelation.f spec_RemoveRelation.f
  simp only [spec_l2Good.f, Option.bind_some]
  by_cases hg : goodB cs rs = true
  · have hl : cs.length ≤ 10 ∧ rs.length ≤ 24 := by
      have h := hg
      simp only [goodB, Bool.and_eq_true, decide_eq_true_eq] at h
      exact h.1.1
    refine ⟨_, rfl, ?_, ?_⟩
    · simp only [hg, if_true, List.length_nil, Nat.zero_add, List.nil_append, show cs.length < 8796093022208 by omega]
      have h := spec_l0 cs rs a b cs hr rs.length [] 0 (by omega) (by omega) (by simp)
      have hk := (keepX_len a b rs).2
      simp only [List.drop_zero, List.nil_append] at h
      cases hany : (rs.any fun x => a == x.f0 && b == x.f1) with
      | false =>
        rw [if_pos (hk.2 hany)] at h
        simpa [hg] using h
      | true =>
        rw [if_neg (fun e => by rw [hk.1 e] at hany; cases hany)] at h
        simpa [hg, keepX] using h
    · have h1 := (keepX_len a b rs).1
      unfold keepX at h1
      split
      · exact ⟨show cs.length ≤ 1000 by omega, show (rs.filter fun x => !(x.f0 == a && x.f1 == b)).length ≤ 1000 by omega⟩
      · simp
  · simp only [hg, if_false, Bool.false_eq_true, Bool.false_and]
    exact ⟨_, rfl, Ev.now _, by simp, by simp⟩
theorem FnExactRemoveRelation : ∀ (l0_0 : List (S42)) (l0_1 : List (S27)) (a1_0 : Int) (a1_1 : Int), ((l0_0.length ≤ 9223372036854775807) ∧ ∀ y4 ∈ l0_0, ((Lit.int .i64 y4.f0).wf = true) ∧ ((Lit.int .i64 y4.f1).wf = true)) → ((l0_1.length ≤ 9223372036854775807) ∧ ∀ y4 ∈ l0_1, ((Lit.int .i64 y4.f0).wf = true) ∧ ((Lit.int .i64 y4.f1).wf = true)) → ((Lit.int .i64 a1_0).wf = true) → ((Lit.int .i64 a1_1).wf = true) → ∃ k, laws_FnExactRemoveRelation.f k l0_0 l0_1 a1_0 a1_1 = some true := by
  intro l0 l1 a1 a2 _ _ _ _
  by_cases hbig : 1048576 < l0.length ∨ 1048576 < l1.length
  · exact ⟨0, by unfold laws_FnExactRemoveRelation.f; rw [if_pos hbig]⟩
  · have hC : (l0.map LB.cvC).length ≤ 1048576 := by rw [List.length_map]; omega
    have hR : (l1.map LB.cvR).length ≤ 1048576 := by rw [List.length_map]; omega
    obtain ⟨A, hi, hev, h1, h2⟩ := both (l0.map LB.cvC) (l1.map LB.cvR) a1 a2 hC hR
    obtain ⟨k, hk⟩ := Ev.rounds hev
    refine ⟨k, ?_⟩
    unfold laws_FnExactRemoveRelation.f
    rw [if_neg hbig, hi]
    exact if_pos ⟨hk, h1, h2⟩
end Go.Proofs.Ytlmdmnenljmdgaa.Pure

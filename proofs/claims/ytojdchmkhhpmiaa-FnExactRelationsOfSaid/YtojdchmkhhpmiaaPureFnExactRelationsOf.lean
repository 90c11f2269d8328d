/- The law FnExactRelationsOf answers true at every record and number: RelationsOf of the program and of the reference agree. No conditions. -/
import Derived.Test.YtojdchmkhhpmiaaQ0
import Derived.Test.YtojdchmkhhpmiaaQ10
import Derived.Test.YtojdchmkhhpmiaaQ7
import Derived.Test.YtojdchmkhhpmiaaQ9
import Derived.Test.YtojdchmkhhpmiaaLBaseB
import Derived.Test.YtojdchmkhhpmiaaLBaseHeldR
namespace Go.Proofs.Ytojdchmkhhpmiaa.Pure
open Go.RowKit Go.Proofs.Ytojdchmkhhpmiaa.Q Go.Proofs.YtojdchmkhhpmiaaW.PrintWords Go.Proofs.Ytojdchmkhhpmiaa.L
theorem relsOf_cons (n : Int) (c : S53) (r : List S53) : relsOf (c :: r) n = if c.f0 = n then c :: relsOf r n else if c.f1 = n then c :: relsOf r n else relsOf r n := by
  by_cases h : c.f0 = n <;> by_cases h2 : c.f1 = n <;> simp [relsOf, List.filter_cons, h, h2]
theorem spec_l0 (n : Int) (cs : List S59) (rs : List S53) (hc : rs.length ≤ 1048576) : ∀ (d : Nat) (acc : List S53) (i : Nat), rs.length - i = d → i ≤ rs.length → acc.length ≤ i → Ev (fun k => spec_RelationsOf.l0 k n acc (i : Int) cs rs) (acc ++ relsOf (rs.drop i) n, true) := by
  intro d
  induction d with
  | zero =>
    intro acc i hd hi ha
    obtain rfl : i = rs.length := by omega
    refine Ev.step (fun q => by rw [spec_RelationsOf.l0]) ?_
    simp only [Int.lt_irrefl, if_false, List.drop_length, relsOf, List.filter_nil, List.append_nil]
    exact Ev.now _
  | succ d ih =>
    intro acc i hd hi ha
    have hlt : i < rs.length := by omega
    have a3 : (i : Int) < (rs.length : Int) := by omega
    have a4 : (0 : Int) ≤ (i : Int) := by omega
    have a5 : acc.length < 8796093022208 := by omega
    refine Ev.step (fun q => by rw [spec_RelationsOf.l0]) ?_
    simp only [a3, a4, a5, if_true, rdR rs i hlt, w64 i (by omega)]
    rw [List.drop_eq_getElem_cons hlt, relsOf_cons]
    have key : Ev (fun k => spec_RelationsOf.l0 k n (acc ++ [rs[i]]) ((i + 1 : Nat) : Int) cs rs) (acc ++ rs[i] :: relsOf (rs.drop (i + 1)) n, true) := by
      rw [show acc ++ rs[i] :: relsOf (rs.drop (i + 1)) n = (acc ++ [rs[i]]) ++ relsOf (rs.drop (i + 1)) n by simp]
      exact ih (acc ++ [rs[i]]) (i + 1) (by omega) (by omega) (by simp; omega)
    by_cases h : rs[i].f0 = n
    · simp only [h, if_true]
      rw [← h]
      rw [← h] at key
      exact key
    · simp only [h, if_false]
      by_cases h2 : rs[i].f1 = n
      · simp only [h2, if_true]
        rw [← h2]
        rw [← h2] at key
        exact key
      · simp only [h2, if_false]
        exact ih acc (i + 1) (by omega) (by omega) (by omega)
def answer (n : Int) (cs : List S59) (rs : List S53) : List S53 × Bool := if goodB cs rs && decide (0 ≤ find cs n) then (relsOf rs n, true) else ([], false)
theorem spec_ev (n : Int) (cs : List S59) (rs : List S53) (hc : rs.length ≤ 1048576) : Ev (fun k => spec_RelationsOf.f k cs rs n) (answer n cs rs) := by
  unfold spec_RelationsOf.f answer
  simp only [spec_l2Good.f, find_f, Option.bind_some]
  cases goodB cs rs with
  | false =>
    simp only [Bool.false_eq_true, if_false, Bool.false_and]
    refine Ev.step (fun q => by rw [spec_RelationsOf.j0]) ?_
    simp only [if_true]
    exact Ev.now _
  | true =>
    simp only [if_true, Bool.true_and]
    by_cases h : 0 ≤ find cs n
    · have h' : ¬ find cs n < 0 := by omega
      refine Ev.step (fun q => by rw [spec_RelationsOf.j0]) ?_
      simp only [h, h', decide_true, decide_false, if_true, Bool.false_eq_true, if_false]
      exact spec_l0 n cs rs hc rs.length [] 0 (by omega) (by omega) (by simp)
    · have h' : find cs n < 0 := by omega
      refine Ev.step (fun q => by rw [spec_RelationsOf.j0]) ?_
      simp only [h, h', decide_true, decide_false, if_true, Bool.false_eq_true, if_false]
      exact Ev.now _
theorem FnExactRelationsOf : ∀ (l0_0 : List (S57)) (l0_1 : List (S51)) (a1 : Int), ((l0_0.length ≤ 9223372036854775807) ∧ ∀ y4 ∈ l0_0, ((Lit.int .i64 y4.f0).wf = true) ∧ ((Lit.int .i64 y4.f1).wf = true)) → ((l0_1.length ≤ 9223372036854775807) ∧ ∀ y4 ∈ l0_1, ((Lit.int .i64 y4.f0).wf = true) ∧ ((Lit.int .i64 y4.f1).wf = true)) → ((Lit.int .i64 a1).wf = true) → ∃ k, laws_FnExactRelationsOf.f k l0_0 l0_1 a1 = some true := by
  intro l0 l1 n g0 g1 _
  obtain ⟨t, ht, hc⟩ := szRecord_eq l0 l1 g0.1 g1.1
  refine Ev.rounds ?_
  unfold laws_FnExactRelationsOf.f
  rw [ht]
  simp only [Option.bind_some]
  rcases hc with hc | ⟨h0, _, hl0, hl1⟩
  · simp only [hc, if_true]
    exact Ev.now _
  · have hn : ¬ t < 0 := by omega
    have hC : (l0.map cvC).length ≤ 1048576 := by rw [List.length_map]; exact hl0
    have hR : (l1.map cvR).length ≤ 1048576 := by rw [List.length_map]; exact hl1
    have himpl : impl_RelationsOf.f (l0.map cvC) (l1.map cvR) n = some (answer n (l0.map cvC) (l1.map cvR)) := rfl
    simp only [hn, if_false]
    refine Ev.bind (toRecord_ev l0 l1 hl0 hl1) ?_
    refine Ev.bind (spec_ev n _ _ hR) ?_
    refine Ev.bind (toRecord_ev l0 l1 hl0 hl1) ?_
    simp only [himpl, Option.bind_some]
    generalize hA : answer n (l0.map cvC) (l1.map cvR) = A
    have hAl : A.1.length ≤ 1048576 := by
      rw [← hA]; unfold answer
      split
      · exact Nat.le_trans (show (relsOf (l1.map cvR) n).length ≤ (l1.map cvR).length from List.length_filter_le _ _) hR
      · simp
    refine Ev.bind (eqRelationS_ev A.1 hAl) ?_
    simp only [bne_self_eq_false, if_true]
    refine Ev.step (fun k => by rw [laws_FnExactRelationsOf.j0]) ?_
    simp only [Bool.false_eq_true, if_false]
    refine Ev.bind (toRecord_ev l0 l1 hl0 hl1) ?_
    refine Ev.bind (eqRecord_ev _ _ hC hR) ?_
    simp only [if_true]
    obtain ⟨m, x, y, hm, _, hmk⟩ := markRecord_ev (l0.map cvC) (l1.map cvR) 1 hC hR (by omega) (by omega)
    refine Ev.bind hmk ?_
    have hm2 : ¬ m < 0 := by omega
    simp only [hm2, if_false]
    refine Ev.bind (eqRelationS_ev A.1 hAl) ?_
    simp only [if_true, bne_self_eq_false]
    refine Ev.step (fun k => by rw [laws_FnExactRelationsOf.j1]) ?_
    simp only [Bool.false_eq_true, if_false]
    refine Ev.bind (markR_pairs A.1 1 hAl (by omega) (by omega)) ?_
    refine Ev.bind (heldR_pairs A.1.length 1 hAl (by omega) (by omega)) ?_
    have h2 : ¬ (1 + 2 * (A.1.length : Int)) < 0 := by omega
    simp only [h2, if_false, if_true]
    refine Ev.bind (toRecord_ev l0 l1 hl0 hl1) ?_
    simp only [himpl, Option.bind_some, hA]
    refine Ev.bind (eqRelationS_ev A.1 hAl) ?_
    simp only [bne_self_eq_false, if_true]
    refine Ev.step (fun k => by rw [laws_FnExactRelationsOf.j2]) ?_
    simp only [Bool.false_eq_true, if_false]
    refine Ev.bind (heldR_pairs A.1.length 1 hAl (by omega) (by omega)) ?_
    simp only [h2, if_false, if_true]
    exact Ev.now _
end Go.Proofs.Ytojdchmkhhpmiaa.Pure

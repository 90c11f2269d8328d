/- The law FnExactContextsOfKind answers true at every record and kind: ContextsOfKind of the program and of the reference agree. No conditions. -/
import Derived.Test.YtojdchmkhhpmiaaQ0
import Derived.Test.YtojdchmkhhpmiaaQ10
import Derived.Test.YtojdchmkhhpmiaaQ6
import Derived.Test.YtojdchmkhhpmiaaQ8
import Derived.Test.YtojdchmkhhpmiaaLBaseB
import Derived.Test.YtojdchmkhhpmiaaLBaseInts
namespace Go.Proofs.Ytojdchmkhhpmiaa.Pure
open Go.RowKit Go.Proofs.Ytojdchmkhhpmiaa.Q Go.Proofs.YtojdchmkhhpmiaaW.PrintWords Go.Proofs.Ytojdchmkhhpmiaa.L
def selK (n : Int) (cs : List S59) : List Int := (cs.filter fun c => c.f1 == n).map fun c => c.f0
theorem selK_cons (n : Int) (c : S59) (r : List S59) : selK n (c :: r) = if c.f1 = n then c.f0 :: selK n r else selK n r := by
  by_cases h : c.f1 = n <;> simp [selK, h]
theorem spec_l0 (n : Int) (cs : List S59) (rs : List S53) (hc : cs.length ≤ 1048576) : ∀ (d : Nat) (acc : List Int) (i : Nat), cs.length - i = d → i ≤ cs.length → acc.length ≤ i → Ev (fun k => spec_ContextsOfKind.l0 k n acc (i : Int) cs rs) (acc ++ selK n (cs.drop i), true) := by
  intro d
  induction d with
  | zero =>
    intro acc i hd hi ha
    obtain rfl : i = cs.length := by omega
    refine Ev.step (fun q => by rw [spec_ContextsOfKind.l0]) ?_
    simp only [Int.lt_irrefl, if_false, List.drop_length, selK, List.filter_nil, List.map_nil, List.append_nil]
    exact Ev.now _
  | succ d ih =>
    intro acc i hd hi ha
    have hlt : i < cs.length := by omega
    have a3 : (i : Int) < (cs.length : Int) := by omega
    have a4 : (0 : Int) ≤ (i : Int) := by omega
    have a5 : acc.length < 17592186044416 := by omega
    refine Ev.step (fun q => by rw [spec_ContextsOfKind.l0]) ?_
    simp only [a3, a4, a5, if_true, rdC cs i hlt, w64 i (by omega)]
    rw [List.drop_eq_getElem_cons hlt]
    by_cases h : cs[i].f1 = n
    · have e : selK n (cs[i] :: cs.drop (i + 1)) = cs[i].f0 :: selK n (cs.drop (i + 1)) := by rw [selK_cons]; simp only [h, if_true, if_false]
      simp only [h, if_true]
      rw [e, show acc ++ cs[i].f0 :: selK n (cs.drop (i + 1)) = (acc ++ [cs[i].f0]) ++ selK n (cs.drop (i + 1)) by simp]
      exact ih (acc ++ [cs[i].f0]) (i + 1) (by omega) (by omega) (by simp; omega)
    · have e : selK n (cs[i] :: cs.drop (i + 1)) = selK n (cs.drop (i + 1)) := by rw [selK_cons]; simp only [h, if_true, if_false]
      simp only [h, if_false]
      rw [e]
      exact ih acc (i + 1) (by omega) (by omega) (by omega)
theorem impl_l0 (n : Int) (cs : List S59) (hc : cs.length ≤ 1048576) : ∀ (d : Nat) (acc : List Int) (i : Nat), cs.length - i = d → i ≤ cs.length → acc.length ≤ i → Ev (fun k => impl_ContextsOfKind.l0 k n acc cs (cs.length : Int) (i : Int)) (acc ++ selK n (cs.drop i), true) := by
  intro d
  induction d with
  | zero =>
    intro acc i hd hi ha
    obtain rfl : i = cs.length := by omega
    refine Ev.step (fun q => by rw [impl_ContextsOfKind.l0]) ?_
    simp only [Int.lt_irrefl, if_false, List.drop_length, selK, List.filter_nil, List.map_nil, List.append_nil]
    exact Ev.now _
  | succ d ih =>
    intro acc i hd hi ha
    have hlt : i < cs.length := by omega
    have a3 : (i : Int) < (cs.length : Int) := by omega
    have a4 : (0 : Int) ≤ (i : Int) := by omega
    have a5 : acc.length < 17592186044416 := by omega
    refine Ev.step (fun q => by rw [impl_ContextsOfKind.l0]) ?_
    simp only [a3, a4, a5, if_true, rdC cs i hlt, w64 i (by omega)]
    rw [List.drop_eq_getElem_cons hlt]
    by_cases h : cs[i].f1 = n
    · have e : selK n (cs[i] :: cs.drop (i + 1)) = cs[i].f0 :: selK n (cs.drop (i + 1)) := by rw [selK_cons]; simp only [h, if_true, if_false]
      simp only [h, if_true]
      rw [e, show acc ++ cs[i].f0 :: selK n (cs.drop (i + 1)) = (acc ++ [cs[i].f0]) ++ selK n (cs.drop (i + 1)) by simp]
      exact ih (acc ++ [cs[i].f0]) (i + 1) (by omega) (by omega) (by simp; omega)
    · have e : selK n (cs[i] :: cs.drop (i + 1)) = selK n (cs.drop (i + 1)) := by rw [selK_cons]; simp only [h, if_true, if_false]
      simp only [h, if_false]
      rw [e]
      exact ih acc (i + 1) (by omega) (by omega) (by omega)
def answer (n : Int) (cs : List S59) (rs : List S53) : List Int × Bool := if goodB cs rs && (decide (1 ≤ n) && decide (n ≤ 4)) then (selK n cs, true) else ([], false)
theorem spec_ev (n : Int) (cs : List S59) (rs : List S53) (hc : cs.length ≤ 1048576) : Ev (fun k => spec_ContextsOfKind.f k cs rs n) (answer n cs rs) := by
  unfold spec_ContextsOfKind.f answer
  simp only [spec_l2Good.f, l1In_eq, Option.bind_some]
  cases goodB cs rs with
  | false =>
    simp only [Bool.false_eq_true, if_false, Bool.false_and]
    refine Ev.step (fun q => by rw [spec_ContextsOfKind.j0]) ?_
    simp only [if_true]
    exact Ev.now _
  | true =>
    simp only [if_true, Bool.true_and]
    cases (decide (1 ≤ n) && decide (n ≤ 4)) with
    | false =>
      refine Ev.step (fun q => by rw [spec_ContextsOfKind.j0]) ?_
      simp only [Bool.not_false, if_true, Bool.false_eq_true, if_false]
      exact Ev.now _
    | true =>
      refine Ev.step (fun q => by rw [spec_ContextsOfKind.j0]) ?_
      simp only [Bool.not_true, if_true, Bool.false_eq_true, if_false]
      exact spec_l0 n cs rs hc cs.length [] 0 (by omega) (by omega) (by simp)
theorem impl_ev (n : Int) (cs : List S59) (rs : List S53) (hc : cs.length ≤ 1048576) : Ev (fun k => impl_ContextsOfKind.f k cs rs n) (answer n cs rs) := by
  unfold impl_ContextsOfKind.f answer
  simp only [impl_IsValidRecord.f, isKind_eq, Option.bind_some]
  cases goodB cs rs with
  | false =>
    simp only [Bool.false_eq_true, if_false, Bool.false_and]
    refine Ev.step (fun q => by rw [impl_ContextsOfKind.j0]) ?_
    simp only [if_true]
    exact Ev.now _
  | true =>
    simp only [if_true, Bool.true_and]
    cases (decide (1 ≤ n) && decide (n ≤ 4)) with
    | false =>
      refine Ev.step (fun q => by rw [impl_ContextsOfKind.j0]) ?_
      simp only [Bool.not_false, if_true, Bool.false_eq_true, if_false]
      exact Ev.now _
    | true =>
      refine Ev.step (fun q => by rw [impl_ContextsOfKind.j0]) ?_
      simp only [Bool.not_true, if_true, Bool.false_eq_true, if_false]
      exact impl_l0 n cs hc cs.length [] 0 (by omega) (by omega) (by simp)
theorem FnExactContextsOfKind : ∀ (l0_0 : List (S57)) (l0_1 : List (S51)) (a1 : Int), ((l0_0.length ≤ 9223372036854775807) ∧ ∀ y4 ∈ l0_0, ((Lit.int .i64 y4.f0).wf = true) ∧ ((Lit.int .i64 y4.f1).wf = true)) → ((l0_1.length ≤ 9223372036854775807) ∧ ∀ y4 ∈ l0_1, ((Lit.int .i64 y4.f0).wf = true) ∧ ((Lit.int .i64 y4.f1).wf = true)) → ((Lit.int .i64 a1).wf = true) → ∃ k, laws_FnExactContextsOfKind.f k l0_0 l0_1 a1 = some true := by
  intro l0 l1 n g0 g1 _
  obtain ⟨t, ht, hc⟩ := szRecord_eq l0 l1 g0.1 g1.1
  refine Ev.rounds ?_
  unfold laws_FnExactContextsOfKind.f
  rw [ht]
  simp only [Option.bind_some]
  rcases hc with hc | ⟨h0, _, hl0, hl1⟩
  · simp only [hc, if_true]
    exact Ev.now _
  · have hn : ¬ t < 0 := by omega
    have hC : (l0.map cvC).length ≤ 1048576 := by rw [List.length_map]; exact hl0
    have hR : (l1.map cvR).length ≤ 1048576 := by rw [List.length_map]; exact hl1
    simp only [hn, if_false]
    refine Ev.bind (toRecord_ev l0 l1 hl0 hl1) ?_
    refine Ev.bind (spec_ev n _ _ hC) ?_
    refine Ev.bind (toRecord_ev l0 l1 hl0 hl1) ?_
    refine Ev.bind (impl_ev n _ _ hC) ?_
    generalize hA : answer n (l0.map cvC) (l1.map cvR) = A
    have hAl : A.1.length ≤ 1048576 := by
      rw [← hA]; unfold answer
      split
      · exact Nat.le_trans (show (selK n (l0.map cvC)).length ≤ (l0.map cvC).length by unfold selK; rw [List.length_map]; exact List.length_filter_le _ _) hC
      · simp
    refine Ev.bind (eqIntS_ev A.1 hAl) ?_
    simp only [bne_self_eq_false, if_true]
    refine Ev.step (fun k => by rw [laws_FnExactContextsOfKind.j0]) ?_
    simp only [Bool.false_eq_true, if_false]
    refine Ev.bind (toRecord_ev l0 l1 hl0 hl1) ?_
    refine Ev.bind (eqRecord_ev _ _ hC hR) ?_
    simp only [if_true]
    obtain ⟨m, x, y, hm, _, hmk⟩ := markRecord_ev (l0.map cvC) (l1.map cvR) 1 hC hR (by omega) (by omega)
    refine Ev.bind hmk ?_
    have hm2 : ¬ m < 0 := by omega
    simp only [hm2, if_false]
    refine Ev.bind (eqIntS_ev A.1 hAl) ?_
    simp only [if_true, bne_self_eq_false]
    refine Ev.step (fun k => by rw [laws_FnExactContextsOfKind.j1]) ?_
    simp only [Bool.false_eq_true, if_false]
    refine Ev.bind (markIntS_ev A.1 1 hAl (by omega) (by omega)) ?_
    refine Ev.bind (heldIntS_ev A.1.length 1 hAl (by omega) (by omega)) ?_
    have h2 : ¬ (1 + (A.1.length : Int)) < 0 := by omega
    simp only [h2, if_false, if_true]
    refine Ev.bind (toRecord_ev l0 l1 hl0 hl1) ?_
    refine Ev.bind (impl_ev n _ _ hC) ?_
    rw [hA]
    refine Ev.bind (eqIntS_ev A.1 hAl) ?_
    simp only [bne_self_eq_false, if_true]
    refine Ev.step (fun k => by rw [laws_FnExactContextsOfKind.j2]) ?_
    simp only [Bool.false_eq_true, if_false]
    refine Ev.bind (heldIntS_ev A.1.length 1 hAl (by omega) (by omega)) ?_
    simp only [h2, if_false, if_true]
    exact Ev.now _
end Go.Proofs.Ytojdchmkhhpmiaa.Pure

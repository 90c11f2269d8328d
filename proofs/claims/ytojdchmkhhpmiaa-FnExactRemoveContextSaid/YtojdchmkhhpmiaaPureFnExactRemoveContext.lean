/- The law FnExactRemoveContext answers true at every record and number: RemoveContext of the program and of the reference agree. No conditions. -/
import Derived.Test.YtojdchmkhhpmiaaQ0
import Derived.Test.YtojdchmkhhpmiaaQF7
import Derived.Test.YtojdchmkhhpmiaaQF33
import Derived.Test.YtojdchmkhhpmiaaQF34
import Derived.Test.YtojdchmkhhpmiaaLBaseB
import Derived.Test.YtojdchmkhhpmiaaLBaseMark
import Derived.Test.YtojdchmkhhpmiaaLBaseRec
namespace Go.Proofs.Ytojdchmkhhpmiaa.Pure
open Go.RowKit Go.Proofs.Ytojdchmkhhpmiaa.Q Go.Proofs.YtojdchmkhhpmiaaW.PrintWords Go.Proofs.Ytojdchmkhhpmiaa.L
def keepC (cs : List S59) (n : Int) : List S59 := cs.filter (fun c => !(c.f0 == n))
def keepR (rs : List S53) (n : Int) : List S53 := rs.filter (fun x => !(x.f0 == n || x.f1 == n))
def answer (cs : List S59) (rs : List S53) (n : Int) : List S59 × List S53 × Bool := if goodB cs rs && decide (0 ≤ find cs n) then (keepC cs n, keepR rs n, true) else ([], [], false)
theorem impl_eq (cs : List S59) (rs : List S53) (n : Int) : impl_RemoveContext.f cs rs n = some (answer cs rs n) := rfl
theorem keepC_cons (n : Int) (c : S59) (r : List S59) : keepC (c :: r) n = if c.f0 = n then keepC r n else c :: keepC r n := by
  by_cases h : c.f0 = n <;> simp [keepC, List.filter_cons, h]
theorem keepR_cons (n : Int) (c : S53) (r : List S53) : keepR (c :: r) n = if c.f0 = n then keepR r n else if c.f1 = n then keepR r n else c :: keepR r n := by
  by_cases h : c.f0 = n <;> by_cases h2 : c.f1 = n <;> simp [keepR, List.filter_cons, h, h2]
theorem answer_len (cs : List S59) (rs : List S53) (n : Int) (hc : cs.length ≤ 1048576) (hr : rs.length ≤ 1048576) : (answer cs rs n).1.length ≤ 1048576 ∧ (answer cs rs n).2.1.length ≤ 1048576 := by
  unfold answer
  split
  · exact ⟨Nat.le_trans (List.length_filter_le _ _) hc, Nat.le_trans (List.length_filter_le _ _) hr⟩
  · exact ⟨by simp, by simp⟩
theorem spec_l1 (n : Int) (cs : List S59) (rs : List S53) (out : List S59) (hr : rs.length ≤ 1048576) : ∀ (d : Nat) (acc : List S53) (i : Nat), rs.length - i = d → i ≤ rs.length → acc.length ≤ i → Ev (fun k => spec_RemoveContext.l1 k n (i : Int) cs rs out acc) (out, acc ++ keepR (rs.drop i) n, true) := by
  intro d
  induction d with
  | zero =>
    intro acc i hd hi ha
    obtain rfl : i = rs.length := by omega
    refine Ev.step (fun q => by rw [spec_RemoveContext.l1]) ?_
    simp only [Int.lt_irrefl, if_false, List.drop_length, keepR, List.filter_nil, List.append_nil]
    exact Ev.now _
  | succ d ih =>
    intro acc i hd hi ha
    have hlt : i < rs.length := by omega
    have a3 : (i : Int) < (rs.length : Int) := by omega
    have a4 : (0 : Int) ≤ (i : Int) := by omega
    have a5 : acc.length < 8796093022208 := by omega
    refine Ev.step (fun q => by rw [spec_RemoveContext.l1]) ?_
    simp only [a3, a4, a5, if_true, rdR rs i hlt, w64 i (by omega)]
    rw [List.drop_eq_getElem_cons hlt, keepR_cons]
    by_cases h : rs[i].f0 = n
    · simp only [h, if_true]
      exact ih acc (i + 1) (by omega) (by omega) (by omega)
    · by_cases h2 : rs[i].f1 = n
      · simp only [h, h2, if_true, if_false]
        exact ih acc (i + 1) (by omega) (by omega) (by omega)
      · simp only [h, h2, if_false]
        rw [show acc ++ rs[i] :: keepR (rs.drop (i + 1)) n = (acc ++ [rs[i]]) ++ keepR (rs.drop (i + 1)) n by simp]
        exact ih (acc ++ [rs[i]]) (i + 1) (by omega) (by omega) (by simp; omega)
theorem spec_l0 (n : Int) (cs : List S59) (rs : List S53) (hc : cs.length ≤ 1048576) (hr : rs.length ≤ 1048576) : ∀ (d : Nat) (acc : List S59) (i : Nat), cs.length - i = d → i ≤ cs.length → acc.length ≤ i → Ev (fun k => spec_RemoveContext.l0 k n (i : Int) cs rs acc) (acc ++ keepC (cs.drop i) n, keepR rs n, true) := by
  intro d
  induction d with
  | zero =>
    intro acc i hd hi ha
    obtain rfl : i = cs.length := by omega
    refine Ev.step (fun q => by rw [spec_RemoveContext.l0]) ?_
    simp only [Int.lt_irrefl, if_false, List.drop_length, keepC, List.filter_nil, List.append_nil]
    exact spec_l1 n cs rs acc hr rs.length [] 0 (by omega) (by omega) (by simp)
  | succ d ih =>
    intro acc i hd hi ha
    have hlt : i < cs.length := by omega
    have a3 : (i : Int) < (cs.length : Int) := by omega
    have a4 : (0 : Int) ≤ (i : Int) := by omega
    have a5 : acc.length < 8796093022208 := by omega
    refine Ev.step (fun q => by rw [spec_RemoveContext.l0]) ?_
    simp only [a3, a4, a5, if_true, rdC cs i hlt, w64 i (by omega)]
    rw [List.drop_eq_getElem_cons hlt, keepC_cons]
    by_cases h : cs[i].f0 = n
    · simp only [h, if_true]
      exact ih acc (i + 1) (by omega) (by omega) (by omega)
    · simp only [h, if_false]
      rw [show acc ++ cs[i] :: keepC (cs.drop (i + 1)) n = (acc ++ [cs[i]]) ++ keepC (cs.drop (i + 1)) n by simp]
      exact ih (acc ++ [cs[i]]) (i + 1) (by omega) (by omega) (by simp; omega)
theorem spec_ev (cs : List S59) (rs : List S53) (n : Int) (hc : cs.length ≤ 1048576) (hr : rs.length ≤ 1048576) : Ev (fun k => spec_RemoveContext.f k cs rs n) (answer cs rs n) := by
  unfold spec_RemoveContext.f answer
  simp only [spec_l2Good.f, find_f, Option.bind_some]
  cases goodB cs rs with
  | false =>
    simp only [Bool.false_eq_true, if_false, Bool.false_and]
    refine Ev.step (fun q => by rw [spec_RemoveContext.j0]) ?_
    simp only [if_true]
    exact Ev.now _
  | true =>
    simp only [if_true, Bool.true_and]
    by_cases h : 0 ≤ find cs n
    · have h' : ¬ find cs n < 0 := by omega
      refine Ev.step (fun q => by rw [spec_RemoveContext.j0]) ?_
      simp only [h, h', decide_true, decide_false, if_true, Bool.false_eq_true, if_false]
      exact spec_l0 n cs rs hc hr cs.length [] 0 (by omega) (by omega) (by simp)
    · have h' : find cs n < 0 := by omega
      refine Ev.step (fun q => by rw [spec_RemoveContext.j0]) ?_
      simp only [h, h', decide_true, decide_false, if_true, Bool.false_eq_true, if_false]
      exact Ev.now _
theorem FnExactRemoveContext : ∀ (l0_0 : List (S57)) (l0_1 : List (S51)) (a1 : Int), ((l0_0.length ≤ 9223372036854775807) ∧ ∀ y4 ∈ l0_0, ((Lit.int .i64 y4.f0).wf = true) ∧ ((Lit.int .i64 y4.f1).wf = true)) → ((l0_1.length ≤ 9223372036854775807) ∧ ∀ y4 ∈ l0_1, ((Lit.int .i64 y4.f0).wf = true) ∧ ((Lit.int .i64 y4.f1).wf = true)) → ((Lit.int .i64 a1).wf = true) → ∃ k, laws_FnExactRemoveContext.f k l0_0 l0_1 a1 = some true := by
  intro l0 l1 n g0 g1 _
  obtain ⟨t, ht, hc⟩ := szRecord_eq l0 l1 g0.1 g1.1
  refine Ev.rounds ?_
  unfold laws_FnExactRemoveContext.f
  rw [ht]
  simp only [Option.bind_some]
  rcases hc with hc | ⟨h0, _, hl0, hl1⟩
  · simp only [hc, if_true]
    exact Ev.now _
  · have hn : ¬ t < 0 := by omega
    have hC : (l0.map cvC).length ≤ 1048576 := by rw [List.length_map]; exact hl0
    have hR : (l1.map cvR).length ≤ 1048576 := by rw [List.length_map]; exact hl1
    have himpl : impl_RemoveContext.f (l0.map cvC) (l1.map cvR) n = some (answer (l0.map cvC) (l1.map cvR) n) := impl_eq _ _ n
    have hAl := answer_len (l0.map cvC) (l1.map cvR) n hC hR
    simp only [hn, if_false]
    refine Ev.bind (toRecord_ev l0 l1 hl0 hl1) ?_
    refine Ev.bind (spec_ev _ _ n hC hR) ?_
    refine Ev.bind (toRecord_ev l0 l1 hl0 hl1) ?_
    simp only [himpl, Option.bind_some]
    generalize answer (l0.map cvC) (l1.map cvR) n = A at hAl himpl ⊢
    refine Ev.bind (eqRecord_ev A.1 A.2.1 hAl.1 hAl.2) ?_
    simp only [bne_self_eq_false, if_true]
    refine Ev.step (fun k => by rw [laws_FnExactRemoveContext.j0]) ?_
    simp only [Bool.false_eq_true, if_false]
    refine Ev.bind (toRecord_ev l0 l1 hl0 hl1) ?_
    refine Ev.bind (eqRecord_ev _ _ hC hR) ?_
    simp only [if_true]
    obtain ⟨m, x, y, hm, _, hmk⟩ := markRecord_ev (l0.map cvC) (l1.map cvR) 1 hC hR (by omega) (by omega)
    refine Ev.bind hmk ?_
    have hm2 : ¬ m < 0 := by omega
    simp only [hm2, if_false]
    refine Ev.bind (eqRecord_ev A.1 A.2.1 hAl.1 hAl.2) ?_
    simp only [if_true, bne_self_eq_false]
    refine Ev.step (fun k => by rw [laws_FnExactRemoveContext.j1]) ?_
    simp only [Bool.false_eq_true, if_false]
    refine Ev.bind (markRec_pairs A.1 A.2.1 hAl.1 hAl.2) ?_
    refine Ev.bind (heldRec_pairs A.1.length A.2.1.length hAl.1 hAl.2) ?_
    have h2 : ¬ (1 + 2 * (A.1.length : Int) + 2 * (A.2.1.length : Int)) < 0 := by omega
    simp only [h2, if_false, if_true]
    refine Ev.bind (toRecord_ev l0 l1 hl0 hl1) ?_
    simp only [himpl, Option.bind_some]
    refine Ev.bind (eqRecord_ev A.1 A.2.1 hAl.1 hAl.2) ?_
    simp only [bne_self_eq_false, if_true]
    refine Ev.step (fun k => by rw [laws_FnExactRemoveContext.j2]) ?_
    simp only [Bool.false_eq_true, if_false]
    refine Ev.bind (heldRec_pairs A.1.length A.2.1.length hAl.1 hAl.2) ?_
    simp only [h2, if_false, if_true]
    exact Ev.now _
end Go.Proofs.Ytojdchmkhhpmiaa.Pure

/- The law FnExactContextIndex answers true at every record and number: ContextIndex of the program and of the reference agree. No conditions. -/
import Derived.Test.YtojdchmkhhpmiaaQ0
import Derived.Test.YtojdchmkhhpmiaaQ11
import Derived.Test.YtojdchmkhhpmiaaQ10
import Derived.Test.YtojdchmkhhpmiaaLBaseA
namespace Go.Proofs.Ytojdchmkhhpmiaa.Pure
open Go.RowKit Go.Proofs.Ytojdchmkhhpmiaa.Q Go.Proofs.YtojdchmkhhpmiaaW.PrintWords Go.Proofs.Ytojdchmkhhpmiaa.L
theorem FnExactContextIndex : ∀ (l0_0 : List S57) (l0_1 : List S51) (a1 : Int), ((l0_0.length ≤ 9223372036854775807) ∧ ∀ y4 ∈ l0_0, ((Lit.int .i64 y4.f0).wf = true) ∧ ((Lit.int .i64 y4.f1).wf = true)) → ((l0_1.length ≤ 9223372036854775807) ∧ ∀ y4 ∈ l0_1, ((Lit.int .i64 y4.f0).wf = true) ∧ ((Lit.int .i64 y4.f1).wf = true)) → ((Lit.int .i64 a1).wf = true) → ∃ k, laws_FnExactContextIndex.f k l0_0 l0_1 a1 = some true := by
  intro l0 l1 n g0 g1 _
  obtain ⟨t, ht, hc⟩ := szRecord_eq l0 l1 g0.1 g1.1
  refine Ev.rounds ?_
  unfold laws_FnExactContextIndex.f
  rw [ht]
  simp only [Option.bind_some]
  rcases hc with hc | ⟨h0, _, hl0, hl1⟩
  · simp only [hc, if_true]
    exact Ev.now _
  · have hn : ¬ t < 0 := by omega
    have hC : (l0.map cvC).length ≤ 1048576 := by rw [List.length_map]; exact hl0
    have hR : (l1.map cvR).length ≤ 1048576 := by rw [List.length_map]; exact hl1
    simp only [hn, if_false]
    refine Ev.bind (toRecord_ev l0 l1 hl0 hl1) ?_
    have hs : Ev (fun k => spec_ContextIndex.f k (l0.map cvC) (l1.map cvR) n) (if goodB (l0.map cvC) (l1.map cvR) && decide (0 ≤ find (l0.map cvC) n) then (find (l0.map cvC) n, true) else (0, false)) := by
      unfold spec_ContextIndex.f
      refine Ev.bind (l2Good_ev _ _ hC hR) ?_
      cases goodB (l0.map cvC) (l1.map cvR) with
      | false => simp; exact Ev.now _
      | true =>
        simp only [if_true, Bool.true_and]
        refine Ev.bind (l2Find_ev _ _ n hC) ?_
        by_cases h : find (l0.map cvC) n < 0
        · have h' : ¬ 0 ≤ find (l0.map cvC) n := by omega
          simp [h, h']
          exact Ev.now _
        · have h' : 0 ≤ find (l0.map cvC) n := by omega
          simp only [h, h', if_false, decide_true, if_true]
          refine Ev.bind (l2Find_ev _ _ n hC) ?_
          exact Ev.now _
    have hi : Ev (fun k => impl_ContextIndex.f k (l0.map cvC) (l1.map cvR) n) (if goodB (l0.map cvC) (l1.map cvR) && decide (0 ≤ find (l0.map cvC) n) then (find (l0.map cvC) n, true) else (0, false)) := by
      unfold impl_ContextIndex.f
      refine Ev.bind (hasContext_ev _ _ n hC hR) ?_
      cases goodB (l0.map cvC) (l1.map cvR) && decide (0 ≤ find (l0.map cvC) n) with
      | false => simp; exact Ev.now _
      | true => simp [impl_indexOf.f, find]; exact Ev.now _
    refine Ev.bind hs ?_
    refine Ev.bind (toRecord_ev l0 l1 hl0 hl1) ?_
    refine Ev.bind hi ?_
    simp only [bne_self_eq_false, if_true]
    refine Ev.step (fun k => by rw [laws_FnExactContextIndex.j0]) ?_
    simp only [Bool.false_eq_true, if_false]
    refine Ev.bind (toRecord_ev l0 l1 hl0 hl1) ?_
    refine Ev.bind (eqRecord_ev _ _ hC hR) ?_
    simp only [if_true]
    exact Ev.now _
end Go.Proofs.Ytojdchmkhhpmiaa.Pure

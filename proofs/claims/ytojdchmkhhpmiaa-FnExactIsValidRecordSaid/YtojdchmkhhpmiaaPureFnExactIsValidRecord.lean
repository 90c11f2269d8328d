/- The law FnExactIsValidRecord answers true at every record: IsValidRecord of the program and of the reference agree. No conditions. -/
import Derived.Test.YtojdchmkhhpmiaaQ0
import Derived.Test.YtojdchmkhhpmiaaQ9
import Derived.Test.YtojdchmkhhpmiaaQ3
import Derived.Test.YtojdchmkhhpmiaaLBaseA
namespace Go.Proofs.Ytojdchmkhhpmiaa.Pure
open Go.RowKit Go.Proofs.Ytojdchmkhhpmiaa.Q Go.Proofs.YtojdchmkhhpmiaaW.PrintWords Go.Proofs.Ytojdchmkhhpmiaa.L
theorem FnExactIsValidRecord : ∀ (l0_0 : List S57) (l0_1 : List S51), ((l0_0.length ≤ 9223372036854775807) ∧ ∀ y4 ∈ l0_0, ((Lit.int .i64 y4.f0).wf = true) ∧ ((Lit.int .i64 y4.f1).wf = true)) → ((l0_1.length ≤ 9223372036854775807) ∧ ∀ y4 ∈ l0_1, ((Lit.int .i64 y4.f0).wf = true) ∧ ((Lit.int .i64 y4.f1).wf = true)) → ∃ k, laws_FnExactIsValidRecord.f k l0_0 l0_1 = some true := by
  intro l0 l1 g0 g1
  obtain ⟨t, ht, hc⟩ := szRecord_eq l0 l1 g0.1 g1.1
  refine Ev.rounds ?_
  unfold laws_FnExactIsValidRecord.f
  rw [ht]
  simp only [Option.bind_some]
  rcases hc with hc | ⟨h0, _, hl0, hl1⟩
  · simp only [hc, if_true]
    exact Ev.now _
  · have hn : ¬ t < 0 := by omega
    have hC : (l0.map cvC).length ≤ 1048576 := by rw [List.length_map]; exact hl0
    have hR : (l1.map cvR).length ≤ 1048576 := by rw [List.length_map]; exact hl1
    simp only [hn, if_false]
    refine Ev.bind (toRecord_ev l0 l1 hl0 hl1) ?_
    unfold spec_IsValidRecord.f
    refine Ev.bind (Ev.bind (l2Good_ev _ _ hC hR) (Ev.now _)) ?_
    refine Ev.bind (toRecord_ev l0 l1 hl0 hl1) ?_
    refine Ev.bind (isValid_ev _ _ hC hR) ?_
    simp only [bne_self_eq_false, Bool.false_eq_true, if_false]
    refine Ev.bind (toRecord_ev l0 l1 hl0 hl1) ?_
    refine Ev.bind (eqRecord_ev _ _ hC hR) ?_
    simp only [if_true]
    exact Ev.now _
end Go.Proofs.Ytojdchmkhhpmiaa.Pure

/- The law FnExactIsConsistent answers true at every record: IsConsistent of the program and of the reference agree. No conditions. -/
import Derived.Test.YtdpehkfjhfjobaaQ0
import Derived.Test.YtdpehkfjhfjobaaQF3
import Derived.Test.YtdpehkfjhfjobaaQF16
import Derived.Test.YtdpehkfjhfjobaaQF18
import Derived.Test.YtdpehkfjhfjobaaLBaseB
import Derived.Test.YtdpehkfjhfjobaaLBaseOrder
import Derived.Test.YtdpehkfjhfjobaaLBaseCons
namespace Go.Proofs.Ytdpehkfjhfjobaa.Pure
open Go.RowKit Go.Proofs.Ytdpehkfjhfjobaa.Q Go.Proofs.YtdpehkfjhfjobaaW.PrintWords Go.Proofs.Ytdpehkfjhfjobaa.L
def answer (cs : List S76) (rs : List S90) : Bool × Bool := if goodB cs rs then (consB cs.length (lat cs rs), true) else (false, false)
theorem impl_eq (cs : List S76) (rs : List S90) : impl_IsConsistent.f cs rs = some (answer cs rs) := rfl
theorem spec_ev (cs : List S76) (rs : List S90) (_ : cs.length ≤ 1048576) (_ : rs.length ≤ 1048576) : Ev (fun k => spec_IsConsistent.f k cs rs) (answer cs rs) := by
  unfold spec_IsConsistent.f answer
  simp only [spec_l2Good.f, Option.bind_some]
  cases hg : goodB cs rs with
  | false =>
    simp only [Bool.false_eq_true, if_false]
    exact Ev.now _
  | true =>
    obtain ⟨hn, hm, hin⟩ := goodB_parts hg
    simp only [if_true]
    exact Ev.bind (l4Consistent_ev cs rs hn hm hin) (Ev.now _)
theorem FnExactIsConsistent : ∀ (l0_0 : List (S110)) (l0_1 : List (S102)), ((l0_0.length ≤ 9223372036854775807) ∧ ∀ y4 ∈ l0_0, ((Lit.int .i64 y4.f0).wf = true) ∧ ((Lit.int .i64 y4.f1).wf = true)) → ((l0_1.length ≤ 9223372036854775807) ∧ ∀ y4 ∈ l0_1, ((Lit.int .i64 y4.f0).wf = true) ∧ ((Lit.int .i64 y4.f1).wf = true)) → ∃ k, laws_FnExactIsConsistent.f k l0_0 l0_1 = some true := by
  intro l0 l1  g0 g1 
  obtain ⟨t, ht, hc⟩ := szRecord_eq l0 l1 g0.1 g1.1
  refine Ev.rounds ?_
  unfold laws_FnExactIsConsistent.f
  rw [ht]
  simp only [Option.bind_some]
  rcases hc with hc | ⟨h0, _, hl0, hl1⟩
  · simp only [hc, if_true]
    exact Ev.now _
  · have hn : ¬ t < 0 := by omega
    have hC : (l0.map cvC).length ≤ 1048576 := by rw [List.length_map]; exact hl0
    have hR : (l1.map cvR).length ≤ 1048576 := by rw [List.length_map]; exact hl1
    have himpl : impl_IsConsistent.f (l0.map cvC) (l1.map cvR)  = some (answer (l0.map cvC) (l1.map cvR)) := impl_eq _ _ 
    simp only [hn, if_false]
    refine Ev.bind (toRecord_ev l0 l1 hl0 hl1) ?_
    refine Ev.bind (spec_ev _ _  hC hR) ?_
    refine Ev.bind (toRecord_ev l0 l1 hl0 hl1) ?_
    simp only [himpl, Option.bind_some, bne_self_eq_false, Bool.false_eq_true, if_false]
    refine Ev.step (fun k => by rw [laws_FnExactIsConsistent.j0]) ?_
    simp only [Bool.false_eq_true, if_false]
    refine Ev.bind (toRecord_ev l0 l1 hl0 hl1) ?_
    refine Ev.bind (eqRecord_ev _ _ hC hR) ?_
    simp only [if_true]
    exact Ev.now _
end Go.Proofs.Ytdpehkfjhfjobaa.Pure

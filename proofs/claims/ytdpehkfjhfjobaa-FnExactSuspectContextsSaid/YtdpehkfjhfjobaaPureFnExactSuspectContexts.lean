/- The law FnExactSuspectContexts answers true at every record: SuspectContexts of the program and of the reference agree. No conditions. -/
import Derived.Test.YtdpehkfjhfjobaaQ0
import Derived.Test.YtdpehkfjhfjobaaQF5
import Derived.Test.YtdpehkfjhfjobaaQF22
import Derived.Test.YtdpehkfjhfjobaaQF23
import Derived.Test.YtdpehkfjhfjobaaLBaseB
import Derived.Test.YtdpehkfjhfjobaaLBaseMark
import Derived.Test.YtdpehkfjhfjobaaLBaseOrder
import Derived.Test.YtdpehkfjhfjobaaLBaseInts
namespace Go.Proofs.Ytdpehkfjhfjobaa.Pure
open Go.RowKit Go.Proofs.Ytdpehkfjhfjobaa.Q Go.Proofs.YtdpehkfjhfjobaaW.PrintWords Go.Proofs.Ytdpehkfjhfjobaa.L
def answer (cs : List S76) (rs : List S90) : List Int × Bool := if goodB cs rs then (numsTo cs (fun i => lat cs rs i i) cs.length, true) else ([], false)
theorem impl_eq (cs : List S76) (rs : List S90) : impl_SuspectContexts.f cs rs = some (answer cs rs) := rfl
theorem answer_len (cs : List S76) (rs : List S90) (hc : cs.length ≤ 1048576) (_ : rs.length ≤ 1048576) : (answer cs rs).1.length ≤ 1048576 := by
  unfold answer
  split
  · exact Nat.le_trans (numsTo_le _ _ _) hc
  · simp
theorem spec_ev (cs : List S76) (rs : List S90) (_ : cs.length ≤ 1048576) (_ : rs.length ≤ 1048576) : Ev (fun k => spec_SuspectContexts.f k cs rs) (answer cs rs) := by
  unfold spec_SuspectContexts.f answer
  simp only [spec_l2Good.f, Option.bind_some]
  cases hg : goodB cs rs with
  | false =>
    simp only [Bool.false_eq_true, if_false]
    exact Ev.now _
  | true =>
    obtain ⟨hn, hm, hin⟩ := goodB_parts hg
    simp only [if_true]
    refine Ev.bind (l4Later_ev cs rs hn hm hin) ?_
    generalize lat cs rs = M
    have key := Ev.down cs.length (fun k i => spec_SuspectContexts.l0 k (numsTo cs (fun i => M i i) i) (masks cs.length M) (i : Int) cs rs) (fun _ => (numsTo cs (fun i => M i i) cs.length, true))
      (by
        refine Ev.step (fun k => by rw [spec_SuspectContexts.l0]) ?_
        simp only [masks_length, Int.lt_irrefl, if_false]
        exact Ev.now _)
      (fun i hi ih => by
        have a3 : (i : Int) < (cs.length : Int) := by omega
        have a4 : (0 : Int) ≤ (i : Int) := by omega
        have a5 : (numsTo cs (fun i => M i i) i).length < 17592186044416 := by have := numsTo_le cs (fun i => M i i) i; omega
        refine Ev.step (fun k => by rw [spec_SuspectContexts.l0]) ?_
        simp only [masks_length, a3, a4, a5, if_true, w64 i (by omega), rdC cs i hi]
        rw [l4Bit_masks cs.length i i M (by omega) hi hi]
        simp only [Option.bind_some]
        have hs := numsTo_succ cs (fun i => M i i) i
        rw [getDC cs i hi] at hs
        cases hb : M i i with
        | true =>
          simp only [hb, if_true] at hs ⊢
          rw [← hs]
          exact ih
        | false =>
          simp only [hb, Bool.false_eq_true, if_false] at hs ⊢
          rw [← hs]
          exact ih)
    exact key 0 (Nat.zero_le _)
theorem FnExactSuspectContexts : ∀ (l0_0 : List (S110)) (l0_1 : List (S102)), ((l0_0.length ≤ 9223372036854775807) ∧ ∀ y4 ∈ l0_0, ((Lit.int .i64 y4.f0).wf = true) ∧ ((Lit.int .i64 y4.f1).wf = true)) → ((l0_1.length ≤ 9223372036854775807) ∧ ∀ y4 ∈ l0_1, ((Lit.int .i64 y4.f0).wf = true) ∧ ((Lit.int .i64 y4.f1).wf = true)) → ∃ k, laws_FnExactSuspectContexts.f k l0_0 l0_1 = some true := by
  intro l0 l1  g0 g1 
  obtain ⟨t, ht, hc⟩ := szRecord_eq l0 l1 g0.1 g1.1
  refine Ev.rounds ?_
  unfold laws_FnExactSuspectContexts.f
  rw [ht]
  simp only [Option.bind_some]
  rcases hc with hc | ⟨h0, _, hl0, hl1⟩
  · simp only [hc, if_true]
    exact Ev.now _
  · have hn : ¬ t < 0 := by omega
    have hC : (l0.map cvC).length ≤ 1048576 := by rw [List.length_map]; exact hl0
    have hR : (l1.map cvR).length ≤ 1048576 := by rw [List.length_map]; exact hl1
    have himpl : impl_SuspectContexts.f (l0.map cvC) (l1.map cvR)  = some (answer (l0.map cvC) (l1.map cvR)) := impl_eq _ _ 
    have hAl := answer_len (l0.map cvC) (l1.map cvR)  hC hR
    simp only [hn, if_false]
    refine Ev.bind (toRecord_ev l0 l1 hl0 hl1) ?_
    refine Ev.bind (spec_ev _ _  hC hR) ?_
    refine Ev.bind (toRecord_ev l0 l1 hl0 hl1) ?_
    simp only [himpl, Option.bind_some]
    generalize answer (l0.map cvC) (l1.map cvR) = A at hAl himpl ⊢
    refine Ev.bind (eqIntS_ev A.1 hAl) ?_
    simp only [bne_self_eq_false, if_true]
    refine Ev.step (fun k => by rw [laws_FnExactSuspectContexts.j0]) ?_
    simp only [Bool.false_eq_true, if_false]
    refine Ev.bind (toRecord_ev l0 l1 hl0 hl1) ?_
    refine Ev.bind (eqRecord_ev _ _ hC hR) ?_
    simp only [if_true]
    obtain ⟨m, x, y, hm, _, hmk⟩ := markRecord_ev (l0.map cvC) (l1.map cvR) 1 hC hR (by omega) (by omega)
    refine Ev.bind hmk ?_
    have hm2 : ¬ m < 0 := by omega
    simp only [hm2, if_false]
    refine Ev.bind (eqIntS_ev A.1 hAl) ?_
    simp only [if_true, bne_self_eq_false]
    refine Ev.step (fun k => by rw [laws_FnExactSuspectContexts.j1]) ?_
    simp only [Bool.false_eq_true, if_false]
    refine Ev.bind (markIntS_ev A.1 1 hAl (by omega) (by omega)) ?_
    refine Ev.bind (heldIntS_ev A.1.length 1 hAl (by omega) (by omega)) ?_
    have h2 : ¬ (1 + (A.1.length : Int)) < 0 := by omega
    simp only [h2, if_false, if_true]
    refine Ev.bind (toRecord_ev l0 l1 hl0 hl1) ?_
    simp only [himpl, Option.bind_some]
    refine Ev.bind (eqIntS_ev A.1 hAl) ?_
    simp only [bne_self_eq_false, if_true]
    refine Ev.step (fun k => by rw [laws_FnExactSuspectContexts.j2]) ?_
    simp only [Bool.false_eq_true, if_false]
    refine Ev.bind (heldIntS_ev A.1.length 1 hAl (by omega) (by omega)) ?_
    simp only [h2, if_false, if_true]
    exact Ev.now _
end Go.Proofs.Ytdpehkfjhfjobaa.Pure

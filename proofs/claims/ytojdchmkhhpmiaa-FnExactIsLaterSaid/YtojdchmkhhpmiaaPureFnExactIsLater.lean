/- The law FnExactIsLater answers true at every record and every two numbers: IsLater of the program and of the reference agree. No conditions. -/
import Derived.Test.YtojdchmkhhpmiaaQ0
import Derived.Test.YtojdchmkhhpmiaaQF13
import Derived.Test.YtojdchmkhhpmiaaQF48
import Derived.Test.YtojdchmkhhpmiaaQF49
import Derived.Test.YtojdchmkhhpmiaaLBaseB
import Derived.Test.YtojdchmkhhpmiaaLBaseOrder
namespace Go.Proofs.Ytojdchmkhhpmiaa.Pure
open Go.RowKit Go.Proofs.Ytojdchmkhhpmiaa.Q Go.Proofs.YtojdchmkhhpmiaaW.PrintWords Go.Proofs.Ytojdchmkhhpmiaa.L
def answer (cs : List S59) (rs : List S53) (a1 a2 : Int) : Bool × Bool := if (goodB cs rs && decide (0 ≤ find cs a1)) && (goodB cs rs && decide (0 ≤ find cs a2)) then (lat cs rs (find cs a1).toNat (find cs a2).toNat, true) else (false, false)
theorem spec_ev (cs : List S59) (rs : List S53) (a1 a2 : Int) : Ev (fun k => spec_IsLater.f k cs rs a1 a2) (answer cs rs a1 a2) := by
  unfold spec_IsLater.f answer
  simp only [spec_l2Good.f, find_f, Option.bind_some]
  cases hg : goodB cs rs with
  | false =>
    simp only [Bool.false_eq_true, if_false, Bool.false_and]
    refine Ev.step (fun q => by rw [spec_IsLater.j0]) ?_
    simp only [if_true]
    exact Ev.now _
  | true =>
    simp only [if_true, Bool.true_and]
    by_cases h1 : 0 ≤ find cs a1
    · have h1' : ¬ find cs a1 < 0 := by omega
      by_cases h2 : 0 ≤ find cs a2
      · have h2' : ¬ find cs a2 < 0 := by omega
        obtain ⟨hn, hm, hin⟩ := goodB_parts hg
        obtain ⟨i, hi, hil⟩ := find_nat cs a1 h1
        obtain ⟨k, hk, hkl⟩ := find_nat cs a2 h2
        have h3 : (i : Int) < (cs.length : Int) := by omega
        have h4 : ¬ (i : Int) < 0 := by omega
        have h5 : ¬ (k : Int) < 0 := by omega
        have h6 : (0 : Int) ≤ (i : Int) := by omega
        have h7 : (0 : Int) ≤ (k : Int) := by omega
        rw [hi, hk]
        simp only [h4, h5, h6, h7, decide_true, decide_false, if_false, if_true, Bool.and_self, Int.toNat_natCast]
        refine Ev.step (fun q => by rw [spec_IsLater.j0]) ?_
        simp only [Bool.false_eq_true, if_false]
        refine Ev.bind (l4Later_ev cs rs hn hm hin) ?_
        simp only [h6, if_true, masks_length, h3]
        rw [l4Bit_masks cs.length i k (lat cs rs) (by omega) hil hkl]
        exact Ev.now _
      · have h2' : find cs a2 < 0 := by omega
        simp only [h1, h1', h2, h2', decide_true, decide_false, if_false, Bool.true_and, Bool.false_eq_true]
        refine Ev.step (fun q => by rw [spec_IsLater.j0]) ?_
        simp only [if_true]
        exact Ev.now _
    · have h1' : find cs a1 < 0 := by omega
      simp only [h1, h1', decide_true, decide_false, if_true, Bool.false_and, Bool.false_eq_true, if_false]
      refine Ev.step (fun q => by rw [spec_IsLater.j0]) ?_
      simp only [if_true]
      exact Ev.now _
theorem FnExactIsLater : ∀ (l0_0 : List (S57)) (l0_1 : List (S51)) (a1 : Int) (a2 : Int), ((l0_0.length ≤ 9223372036854775807) ∧ ∀ y4 ∈ l0_0, ((Lit.int .i64 y4.f0).wf = true) ∧ ((Lit.int .i64 y4.f1).wf = true)) → ((l0_1.length ≤ 9223372036854775807) ∧ ∀ y4 ∈ l0_1, ((Lit.int .i64 y4.f0).wf = true) ∧ ((Lit.int .i64 y4.f1).wf = true)) → ((Lit.int .i64 a1).wf = true) → ((Lit.int .i64 a2).wf = true) → ∃ k, laws_FnExactIsLater.f k l0_0 l0_1 a1 a2 = some true := by
  intro l0 l1 a1 a2 g0 g1 _ _
  obtain ⟨t, ht, hc⟩ := szRecord_eq l0 l1 g0.1 g1.1
  refine Ev.rounds ?_
  unfold laws_FnExactIsLater.f
  rw [ht]
  simp only [Option.bind_some]
  rcases hc with hc | ⟨h0, _, hl0, hl1⟩
  · simp only [hc, if_true]
    exact Ev.now _
  · have hn : ¬ t < 0 := by omega
    have hC : (l0.map cvC).length ≤ 1048576 := by rw [List.length_map]; exact hl0
    have hR : (l1.map cvR).length ≤ 1048576 := by rw [List.length_map]; exact hl1
    have himpl : impl_IsLater.f (l0.map cvC) (l1.map cvR) a1 a2 = some (answer (l0.map cvC) (l1.map cvR) a1 a2) := rfl
    simp only [hn, if_false]
    refine Ev.bind (toRecord_ev l0 l1 hl0 hl1) ?_
    refine Ev.bind (spec_ev _ _ a1 a2) ?_
    refine Ev.bind (toRecord_ev l0 l1 hl0 hl1) ?_
    simp only [himpl, Option.bind_some, bne_self_eq_false, Bool.false_eq_true, if_false]
    refine Ev.step (fun k => by rw [laws_FnExactIsLater.j0]) ?_
    simp only [Bool.false_eq_true, if_false]
    refine Ev.bind (toRecord_ev l0 l1 hl0 hl1) ?_
    refine Ev.bind (eqRecord_ev _ _ hC hR) ?_
    simp only [if_true]
    exact Ev.now _
end Go.Proofs.Ytojdchmkhhpmiaa.Pure

/- The law FnExactWouldContradict answers true at every record and relation: WouldContradict of the program and of the reference agree. No conditions. -/
import Derived.Test.YtojdchmkhhpmiaaQ0
import Derived.Test.YtojdchmkhhpmiaaQF14
import Derived.Test.YtojdchmkhhpmiaaQF50
import Derived.Test.YtojdchmkhhpmiaaQF51
import Derived.Test.YtojdchmkhhpmiaaLBaseB
import Derived.Test.YtojdchmkhhpmiaaLBaseOrder
namespace Go.Proofs.Ytojdchmkhhpmiaa.Pure
open Go.RowKit Go.Proofs.Ytojdchmkhhpmiaa.Q Go.Proofs.YtojdchmkhhpmiaaW.PrintWords Go.Proofs.Ytojdchmkhhpmiaa.L
def answer (cs : List S59) (rs : List S53) (a1 a2 : Int) : Bool × Bool := if (goodB cs rs && decide (0 ≤ find cs a1)) && (goodB cs rs && decide (0 ≤ find cs a2)) && !(a1 == a2) then (lat cs rs (find cs a2).toNat (find cs a1).toNat, true) else (false, false)
theorem spec_ev (cs : List S59) (rs : List S53) (a1 a2 : Int) : Ev (fun k => spec_WouldContradict.f k cs rs a1 a2) (answer cs rs a1 a2) := by
  unfold spec_WouldContradict.f answer
  simp only [spec_l2Good.f, find_f, Option.bind_some]
  cases hg : goodB cs rs with
  | false =>
    simp only [Bool.false_eq_true, if_false, Bool.false_and]
    refine Ev.step (fun q => by rw [spec_WouldContradict.j0]) ?_
    simp only [if_true]
    exact Ev.now _
  | true =>
    simp only [if_true, Bool.true_and]
    by_cases h1 : 0 ≤ find cs a1
    · have h1' : ¬ find cs a1 < 0 := by omega
      by_cases h2 : 0 ≤ find cs a2
      · have h2' : ¬ find cs a2 < 0 := by omega
        obtain ⟨hn, hm, hin⟩ := goodB_parts hg
        obtain ⟨i, hi, hil⟩ := find_nat cs a1 h1
        obtain ⟨k, hk, hkl⟩ := find_nat cs a2 h2
        have h3 : (k : Int) < (cs.length : Int) := by omega
        have h4 : ¬ (i : Int) < 0 := by omega
        have h5 : ¬ (k : Int) < 0 := by omega
        have h6 : (0 : Int) ≤ (i : Int) := by omega
        have h7 : (0 : Int) ≤ (k : Int) := by omega
        have he : ((i : Int) == (k : Int)) = (a1 == a2) := by
          by_cases e : a1 = a2
          · subst e
            have : i = k := by omega
            subst this; simp
          · have : ¬ (i : Int) = (k : Int) := fun e2 => e (find_inj cs a1 a2 i hi (by omega))
            rw [beq_eq_false_iff_ne.2 e, beq_eq_false_iff_ne.2 this]
        rw [hi, hk]
        simp only [h4, h5, h6, h7, decide_true, if_false, Bool.and_self, Bool.true_and, Int.toNat_natCast, he]
        cases hab : (a1 == a2) with
        | true =>
          refine Ev.step (fun q => by rw [spec_WouldContradict.j0]) ?_
          simp only [Bool.not_true, Bool.false_eq_true, if_true, if_false]
          exact Ev.now _
        | false =>
          refine Ev.step (fun q => by rw [spec_WouldContradict.j0]) ?_
          simp only [Bool.not_false, Bool.false_eq_true, if_true, if_false]
          refine Ev.bind (l4Later_ev cs rs hn hm hin) ?_
          simp only [h7, if_true, masks_length, h3]
          rw [l4Bit_masks cs.length k i (lat cs rs) (by omega) hkl hil]
          exact Ev.now _
      · have h2' : find cs a2 < 0 := by omega
        simp only [h1, h1', h2, h2', decide_true, decide_false, if_true, if_false, Bool.true_and, Bool.false_and, Bool.false_eq_true]
        refine Ev.step (fun q => by rw [spec_WouldContradict.j0]) ?_
        simp only [if_true]
        exact Ev.now _
    · have h1' : find cs a1 < 0 := by omega
      simp only [h1, h1', decide_false, if_true, Bool.false_and, Bool.false_eq_true, if_false]
      refine Ev.step (fun q => by rw [spec_WouldContradict.j0]) ?_
      simp only [if_true]
      exact Ev.now _
theorem FnExactWouldContradict : ∀ (l0_0 : List (S57)) (l0_1 : List (S51)) (a1_0 : Int) (a1_1 : Int), ((l0_0.length ≤ 9223372036854775807) ∧ ∀ y4 ∈ l0_0, ((Lit.int .i64 y4.f0).wf = true) ∧ ((Lit.int .i64 y4.f1).wf = true)) → ((l0_1.length ≤ 9223372036854775807) ∧ ∀ y4 ∈ l0_1, ((Lit.int .i64 y4.f0).wf = true) ∧ ((Lit.int .i64 y4.f1).wf = true)) → ((Lit.int .i64 a1_0).wf = true) → ((Lit.int .i64 a1_1).wf = true) → ∃ k, laws_FnExactWouldContradict.f k l0_0 l0_1 a1_0 a1_1 = some true := by
  intro l0 l1 a1 a2 g0 g1 _ _
  obtain ⟨t, ht, hc⟩ := szRecord_eq l0 l1 g0.1 g1.1
  refine Ev.rounds ?_
  unfold laws_FnExactWouldContradict.f
  rw [ht]
  simp only [Option.bind_some]
  rcases hc with hc | ⟨h0, _, hl0, hl1⟩
  · simp only [hc, if_true]
    exact Ev.now _
  · have hn : ¬ t < 0 := by omega
    have hC : (l0.map cvC).length ≤ 1048576 := by rw [List.length_map]; exact hl0
    have hR : (l1.map cvR).length ≤ 1048576 := by rw [List.length_map]; exact hl1
    have himpl : impl_WouldContradict.f (l0.map cvC) (l1.map cvR) a1 a2 = some (answer (l0.map cvC) (l1.map cvR) a1 a2) := rfl
    simp only [hn, if_false]
    refine Ev.bind (toRecord_ev l0 l1 hl0 hl1) ?_
    simp only [laws_toRelation.f, Option.bind_some]
    refine Ev.bind (spec_ev _ _ a1 a2) ?_
    refine Ev.bind (toRecord_ev l0 l1 hl0 hl1) ?_
    simp only [himpl, Option.bind_some, bne_self_eq_false, Bool.false_eq_true, if_false]
    refine Ev.step (fun k => by rw [laws_FnExactWouldContradict.j0]) ?_
    simp only [Bool.false_eq_true, if_false]
    refine Ev.bind (toRecord_ev l0 l1 hl0 hl1) ?_
    refine Ev.bind (eqRecord_ev _ _ hC hR) ?_
    simp only [if_true]
    exact Ev.now _
end Go.Proofs.Ytojdchmkhhpmiaa.Pure

/- The law FnExactEarlierContexts answers true at every record and number: EarlierContexts of the program and of the reference agree. No conditions. -/
import Derived.Test.YtdpehkfjhfjobaaQ0
import Derived.Test.YtdpehkfjhfjobaaQF6
import Derived.Test.YtdpehkfjhfjobaaQF28
import Derived.Test.YtdpehkfjhfjobaaQF29
import Derived.Test.YtdpehkfjhfjobaaLBaseB
import Derived.Test.YtdpehkfjhfjobaaLBaseMark
import Derived.Test.YtdpehkfjhfjobaaLBaseOrder
import Derived.Test.YtdpehkfjhfjobaaLBaseInts
namespace Go.Proofs.Ytdpehkfjhfjobaa.Pure
open Go.RowKit Go.Proofs.Ytdpehkfjhfjobaa.Q Go.Proofs.YtdpehkfjhfjobaaW.PrintWords Go.Proofs.Ytdpehkfjhfjobaa.L
def answer (cs : List S76) (rs : List S90) (n : Int) : List Int × Bool := if goodB cs rs && decide (0 ≤ find cs n) then (numsTo cs (fun i => lat cs rs (find cs n).toNat i) cs.length, true) else ([], false)
theorem impl_eq (cs : List S76) (rs : List S90) (n : Int) : impl_EarlierContexts.f cs rs n = some (answer cs rs n) := rfl
theorem answer_len (cs : List S76) (rs : List S90) (n : Int) (hc : cs.length ≤ 1048576) (_ : rs.length ≤ 1048576) : (answer cs rs n).1.length ≤ 1048576 := by
  unfold answer
  split
  · exact Nat.le_trans (numsTo_le _ _ _) hc
  · simp
theorem spec_ev (cs : List S76) (rs : List S90) (n : Int) (_ : cs.length ≤ 1048576) (_ : rs.length ≤ 1048576) : Ev (fun k => spec_EarlierContexts.f k cs rs n) (answer cs rs n) := by
  unfold spec_EarlierContexts.f answer
  simp only [spec_l2Good.f, find_f, Option.bind_some]
  cases hg : goodB cs rs with
  | false =>
    simp only [Bool.false_eq_true, if_false, Bool.false_and]
    refine Ev.step (fun q => by rw [spec_EarlierContexts.j0]) ?_
    simp only [if_true]
    exact Ev.now _
  | true =>
    simp only [if_true, Bool.true_and]
    by_cases h : 0 ≤ find cs n
    · have h' : ¬ find cs n < 0 := by omega
      obtain ⟨hn, hm, hin⟩ := goodB_parts hg
      obtain ⟨k, hk, hkl⟩ := find_nat cs n h
      have b3 : (k : Int) < (cs.length : Int) := by omega
      have b4 : (0 : Int) ≤ (k : Int) := by omega
      refine Ev.step (fun q => by rw [spec_EarlierContexts.j0]) ?_
      simp only [h, h', decide_true, decide_false, if_true, Bool.false_eq_true, if_false]
      refine Ev.bind (l4Later_ev cs rs hn hm hin) ?_
      rw [hk, Int.toNat_natCast]
      generalize lat cs rs = M
      have key := Ev.down cs.length (fun q i => spec_EarlierContexts.l0 q (numsTo cs (fun i => M k i) i) (k : Int) (masks cs.length M) (i : Int) cs rs) (fun _ => (numsTo cs (fun i => M k i) cs.length, true))
        (by
          refine Ev.step (fun q => by rw [spec_EarlierContexts.l0]) ?_
          simp only [masks_length, Int.lt_irrefl, if_false]
          exact Ev.now _)
        (fun i hi ih => by
          have a3 : (i : Int) < (cs.length : Int) := by omega
          have a4 : (0 : Int) ≤ (i : Int) := by omega
          have a5 : (numsTo cs (fun i => M k i) i).length < 17592186044416 := by have := numsTo_le cs (fun i => M k i) i; omega
          refine Ev.step (fun q => by rw [spec_EarlierContexts.l0]) ?_
          simp only [masks_length, a3, a4, a5, b3, b4, if_true, w64 i (by omega), rdC cs i hi]
          rw [l4Bit_masks cs.length k i M (by omega) hkl hi]
          simp only [Option.bind_some]
          have hs := numsTo_succ cs (fun i => M k i) i
          rw [getDC cs i hi] at hs
          cases hb : M k i with
          | true =>
            simp only [hb, if_true] at hs ⊢
            rw [← hs]
            exact ih
          | false =>
            simp only [hb, Bool.false_eq_true, if_false] at hs ⊢
            rw [← hs]
            exact ih)
      exact key 0 (Nat.zero_le _)
    · have h' : find cs n < 0 := by omega
      refine Ev.step (fun q => by rw [spec_EarlierContexts.j0]) ?_
      simp only [h, h', decide_true, decide_false, if_true, Bool.false_eq_true, if_false]
      exact Ev.now _
theorem FnExactEarlierContexts : ∀ (l0_0 : List (S110)) (l0_1 : List (S102)) (a1 : Int), ((l0_0.length ≤ 9223372036854775807) ∧ ∀ y4 ∈ l0_0, ((Lit.int .i64 y4.f0).wf = true) ∧ ((Lit.int .i64 y4.f1).wf = true)) → ((l0_1.length ≤ 9223372036854775807) ∧ ∀ y4 ∈ l0_1, ((Lit.int .i64 y4.f0).wf = true) ∧ ((Lit.int .i64 y4.f1).wf = true)) → ((Lit.int .i64 a1).wf = true) → ∃ k, laws_FnExactEarlierContexts.f k l0_0 l0_1 a1 = some true := by
  intro l0 l1 n g0 g1 _
  obtain ⟨t, ht, hc⟩ := szRecord_eq l0 l1 g0.1 g1.1
  refine Ev.rounds ?_
  unfold laws_FnExactEarlierContexts.f
  rw [ht]
  simp only [Option.bind_some]
  rcases hc with hc | ⟨h0, _, hl0, hl1⟩
  · simp only [hc, if_true]
    exact Ev.now _
  · have hn : ¬ t < 0 := by omega
    have hC : (l0.map cvC).length ≤ 1048576 := by rw [List.length_map]; exact hl0
    have hR : (l1.map cvR).length ≤ 1048576 := by rw [List.length_map]; exact hl1
    have himpl : impl_EarlierContexts.f (l0.map cvC) (l1.map cvR) n = some (answer (l0.map cvC) (l1.map cvR) n) := impl_eq _ _ n
    have hAl := answer_len (l0.map cvC) (l1.map cvR) n hC hR
    simp only [hn, if_false]
    refine Ev.bind (toRecord_ev l0 l1 hl0 hl1) ?_
    refine Ev.bind (spec_ev _ _ n hC hR) ?_
    refine Ev.bind (toRecord_ev l0 l1 hl0 hl1) ?_
    simp only [himpl, Option.bind_some]
    generalize answer (l0.map cvC) (l1.map cvR) n = A at hAl himpl ⊢
    refine Ev.bind (eqIntS_ev A.1 hAl) ?_
    simp only [bne_self_eq_false, if_true]
    refine Ev.step (fun k => by rw [laws_FnExactEarlierContexts.j0]) ?_
    simp only [Bool.false_eq_true, if_false]
    refine Ev.bind (toRecord_ev l0 l1 hl0 hl1) ?_
    refine Ev.bind (eqRecord_ev _ _ hC hR) ?_
    simp only [if_true]
    obtain ⟨m, x, y, hm, _, hmk⟩ := markRecord_ev (l0.map cvC) (l1.map cvR) 1 hC hR (by omega) (by omega)
    refine Ev.bind hmk ?_
    have hm2 : ¬ m < 0 := by omega
    simp only [hm2, if_false]
    refine Ev.bind (eqIntS_ev A.1 hAl) ?_
    simp only [if_true, bne_self_eq_false]
    refine Ev.step (fun k => by rw [laws_FnExactEarlierContexts.j1]) ?_
    simp only [Bool.false_eq_true, if_false]
    refine Ev.bind (markIntS_ev A.1 1 hAl (by omega) (by omega)) ?_
    refine Ev.bind (heldIntS_ev A.1.length 1 hAl (by omega) (by omega)) ?_
    have h2 : ¬ (1 + (A.1.length : Int)) < 0 := by omega
    simp only [h2, if_false, if_true]
    refine Ev.bind (toRecord_ev l0 l1 hl0 hl1) ?_
    simp only [himpl, Option.bind_some]
    refine Ev.bind (eqIntS_ev A.1 hAl) ?_
    simp only [bne_self_eq_false, if_true]
    refine Ev.step (fun k => by rw [laws_FnExactEarlierContexts.j2]) ?_
    simp only [Bool.false_eq_true, if_false]
    refine Ev.bind (heldIntS_ev A.1.length 1 hAl (by omega) (by omega)) ?_
    simp only [h2, if_false, if_true]
    exact Ev.now _
end Go.Proofs.Ytdpehkfjhfjobaa.Pure

-- Written by a program of this session (wip/xprint.py over the kit's printer).
import Derived.Test.YtlmdmnenljmdgaaQ0
import Derived.Test.YtlmdmnenljmdgaaQF66
import Derived.Test.YtlmdmnenljmdgaaQP
namespace Go.Proofs.Ytlmdmnenljmdgaa.Q
open Go.RowKit Go.Proofs.YtlmdmnenljmdgaaW.PrintWords Go.Proofs.YtlmdmnenljmdgaaW.PrintLast
set_option linter.unusedVariables false
set_option linter.unusedSimpArgs false

/-! ### impl_Relation_37: function 37 -/
theorem indexR_ev (rs : List S36) (a b : Int) (hl : rs.length ≤ 1048576) : Ev (fun k => impl_Relation_66.f k rs a b) (idxI (fun x => a == x.f0 && b == x.f1) rs) := by
  have key : ∀ (d i : Nat), rs.length - i = d → i ≤ rs.length → Ev (fun k => impl_Relation_66.l0 k rs (rs.length : Int) (i : Int) a b) (if idxI (fun x => a == x.f0 && b == x.f1) (rs.drop i) = -1 then -1 else (i : Int) + idxI (fun x => a == x.f0 && b == x.f1) (rs.drop i)) := by
    intro d
    induction d with
    | zero =>
      intro i hd hi
      obtain rfl : i = rs.length := by omega
      refine Ev.step (fun q => by rw [impl_Relation_66.l0]) ?_
      simp only [Int.lt_irrefl, if_false, List.drop_length, idxI, if_true]
      exact Ev.now _
    | succ d ih =>
      intro i hd hi
      have hlt : i < rs.length := by omega
      have a3 : (i : Int) < (rs.length : Int) := by omega
      have a4 : (0 : Int) ≤ (i : Int) := by omega
      have e1 : rd_T36 rs (i : Int) = rs[i] := by simp [rd_T36, List.getD_eq_getElem?_getD, List.getElem?_eq_getElem hlt]
      have e2 : wrap64 ((i : Int) + 1) = ((i + 1 : Nat) : Int) := by unfold wrap64; omega
      refine Ev.step (fun q => by rw [impl_Relation_66.l0]) ?_
      simp only [a3, a4, if_true, e1, e2]
      rw [List.drop_eq_getElem_cons hlt]
      simp only [idxI]
      by_cases h : (a == rs[i].f0 && b == rs[i].f1) = true
      · simp only [h, if_true, show ¬ (0 : Int) = -1 by decide, if_false, Int.add_zero]
        exact Ev.now _
      · have h' : (a == rs[i].f0 && b == rs[i].f1) = false := Bool.eq_false_iff.2 h
        simp only [h', Bool.false_eq_true, if_false]
        have h3 := ih (i + 1) (by omega) (by omega)
        have hr := idxI_range (fun x : S36 => a == x.f0 && b == x.f1) (rs.drop (i + 1))
        by_cases h4 : idxI (fun x : S36 => a == x.f0 && b == x.f1) (rs.drop (i + 1)) = -1
        · simp only [h4, if_true] at h3 ⊢
          exact h3
        · have h5 : ¬ idxI (fun x : S36 => a == x.f0 && b == x.f1) (rs.drop (i + 1)) + 1 = -1 := by omega
          simp only [h4, h5, if_false] at h3 ⊢
          rw [show (i : Int) + (idxI (fun x : S36 => a == x.f0 && b == x.f1) (rs.drop (i + 1)) + 1) = ((i + 1 : Nat) : Int) + idxI (fun x : S36 => a == x.f0 && b == x.f1) (rs.drop (i + 1)) by omega]
          exact h3
  have h0 := key rs.length 0 (by omega) (by omega)
  unfold impl_Relation_66.f
  simp only [List.drop_zero] at h0
  refine Ev.congr (fun k => rfl) ?_
  have e : (if idxI (fun x : S36 => a == x.f0 && b == x.f1) rs = -1 then -1 else ((0 : Nat) : Int) + idxI (fun x : S36 => a == x.f0 && b == x.f1) rs) = idxI (fun x : S36 => a == x.f0 && b == x.f1) rs := by
    split <;> omega
  rw [e] at h0
  exact h0
theorem idxI_any {α : Type} (p : α → Bool) : ∀ (l : List α), decide (idxI p l ≥ 0) = l.any p
  | [] => by simp [idxI]
  | x :: r => by
    have hr := idxI_range p r
    have ih := idxI_any p r
    cases hp : p x with
    | true => simp [idxI, hp]
    | false =>
      simp only [idxI, hp, Bool.false_eq_true, if_false, List.any_cons, Bool.false_or, ← ih]
      split <;> (apply decide_eq_decide.2; omega)
def impl_Relation_37.f (l0 : List S36) (a1_0 a1_1 : Int) : Option Bool := if l0.length ≤ 1048576 then some (l0.any fun x => a1_0 == x.f0 && a1_1 == x.f1) else none
set_option maxHeartbeats 8000000 in
set_option maxRecDepth 100000 in
theorem impl_Relation_37.calls (A0 : Option Addr) (c0 : Nat) (l0 : List S36) (a1_0 a1_1 : Int) (r : Bool) (w : World) (hr0 : Kd.C k36 w A0 l0.length l0) (hc0 : l0.length ≤ c0) (h : impl_Relation_37.f l0 a1_0 a1_1 = some r) :
    Calls Try.prog 37 #[.slice A0 l0.length c0, .agg #[.int .i64 a1_0, .int .i64 a1_1]] w fun e w' => e = .returned (.bool r) ∧ Below w.heap.size w w' := by
  unfold impl_Relation_37.f at h
  by_cases hl : l0.length ≤ 1048576
  · rw [if_pos hl] at h
    obtain rfl := Option.some.inj h
    clear h
    obtain ⟨k, hk⟩ := Ev.rounds (indexR_ev l0 a1_0 a1_1 hl)
    rw [← idxI_any]
    obtain ⟨n, hn⟩ : ∃ n, idxI (fun x : S36 => a1_0 == x.f0 && a1_1 == x.f1) l0 = n := ⟨_, rfl⟩
    rw [hn] at hk ⊢
    have HK := Aside0.mk hk
    have HR0 := Aside0.mk hr0
    clear hk hn hr0
    have HBw := Aside0.mk (Below.refl w.heap.size w)
    go_enter Try.func37, Try.ntmps37
    go_wp2_with (go_at_call 66; (with_reducible refine (impl_Relation_66.calls k _ _ l0 a1_0 a1_1 n _ (Kd.C_below HR0.out (by repeat (first | exact HBw.out | exact Below.refl _ _ | apply below_alloc | apply pw_below_drewN | apply below_drew1))) hc0 HK.out).mono ?_); rintro e w1 ⟨rfl, hb⟩; have HBw : Aside0 (Below w.heap.size w w1) := Aside0.mk (below_chain (w := w) (by repeat (first | exact HBw.out | exact Below.refl _ _ | apply below_alloc | apply pw_below_drewN | apply below_drew1)) hb); clear hb)
    go_ret
    exact ⟨by simp, (by repeat (first | exact HBw.out | exact Below.refl _ _ | apply below_alloc | apply pw_below_drewN | apply below_drew1))⟩
  · rw [if_neg hl] at h
    exact absurd h (by simp)

end Go.Proofs.Ytlmdmnenljmdgaa.Q

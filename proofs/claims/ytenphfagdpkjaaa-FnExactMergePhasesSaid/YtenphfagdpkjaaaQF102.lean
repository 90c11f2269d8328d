-- Written by a program of this session (wip/xprint.py over the kit's printer).
import Derived.Test.YtenphfagdpkjaaaQ0
import Derived.Test.YtenphfagdpkjaaaQF88
import Derived.Test.YtenphfagdpkjaaaQP
namespace Go.Proofs.Ytenphfagdpkjaaa.Q
open Go.RowKit Go.Proofs.YtenphfagdpkjaaaW.PrintWords Go.Proofs.YtenphfagdpkjaaaW.PrintLast
set_option linter.unusedVariables false
set_option linter.unusedSimpArgs false

/-! ### impl_Phase_102: function 102 -/
theorem any_idx {α : Type} (p : α → Bool) (l : List α) : decide (0 ≤ idxI p l) = l.any p := by
  induction l with
  | nil => rfl
  | cons x r ih =>
    have hr := idxI_range p r
    rw [List.any_cons, ← ih, idxI]
    cases hp : p x with
    | true => simp
    | false =>
      simp only [Bool.false_eq_true, if_false, Bool.false_or]
      split
      · rename_i h; rw [h]
      · exact decide_eq_decide.2 ⟨fun h => by omega, fun h => by omega⟩
set_option maxHeartbeats 2000000 in
set_option maxRecDepth 100000 in
theorem impl_Phase_102.calls (g : Nat) (lb : Array Value) (eg : ∀ args w, (callFunc g args).run Try.prog w = .ok (.enter g args) w) (p : S64 → Bool) (A0 : Option Addr) (c0 : Nat) (n : Nat) (l0 : List S64) (w : World) (hn : n = l0.length) (hr0 : Kd.C k64 w A0 n l0) (hc0 : n ≤ c0)
    (hp : PredP Try.prog g lb p w) :
    Calls Try.prog 102 #[.slice A0 n c0, .func (.func g) #[] lb] w fun e w' => e = .returned (.bool (l0.any p)) ∧ Below w.heap.size w w' := by
  have h0 := impl_Phase_88.calls g lb eg p A0 c0 n l0 w hn hr0 hc0 hp
  have hd := any_idx p l0
  generalize l0.any p = b at hd ⊢
  generalize idxI p l0 = ix at hd h0
  have HD := Aside0.mk hd
  have HCL := Aside0.mk h0
  clear hd h0 hp hn hr0
  by_cases hix : 0 ≤ ix
  all_goals
    go_enter Try.func102, Try.ntmps102
    go_wp2_with (go_at_call 88; (refine HCL.out.mono ?_); rintro e w1 ⟨rfl, hb⟩; have HC := Aside0.mk hb; clear hb)
    go_ret
    exact ⟨by rw [← HD.out]; first | rfl | simp [hix], HC.out⟩

end Go.Proofs.Ytenphfagdpkjaaa.Q

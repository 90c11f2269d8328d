-- Written by a program of this session (wip/xprint.py over the kit's printer).
import Derived.Test.YtdpehkfjhfjobaaQ0
import Derived.Test.YtdpehkfjhfjobaaQF106
import Derived.Test.YtdpehkfjhfjobaaQF112
import Derived.Test.YtdpehkfjhfjobaaQF96
import Derived.Test.YtdpehkfjhfjobaaQP
namespace Go.Proofs.Ytdpehkfjhfjobaa.Q
open Go.RowKit Go.Proofs.YtdpehkfjhfjobaaW.PrintWords Go.Proofs.YtdpehkfjhfjobaaW.PrintLast Go.Proofs.YtdpehkfjhfjobaaW.PrintMore
attribute [local go_sem] max2_int min2_int max_two min_two max_three min_three max_four min_four   -- for this text's walks alone
set_option linter.unusedVariables false
set_option linter.unusedSimpArgs false

/-! ### slices_ContainsFunc_bool_bool: function 85 -/
set_option maxHeartbeats 8000000 in
set_option maxRecDepth 100000 in
theorem slices_ContainsFunc_bool_bool.calls (g : Nat) (lb : Array Value) (eg : ∀ args w, (callFunc g args).run Try.prog w = .ok (.enter g args) w) (q : Nat → Bool) (N n : Nat) (M : Nat → Nat → Bool) (w : World) (H : Mat w N n M) (hn : n ≤ 1000) (hp : PredRow Try.prog g lb q N n w) :
    Calls Try.prog 85 #[.slice (some ⟨N, 0, none⟩) n n, .func (.func g) #[] lb] w fun e w' => e = .returned (.bool ((List.range n).any q)) ∧ Below w.heap.size w w' := by
  have HM := Aside0.mk H
  have HP := Aside0.mk hp
  have HE := Aside0.mk eg
  rw [← idxI_any]
  obtain ⟨z, hz⟩ : ∃ z, idxI q (List.range n) = z := ⟨_, rfl⟩
  rw [hz]
  have HZ := Aside0.mk hz
  clear H hp eg hz
  go_enter Try.func85, Try.ntmps85
  go_wp2_with (go_at_call 112; (refine (slices_IndexFunc_bool_bool.calls g lb HE.out q N n M _ HM.out hn HP.out).mono ?_); rintro e w1 ⟨rfl, hb⟩; rw [HZ.out]; have HB := Aside0.mk hb; clear hb)
  go_ret
  exact ⟨by simp, HB.out⟩

end Go.Proofs.Ytdpehkfjhfjobaa.Q

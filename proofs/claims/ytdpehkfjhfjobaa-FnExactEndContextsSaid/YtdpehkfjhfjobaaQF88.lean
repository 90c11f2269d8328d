-- Written by a program of this session (wip/xprint.py over the kit's printer).
import Derived.Test.YtdpehkfjhfjobaaQ0
import Derived.Test.YtdpehkfjhfjobaaQF113
import Derived.Test.YtdpehkfjhfjobaaQF96
import Derived.Test.YtdpehkfjhfjobaaQP
namespace Go.Proofs.Ytdpehkfjhfjobaa.Q
open Go.RowKit Go.Proofs.YtdpehkfjhfjobaaW.PrintWords Go.Proofs.YtdpehkfjhfjobaaW.PrintLast Go.Proofs.YtdpehkfjhfjobaaW.PrintMore
attribute [local go_sem] max2_int min2_int max_two min_two max_three min_three max_four min_four   -- for this text's walks alone
set_option linter.unusedVariables false
set_option linter.unusedSimpArgs false

/-! ### slices_Contains_bool_bool: function 88 -/
set_option maxHeartbeats 8000000 in
set_option maxRecDepth 100000 in
theorem slices_Contains_bool_bool.calls (g n : Nat) (q : Nat → Bool) (w : World) (H : w.rowIs g 4 n (fun k => .bool (q k))) (hn : n ≤ 1000) :
    Calls Try.prog 88 #[.slice (some ⟨g, 0, none⟩) n n, .bool true] w fun e w' => e = .returned (.bool ((List.range n).any q)) ∧ Below w.heap.size w w' := by
  have HM := Aside0.mk H
  rw [← idxI_any]
  obtain ⟨z, hz⟩ : ∃ z, idxI q (List.range n) = z := ⟨_, rfl⟩
  rw [hz]
  have HZ := Aside0.mk hz
  clear H hz
  go_enter Try.func88, Try.ntmps88
  go_wp2_with (go_at_call 113; (refine (slices_Index_bool_bool.calls g n q _ HM.out hn).mono ?_); rintro e w1 ⟨rfl, hb⟩; rw [HZ.out]; have HB := Aside0.mk hb; clear hb)
  go_ret
  exact ⟨by simp, HB.out⟩

end Go.Proofs.Ytdpehkfjhfjobaa.Q

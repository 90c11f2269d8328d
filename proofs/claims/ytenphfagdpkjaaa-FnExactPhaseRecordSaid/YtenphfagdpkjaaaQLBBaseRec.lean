-- Written by a program of this session (wip/xprint.py over the kit's printer).
import Derived.Test.YtenphfagdpkjaaaQ0
import Derived.Test.YtenphfagdpkjaaaQLBBaseHeldC
import Derived.Test.YtenphfagdpkjaaaQLBBaseHeldR
import Derived.Test.YtenphfagdpkjaaaQM0
import Derived.Test.YtenphfagdpkjaaaQM1
namespace Go.Proofs.Ytenphfagdpkjaaa.Q
open Go.RowKit Go.Proofs.YtenphfagdpkjaaaW.PrintWords Go.Proofs.YtenphfagdpkjaaaW.PrintLast
set_option linter.unusedVariables false
set_option linter.unusedSimpArgs false

/-! ### LB BaseRec -/
namespace LB
theorem markRec_pairs (cs : List S77) (rs : List S91) (hc : cs.length ≤ 1048576) (hr : rs.length ≤ 1048576) : Ev (fun q => laws_markRecord.f q cs rs 1) (1 + 2 * (cs.length : Int) + 2 * (rs.length : Int), pairsC 1 cs.length, pairsR (1 + 2 * (cs.length : Int)) rs.length) := by
  unfold laws_markRecord.f
  exact Ev.bind (markC_pairs cs 1 hc (by omega) (by omega)) (Ev.bind (markR_pairs rs _ hr (by omega) (by omega)) (Ev.now _))
theorem heldRec_pairs (a b : Nat) (hc : a ≤ 1048576) (hr : b ≤ 1048576) : Ev (fun q => laws_heldRecord.f q (pairsC 1 a) (pairsR (1 + 2 * (a : Int)) b) 1) (1 + 2 * (a : Int) + 2 * (b : Int)) := by
  unfold laws_heldRecord.f
  refine Ev.bind (heldC_pairs a 1 hc (by omega) (by omega)) ?_
  have h1 : ¬ (1 + 2 * (a : Int)) < 0 := by omega
  simp only [h1, if_false]
  refine Ev.bind (heldR_pairs b _ hr (by omega) (by omega)) ?_
  have h2 : ¬ (1 + 2 * (a : Int) + 2 * (b : Int)) < 0 := by omega
  simp only [h2, if_false]
  exact Ev.now _
end LB

end Go.Proofs.Ytenphfagdpkjaaa.Q

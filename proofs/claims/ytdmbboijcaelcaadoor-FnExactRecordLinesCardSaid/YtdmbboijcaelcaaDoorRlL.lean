/- RecordLines: the law. -/
import Derived.Test.YtdmbboijcaelcaaDoorRl
import Derived.Test.YtdmbboijcaelcaaDoorMk
import Derived.Test.YtdmbboijcaelcaaDoorQF11
namespace Go.Proofs.YtdmbboijcaelcaaDoor.Q
open Go.RowKit Go.Proofs.YtdmbboijcaelcaaDoorW.PrintWords Go.Proofs.YtdmbboijcaelcaaDoorW.PrintLast
set_option linter.unusedVariables false
theorem law_FnExactRecordLines_calls (A0 : Option Addr) (c0 : Nat) (l0 : List S119) (A1 : Option Addr) (c1 : Nat) (l1 : List S121) (n : Int) (w : World) (hr0 : Kd.C k119 w A0 l0.length l0) (hc0 : l0.length ≤ c0) (hr1 : Kd.C k121 w A1 l1.length l1) (hc1 : l1.length ≤ c1) (hn : (Lit.int .i64 n).wf = true) (hlw : LW w) :
    Calls Tryd.prog 11 #[.agg #[.slice A0 l0.length c0, .slice A1 l1.length c1], .int .i64 n] w fun e w' => e = .returned (.bool true) ∧ Below w.heap.size w w' :=
  laws_FnExactRecordLines.calls A0 c0 l0 A1 c1 l1 n w hr0 hc0 hr1 hc1 hlw (fun cs rs _ _ => RecordLines_both cs rs n) eqSS_ev markSS_held
end Go.Proofs.YtdmbboijcaelcaaDoor.Q

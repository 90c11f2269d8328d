/-
  No cell of these rows narrows 'for every input' (looked for: loops, veiled, ifaces, maps, wideKeys, modest, calm, conditions, laid).
  DERIVED. THE GIVEN ROWS OF THIS SEAT. 6 by the template 'for every input the law returns true; each argument reads behind the call as it read before'; 0 by the template 'total and deterministic' (their statements: YtlbkoejpjpcgaaaTotals.lean).
  GIVEN WITH THE SEED: the statements are not yours to turn. If you find one false, say at which input.
  Laid BY PROGRAM, IN A SANDBOX (cutbox-rows.mjs): the forced cells as the released guide's own fill.sh prints them over the translation 8ccf48744bea2383… (all of the seat's roots in one cut). By AI agents, Wed Nov 11 2026. No macro, syntax, notation, axiom, sorry.
-/
import Derived.Test.YtlbkoejpjpcgaaaChecked
import GoSem.Claim
import GoSem.ClaimJoined
import GoSem.ClaimMapViews
import Derived.JoinedTies
import Derived.KernelRfl
namespace Go.Proofs.Ytlbkoejpjpcgaaa
/- THE CELL 'sum', in the pinned program and in every row, IS THE sha256 OF THE DUMP (.gsa) THAT YtlbkoejpjpcgaaaProg.lean LOADS. Nothing in Lean hashes anything: it is a label: what it is worth is what the hold of that sum in a sandbox is worth. -/
noncomputable def Try.pinned : Pinned := { name := "ytlbkoejpjpcgaaa", sum := "8ccf48744bea2383a6d7899867442db97052878ad50e4291ec20a0a96efa8802", checked := Try.checked }
namespace Rows
def none {H : Type} : Left H := { results := [], args := [] }

/-- 'laws.FnExactArrangeMatrix': WHATEVER THE INPUT: true; the input reads as it did. -/
def fnExactArrangeMatrixSpec : ChangeSpec := { name := "fnExactArrangeMatrix", fn := fun _ => fun
  | [d] => { results := [.lit (.bool true)], args := [d] }
  | _ => none }
def fnExactArrangeMatrixRow : OpenClaim := { program := "ytlbkoejpjpcgaaa", sum := "8ccf48744bea2383a6d7899867442db97052878ad50e4291ec20a0a96efa8802", func := "loop.example/g00876/laws.FnExactArrangeMatrix", spec := "fnExactArrangeMatrix", unfollowed := true, recurses := true, apart := false }
def FnExactArrangeMatrixSaid : Prop := fnExactArrangeMatrixRow.holds Try.pinned (OpenSpec.ofChange fnExactArrangeMatrixSpec)

/-- ITS FALSE NEIGHBOUR: 'it returns false'. Refute it at one input. -/
def fnExactArrangeMatrixWrong : ChangeSpec := { name := "fnExactArrangeMatrix", fn := fun _ => fun
  | [d] => { results := [.lit (.bool false)], args := [d] }
  | _ => none }
def FnExactArrangeMatrixWrongFalsely : Prop := fnExactArrangeMatrixRow.holds Try.pinned (OpenSpec.ofChange fnExactArrangeMatrixWrong)

/-- 'laws.FnExactCountCrossings': WHATEVER THE INPUT: true; the input reads as it did. -/
def fnExactCountCrossingsSpec : ChangeSpec := { name := "fnExactCountCrossings", fn := fun _ => fun
  | [d1, d2] => { results := [.lit (.bool true)], args := [d1, d2] }
  | _ => none }
def fnExactCountCrossingsRow : OpenClaim := { program := "ytlbkoejpjpcgaaa", sum := "8ccf48744bea2383a6d7899867442db97052878ad50e4291ec20a0a96efa8802", func := "loop.example/g00876/laws.FnExactCountCrossings", spec := "fnExactCountCrossings", unfollowed := true, recurses := true, apart := false }
def FnExactCountCrossingsSaid : Prop := fnExactCountCrossingsRow.holds Try.pinned (OpenSpec.ofChange fnExactCountCrossingsSpec)

/-- ITS FALSE NEIGHBOUR: 'it returns false'. Refute it at one input. -/
def fnExactCountCrossingsWrong : ChangeSpec := { name := "fnExactCountCrossings", fn := fun _ => fun
  | [d1, d2] => { results := [.lit (.bool false)], args := [d1, d2] }
  | _ => none }
def FnExactCountCrossingsWrongFalsely : Prop := fnExactCountCrossingsRow.holds Try.pinned (OpenSpec.ofChange fnExactCountCrossingsWrong)

/-- 'laws.FnExactSmallestDoubt': WHATEVER THE INPUT: true; the input reads as it did. -/
def fnExactSmallestDoubtSpec : ChangeSpec := { name := "fnExactSmallestDoubt", fn := fun _ => fun
  | [d] => { results := [.lit (.bool true)], args := [d] }
  | _ => none }
def fnExactSmallestDoubtRow : OpenClaim := { program := "ytlbkoejpjpcgaaa", sum := "8ccf48744bea2383a6d7899867442db97052878ad50e4291ec20a0a96efa8802", func := "loop.example/g00876/laws.FnExactSmallestDoubt", spec := "fnExactSmallestDoubt", unfollowed := true, recurses := true, apart := false }
def FnExactSmallestDoubtSaid : Prop := fnExactSmallestDoubtRow.holds Try.pinned (OpenSpec.ofChange fnExactSmallestDoubtSpec)

/-- ITS FALSE NEIGHBOUR: 'it returns false'. Refute it at one input. -/
def fnExactSmallestDoubtWrong : ChangeSpec := { name := "fnExactSmallestDoubt", fn := fun _ => fun
  | [d] => { results := [.lit (.bool false)], args := [d] }
  | _ => none }
def FnExactSmallestDoubtWrongFalsely : Prop := fnExactSmallestDoubtRow.holds Try.pinned (OpenSpec.ofChange fnExactSmallestDoubtWrong)

/-- 'laws.FnExactAllDoubts': WHATEVER THE INPUT: true; the input reads as it did. -/
def fnExactAllDoubtsSpec : ChangeSpec := { name := "fnExactAllDoubts", fn := fun _ => fun
  | [d1, d2] => { results := [.lit (.bool true)], args := [d1, d2] }
  | _ => none }
def fnExactAllDoubtsRow : OpenClaim := { program := "ytlbkoejpjpcgaaa", sum := "8ccf48744bea2383a6d7899867442db97052878ad50e4291ec20a0a96efa8802", func := "loop.example/g00876/laws.FnExactAllDoubts", spec := "fnExactAllDoubts", unfollowed := true, recurses := true, apart := false }
def FnExactAllDoubtsSaid : Prop := fnExactAllDoubtsRow.holds Try.pinned (OpenSpec.ofChange fnExactAllDoubtsSpec)

/-- ITS FALSE NEIGHBOUR: 'it returns false'. Refute it at one input. -/
def fnExactAllDoubtsWrong : ChangeSpec := { name := "fnExactAllDoubts", fn := fun _ => fun
  | [d1, d2] => { results := [.lit (.bool false)], args := [d1, d2] }
  | _ => none }
def FnExactAllDoubtsWrongFalsely : Prop := fnExactAllDoubtsRow.holds Try.pinned (OpenSpec.ofChange fnExactAllDoubtsWrong)

/-- 'laws.FnExactLightestDoubt': WHATEVER THE INPUT: true; the input reads as it did. -/
def fnExactLightestDoubtSpec : ChangeSpec := { name := "fnExactLightestDoubt", fn := fun _ => fun
  | [d1, d2] => { results := [.lit (.bool true)], args := [d1, d2] }
  | _ => none }
def fnExactLightestDoubtRow : OpenClaim := { program := "ytlbkoejpjpcgaaa", sum := "8ccf48744bea2383a6d7899867442db97052878ad50e4291ec20a0a96efa8802", func := "loop.example/g00876/laws.FnExactLightestDoubt", spec := "fnExactLightestDoubt", unfollowed := true, recurses := true, apart := false }
def FnExactLightestDoubtSaid : Prop := fnExactLightestDoubtRow.holds Try.pinned (OpenSpec.ofChange fnExactLightestDoubtSpec)

/-- ITS FALSE NEIGHBOUR: 'it returns false'. Refute it at one input. -/
def fnExactLightestDoubtWrong : ChangeSpec := { name := "fnExactLightestDoubt", fn := fun _ => fun
  | [d1, d2] => { results := [.lit (.bool false)], args := [d1, d2] }
  | _ => none }
def FnExactLightestDoubtWrongFalsely : Prop := fnExactLightestDoubtRow.holds Try.pinned (OpenSpec.ofChange fnExactLightestDoubtWrong)

/-- 'laws.FnExactUnrelatedPairs': WHATEVER THE INPUT: true; the input reads as it did. -/
def fnExactUnrelatedPairsSpec : ChangeSpec := { name := "fnExactUnrelatedPairs", fn := fun _ => fun
  | [d] => { results := [.lit (.bool true)], args := [d] }
  | _ => none }
def fnExactUnrelatedPairsRow : OpenClaim := { program := "ytlbkoejpjpcgaaa", sum := "8ccf48744bea2383a6d7899867442db97052878ad50e4291ec20a0a96efa8802", func := "loop.example/g00876/laws.FnExactUnrelatedPairs", spec := "fnExactUnrelatedPairs", unfollowed := true, recurses := true, apart := false }
def FnExactUnrelatedPairsSaid : Prop := fnExactUnrelatedPairsRow.holds Try.pinned (OpenSpec.ofChange fnExactUnrelatedPairsSpec)

/-- ITS FALSE NEIGHBOUR: 'it returns false'. Refute it at one input. -/
def fnExactUnrelatedPairsWrong : ChangeSpec := { name := "fnExactUnrelatedPairs", fn := fun _ => fun
  | [d] => { results := [.lit (.bool false)], args := [d] }
  | _ => none }
def FnExactUnrelatedPairsWrongFalsely : Prop := fnExactUnrelatedPairsRow.holds Try.pinned (OpenSpec.ofChange fnExactUnrelatedPairsWrong)

/- THE SECOND FORM. 'bulk': how many values and letters a reading holds, each counted each time it is reached (what is shared counts as often as it is met; a slice's spare places count too). A statement '..UptoSaid' is the law's where the arguments, and the package variables that the reading takes, are together of bulk at most 1048576: NARROWER than '..Said'. Prove '..Said' where nothing that the law and all that it calls make is longer than what came in: it says more and counts as full. Else prove '..UptoSaid'. A law counts once. -/
mutual
def uptoBulk {H : Type} : DataW H → Nat
  | .lit (.string bytes) => bytes.length + 1
  | .lit _ => 1
  | .nil => 1
  | .ptr d => uptoBulk d + 1
  | .slice elems spare => uptoBulkAll elems + uptoBulkAll spare + 1
  | .agg parts => uptoBulkAll parts + 1
  | .iface _ d => uptoBulk d + 1
  | .map entries => uptoBulkEntries entries + 1
  | .held _ => 1
def uptoBulkAll {H : Type} : List (DataW H) → Nat
  | [] => 0
  | d :: r => uptoBulk d + uptoBulkAll r
def uptoBulkEntries {H : Type} : List (Lit × DataW H) → Nat
  | [] => 0
  | x :: r => uptoBulkEntry x + uptoBulkEntries r
def uptoBulkEntry {H : Type} : Lit × DataW H → Nat
  | (.string bytes, d) => bytes.length + uptoBulk d + 1
  | (_, d) => uptoBulk d + 1
 end
def uptoSmall : (H : Type) → List (DataW H) → Bool := fun _ ds => decide (uptoBulkAll ds ≤ 1048576)
def OpenSpec.upto (s : _root_.Go.ChangeSpec) : _root_.Go.OpenSpec := { _root_.Go.OpenSpec.ofChange s with cond := some uptoSmall }

/-- 'laws.FnExactArrangeMatrix', WHERE WHAT IT READS IS OF BULK AT MOST 1048576: true; the input reads as it did. -/
def fnExactArrangeMatrixUptoRow : OpenClaim := { program := "ytlbkoejpjpcgaaa", sum := "8ccf48744bea2383a6d7899867442db97052878ad50e4291ec20a0a96efa8802", func := "loop.example/g00876/laws.FnExactArrangeMatrix", spec := "fnExactArrangeMatrix", unfollowed := true, recurses := true, apart := false, narrowed := true }
def FnExactArrangeMatrixUptoSaid : Prop := fnExactArrangeMatrixUptoRow.holds Try.pinned (OpenSpec.upto fnExactArrangeMatrixSpec)

/-- 'laws.FnExactCountCrossings', WHERE WHAT IT READS IS OF BULK AT MOST 1048576: true; the input reads as it did. -/
def fnExactCountCrossingsUptoRow : OpenClaim := { program := "ytlbkoejpjpcgaaa", sum := "8ccf48744bea2383a6d7899867442db97052878ad50e4291ec20a0a96efa8802", func := "loop.example/g00876/laws.FnExactCountCrossings", spec := "fnExactCountCrossings", unfollowed := true, recurses := true, apart := false, narrowed := true }
def FnExactCountCrossingsUptoSaid : Prop := fnExactCountCrossingsUptoRow.holds Try.pinned (OpenSpec.upto fnExactCountCrossingsSpec)

/-- 'laws.FnExactSmallestDoubt', WHERE WHAT IT READS IS OF BULK AT MOST 1048576: true; the input reads as it did. -/
def fnExactSmallestDoubtUptoRow : OpenClaim := { program := "ytlbkoejpjpcgaaa", sum := "8ccf48744bea2383a6d7899867442db97052878ad50e4291ec20a0a96efa8802", func := "loop.example/g00876/laws.FnExactSmallestDoubt", spec := "fnExactSmallestDoubt", unfollowed := true, recurses := true, apart := false, narrowed := true }
def FnExactSmallestDoubtUptoSaid : Prop := fnExactSmallestDoubtUptoRow.holds Try.pinned (OpenSpec.upto fnExactSmallestDoubtSpec)

/-- 'laws.FnExactAllDoubts', WHERE WHAT IT READS IS OF BULK AT MOST 1048576: true; the input reads as it did. -/
def fnExactAllDoubtsUptoRow : OpenClaim := { program := "ytlbkoejpjpcgaaa", sum := "8ccf48744bea2383a6d7899867442db97052878ad50e4291ec20a0a96efa8802", func := "loop.example/g00876/laws.FnExactAllDoubts", spec := "fnExactAllDoubts", unfollowed := true, recurses := true, apart := false, narrowed := true }
def FnExactAllDoubtsUptoSaid : Prop := fnExactAllDoubtsUptoRow.holds Try.pinned (OpenSpec.upto fnExactAllDoubtsSpec)

/-- 'laws.FnExactLightestDoubt', WHERE WHAT IT READS IS OF BULK AT MOST 1048576: true; the input reads as it did. -/
def fnExactLightestDoubtUptoRow : OpenClaim := { program := "ytlbkoejpjpcgaaa", sum := "8ccf48744bea2383a6d7899867442db97052878ad50e4291ec20a0a96efa8802", func := "loop.example/g00876/laws.FnExactLightestDoubt", spec := "fnExactLightestDoubt", unfollowed := true, recurses := true, apart := false, narrowed := true }
def FnExactLightestDoubtUptoSaid : Prop := fnExactLightestDoubtUptoRow.holds Try.pinned (OpenSpec.upto fnExactLightestDoubtSpec)

/-- 'laws.FnExactUnrelatedPairs', WHERE WHAT IT READS IS OF BULK AT MOST 1048576: true; the input reads as it did. -/
def fnExactUnrelatedPairsUptoRow : OpenClaim := { program := "ytlbkoejpjpcgaaa", sum := "8ccf48744bea2383a6d7899867442db97052878ad50e4291ec20a0a96efa8802", func := "loop.example/g00876/laws.FnExactUnrelatedPairs", spec := "fnExactUnrelatedPairs", unfollowed := true, recurses := true, apart := false, narrowed := true }
def FnExactUnrelatedPairsUptoSaid : Prop := fnExactUnrelatedPairsUptoRow.holds Try.pinned (OpenSpec.upto fnExactUnrelatedPairsSpec)

end Rows
end Go.Proofs.Ytlbkoejpjpcgaaa

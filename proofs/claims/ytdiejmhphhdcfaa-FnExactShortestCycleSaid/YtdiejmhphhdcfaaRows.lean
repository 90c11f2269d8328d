/-
  No cell of these rows narrows 'for every input' (looked for: loops, veiled, ifaces, maps, wideKeys, modest, calm, conditions, laid).
  DERIVED. THE GIVEN ROWS OF THIS SEAT. 12 by the template 'for every input the law returns true; each argument reads behind the call as it read before'; 0 by the template 'total and deterministic' (their statements: YtdiejmhphhdcfaaTotals.lean).
  GIVEN WITH THE SEED: the statements are not yours to turn. If you find one false, say at which input.
  Laid BY PROGRAM, IN A SANDBOX (cutbox-rows.mjs): the forced cells as the released guide's own fill.sh prints them over the translation 35e84dc4ba24a1e0… (all of the seat's roots in one cut). By AI agents, Wed Nov 11 2026. No macro, syntax, notation, axiom, sorry.
-/
import Derived.Test.YtdiejmhphhdcfaaChecked
import GoSem.Claim
import GoSem.ClaimJoined
import GoSem.ClaimMapViews
import Derived.JoinedTies
import Derived.KernelRfl
namespace Go.Proofs.Ytdiejmhphhdcfaa
/- THE CELL 'sum', in the pinned program and in every row, IS THE sha256 OF THE DUMP (.gsa) THAT YtdiejmhphhdcfaaProg.lean LOADS. Nothing in Lean hashes anything: it is a label: what it is worth is what the hold of that sum in a sandbox is worth. -/
noncomputable def Try.pinned : Pinned := { name := "ytdiejmhphhdcfaa", sum := "35e84dc4ba24a1e0604500f5632c7deb5df9ca5dddcf582ea619a110d61ea16a", checked := Try.checked }
namespace Rows
def none {H : Type} : Left H := { results := [], args := [] }

/-- 'laws.FnExactShortestChain': WHATEVER THE INPUT: true; the input reads as it did. -/
def fnExactShortestChainSpec : ChangeSpec := { name := "fnExactShortestChain", fn := fun _ => fun
  | [d1, d2, d3] => { results := [.lit (.bool true)], args := [d1, d2, d3] }
  | _ => none }
def fnExactShortestChainRow : OpenClaim := { program := "ytdiejmhphhdcfaa", sum := "35e84dc4ba24a1e0604500f5632c7deb5df9ca5dddcf582ea619a110d61ea16a", func := "loop.example/g00876/laws.FnExactShortestChain", spec := "fnExactShortestChain", unfollowed := true, recurses := true, apart := false }
def FnExactShortestChainSaid : Prop := fnExactShortestChainRow.holds Try.pinned (OpenSpec.ofChange fnExactShortestChainSpec)

/-- ITS FALSE NEIGHBOUR: 'it returns false'. Refute it at one input. -/
def fnExactShortestChainWrong : ChangeSpec := { name := "fnExactShortestChain", fn := fun _ => fun
  | [d1, d2, d3] => { results := [.lit (.bool false)], args := [d1, d2, d3] }
  | _ => none }
def FnExactShortestChainWrongFalsely : Prop := fnExactShortestChainRow.holds Try.pinned (OpenSpec.ofChange fnExactShortestChainWrong)

/-- 'laws.FnExactContradictionGroups': WHATEVER THE INPUT: true; the input reads as it did. -/
def fnExactContradictionGroupsSpec : ChangeSpec := { name := "fnExactContradictionGroups", fn := fun _ => fun
  | [d] => { results := [.lit (.bool true)], args := [d] }
  | _ => none }
def fnExactContradictionGroupsRow : OpenClaim := { program := "ytdiejmhphhdcfaa", sum := "35e84dc4ba24a1e0604500f5632c7deb5df9ca5dddcf582ea619a110d61ea16a", func := "loop.example/g00876/laws.FnExactContradictionGroups", spec := "fnExactContradictionGroups", unfollowed := true, recurses := true, apart := false }
def FnExactContradictionGroupsSaid : Prop := fnExactContradictionGroupsRow.holds Try.pinned (OpenSpec.ofChange fnExactContradictionGroupsSpec)

/-- ITS FALSE NEIGHBOUR: 'it returns false'. Refute it at one input. -/
def fnExactContradictionGroupsWrong : ChangeSpec := { name := "fnExactContradictionGroups", fn := fun _ => fun
  | [d] => { results := [.lit (.bool false)], args := [d] }
  | _ => none }
def FnExactContradictionGroupsWrongFalsely : Prop := fnExactContradictionGroupsRow.holds Try.pinned (OpenSpec.ofChange fnExactContradictionGroupsWrong)

/-- 'laws.FnExactCloseRecord': WHATEVER THE INPUT: true; the input reads as it did. -/
def fnExactCloseRecordSpec : ChangeSpec := { name := "fnExactCloseRecord", fn := fun _ => fun
  | [d] => { results := [.lit (.bool true)], args := [d] }
  | _ => none }
def fnExactCloseRecordRow : OpenClaim := { program := "ytdiejmhphhdcfaa", sum := "35e84dc4ba24a1e0604500f5632c7deb5df9ca5dddcf582ea619a110d61ea16a", func := "loop.example/g00876/laws.FnExactCloseRecord", spec := "fnExactCloseRecord", unfollowed := true, recurses := true, apart := false }
def FnExactCloseRecordSaid : Prop := fnExactCloseRecordRow.holds Try.pinned (OpenSpec.ofChange fnExactCloseRecordSpec)

/-- ITS FALSE NEIGHBOUR: 'it returns false'. Refute it at one input. -/
def fnExactCloseRecordWrong : ChangeSpec := { name := "fnExactCloseRecord", fn := fun _ => fun
  | [d] => { results := [.lit (.bool false)], args := [d] }
  | _ => none }
def FnExactCloseRecordWrongFalsely : Prop := fnExactCloseRecordRow.holds Try.pinned (OpenSpec.ofChange fnExactCloseRecordWrong)

/-- 'laws.FnExactShortestCycle': WHATEVER THE INPUT: true; the input reads as it did. -/
def fnExactShortestCycleSpec : ChangeSpec := { name := "fnExactShortestCycle", fn := fun _ => fun
  | [d] => { results := [.lit (.bool true)], args := [d] }
  | _ => none }
def fnExactShortestCycleRow : OpenClaim := { program := "ytdiejmhphhdcfaa", sum := "35e84dc4ba24a1e0604500f5632c7deb5df9ca5dddcf582ea619a110d61ea16a", func := "loop.example/g00876/laws.FnExactShortestCycle", spec := "fnExactShortestCycle", unfollowed := true, recurses := true, apart := false }
def FnExactShortestCycleSaid : Prop := fnExactShortestCycleRow.holds Try.pinned (OpenSpec.ofChange fnExactShortestCycleSpec)

/-- ITS FALSE NEIGHBOUR: 'it returns false'. Refute it at one input. -/
def fnExactShortestCycleWrong : ChangeSpec := { name := "fnExactShortestCycle", fn := fun _ => fun
  | [d] => { results := [.lit (.bool false)], args := [d] }
  | _ => none }
def FnExactShortestCycleWrongFalsely : Prop := fnExactShortestCycleRow.holds Try.pinned (OpenSpec.ofChange fnExactShortestCycleWrong)

/-- 'laws.FnExactMatrixLinks': WHATEVER THE INPUT: true; the input reads as it did. -/
def fnExactMatrixLinksSpec : ChangeSpec := { name := "fnExactMatrixLinks", fn := fun _ => fun
  | [d] => { results := [.lit (.bool true)], args := [d] }
  | _ => none }
def fnExactMatrixLinksRow : OpenClaim := { program := "ytdiejmhphhdcfaa", sum := "35e84dc4ba24a1e0604500f5632c7deb5df9ca5dddcf582ea619a110d61ea16a", func := "loop.example/g00876/laws.FnExactMatrixLinks", spec := "fnExactMatrixLinks", unfollowed := true, recurses := true, apart := false }
def FnExactMatrixLinksSaid : Prop := fnExactMatrixLinksRow.holds Try.pinned (OpenSpec.ofChange fnExactMatrixLinksSpec)

/-- ITS FALSE NEIGHBOUR: 'it returns false'. Refute it at one input. -/
def fnExactMatrixLinksWrong : ChangeSpec := { name := "fnExactMatrixLinks", fn := fun _ => fun
  | [d] => { results := [.lit (.bool false)], args := [d] }
  | _ => none }
def FnExactMatrixLinksWrongFalsely : Prop := fnExactMatrixLinksRow.holds Try.pinned (OpenSpec.ofChange fnExactMatrixLinksWrong)

/-- 'laws.FnExactMatrixRows': WHATEVER THE INPUT: true; the input reads as it did. -/
def fnExactMatrixRowsSpec : ChangeSpec := { name := "fnExactMatrixRows", fn := fun _ => fun
  | [d] => { results := [.lit (.bool true)], args := [d] }
  | _ => none }
def fnExactMatrixRowsRow : OpenClaim := { program := "ytdiejmhphhdcfaa", sum := "35e84dc4ba24a1e0604500f5632c7deb5df9ca5dddcf582ea619a110d61ea16a", func := "loop.example/g00876/laws.FnExactMatrixRows", spec := "fnExactMatrixRows", unfollowed := true, recurses := true, apart := false }
def FnExactMatrixRowsSaid : Prop := fnExactMatrixRowsRow.holds Try.pinned (OpenSpec.ofChange fnExactMatrixRowsSpec)

/-- ITS FALSE NEIGHBOUR: 'it returns false'. Refute it at one input. -/
def fnExactMatrixRowsWrong : ChangeSpec := { name := "fnExactMatrixRows", fn := fun _ => fun
  | [d] => { results := [.lit (.bool false)], args := [d] }
  | _ => none }
def FnExactMatrixRowsWrongFalsely : Prop := fnExactMatrixRowsRow.holds Try.pinned (OpenSpec.ofChange fnExactMatrixRowsWrong)

/-- 'laws.FnExactLongestChain': WHATEVER THE INPUT: true; the input reads as it did. -/
def fnExactLongestChainSpec : ChangeSpec := { name := "fnExactLongestChain", fn := fun _ => fun
  | [d] => { results := [.lit (.bool true)], args := [d] }
  | _ => none }
def fnExactLongestChainRow : OpenClaim := { program := "ytdiejmhphhdcfaa", sum := "35e84dc4ba24a1e0604500f5632c7deb5df9ca5dddcf582ea619a110d61ea16a", func := "loop.example/g00876/laws.FnExactLongestChain", spec := "fnExactLongestChain", unfollowed := true, recurses := true, apart := false }
def FnExactLongestChainSaid : Prop := fnExactLongestChainRow.holds Try.pinned (OpenSpec.ofChange fnExactLongestChainSpec)

/-- ITS FALSE NEIGHBOUR: 'it returns false'. Refute it at one input. -/
def fnExactLongestChainWrong : ChangeSpec := { name := "fnExactLongestChain", fn := fun _ => fun
  | [d] => { results := [.lit (.bool false)], args := [d] }
  | _ => none }
def FnExactLongestChainWrongFalsely : Prop := fnExactLongestChainRow.holds Try.pinned (OpenSpec.ofChange fnExactLongestChainWrong)

/-- 'laws.FnExactArrangeMatrix': WHATEVER THE INPUT: true; the input reads as it did. -/
def fnExactArrangeMatrixSpec : ChangeSpec := { name := "fnExactArrangeMatrix", fn := fun _ => fun
  | [d] => { results := [.lit (.bool true)], args := [d] }
  | _ => none }
def fnExactArrangeMatrixRow : OpenClaim := { program := "ytdiejmhphhdcfaa", sum := "35e84dc4ba24a1e0604500f5632c7deb5df9ca5dddcf582ea619a110d61ea16a", func := "loop.example/g00876/laws.FnExactArrangeMatrix", spec := "fnExactArrangeMatrix", unfollowed := true, recurses := true, apart := false }
def FnExactArrangeMatrixSaid : Prop := fnExactArrangeMatrixRow.holds Try.pinned (OpenSpec.ofChange fnExactArrangeMatrixSpec)

/-- ITS FALSE NEIGHBOUR: 'it returns false'. Refute it at one input. -/
def fnExactArrangeMatrixWrong : ChangeSpec := { name := "fnExactArrangeMatrix", fn := fun _ => fun
  | [d] => { results := [.lit (.bool false)], args := [d] }
  | _ => none }
def FnExactArrangeMatrixWrongFalsely : Prop := fnExactArrangeMatrixRow.holds Try.pinned (OpenSpec.ofChange fnExactArrangeMatrixWrong)

/-- 'laws.FnExactCountCrossings': WHATEVER THE INPUT: true; the input reads as it did. -/
def fnExactCountCrossingsSpec : ChangeSpec := { name := "fnExactCountCrossings", fn := fun _ => fun
  | [d1, d2] => { results := [.lit (.bool true)], args := [d1, d2] }
  | _ => none }
def fnExactCountCrossingsRow : OpenClaim := { program := "ytdiejmhphhdcfaa", sum := "35e84dc4ba24a1e0604500f5632c7deb5df9ca5dddcf582ea619a110d61ea16a", func := "loop.example/g00876/laws.FnExactCountCrossings", spec := "fnExactCountCrossings", unfollowed := true, recurses := true, apart := false }
def FnExactCountCrossingsSaid : Prop := fnExactCountCrossingsRow.holds Try.pinned (OpenSpec.ofChange fnExactCountCrossingsSpec)

/-- ITS FALSE NEIGHBOUR: 'it returns false'. Refute it at one input. -/
def fnExactCountCrossingsWrong : ChangeSpec := { name := "fnExactCountCrossings", fn := fun _ => fun
  | [d1, d2] => { results := [.lit (.bool false)], args := [d1, d2] }
  | _ => none }
def FnExactCountCrossingsWrongFalsely : Prop := fnExactCountCrossingsRow.holds Try.pinned (OpenSpec.ofChange fnExactCountCrossingsWrong)

/-- 'laws.FnExactSmallestDoubt': WHATEVER THE INPUT: true; the input reads as it did. -/
def fnExactSmallestDoubtSpec : ChangeSpec := { name := "fnExactSmallestDoubt", fn := fun _ => fun
  | [d] => { results := [.lit (.bool true)], args := [d] }
  | _ => none }
def fnExactSmallestDoubtRow : OpenClaim := { program := "ytdiejmhphhdcfaa", sum := "35e84dc4ba24a1e0604500f5632c7deb5df9ca5dddcf582ea619a110d61ea16a", func := "loop.example/g00876/laws.FnExactSmallestDoubt", spec := "fnExactSmallestDoubt", unfollowed := true, recurses := true, apart := false }
def FnExactSmallestDoubtSaid : Prop := fnExactSmallestDoubtRow.holds Try.pinned (OpenSpec.ofChange fnExactSmallestDoubtSpec)

/-- ITS FALSE NEIGHBOUR: 'it returns false'. Refute it at one input. -/
def fnExactSmallestDoubtWrong : ChangeSpec := { name := "fnExactSmallestDoubt", fn := fun _ => fun
  | [d] => { results := [.lit (.bool false)], args := [d] }
  | _ => none }
def FnExactSmallestDoubtWrongFalsely : Prop := fnExactSmallestDoubtRow.holds Try.pinned (OpenSpec.ofChange fnExactSmallestDoubtWrong)

/-- 'laws.FnExactAllDoubts': WHATEVER THE INPUT: true; the input reads as it did. -/
def fnExactAllDoubtsSpec : ChangeSpec := { name := "fnExactAllDoubts", fn := fun _ => fun
  | [d1, d2] => { results := [.lit (.bool true)], args := [d1, d2] }
  | _ => none }
def fnExactAllDoubtsRow : OpenClaim := { program := "ytdiejmhphhdcfaa", sum := "35e84dc4ba24a1e0604500f5632c7deb5df9ca5dddcf582ea619a110d61ea16a", func := "loop.example/g00876/laws.FnExactAllDoubts", spec := "fnExactAllDoubts", unfollowed := true, recurses := true, apart := false }
def FnExactAllDoubtsSaid : Prop := fnExactAllDoubtsRow.holds Try.pinned (OpenSpec.ofChange fnExactAllDoubtsSpec)

/-- ITS FALSE NEIGHBOUR: 'it returns false'. Refute it at one input. -/
def fnExactAllDoubtsWrong : ChangeSpec := { name := "fnExactAllDoubts", fn := fun _ => fun
  | [d1, d2] => { results := [.lit (.bool false)], args := [d1, d2] }
  | _ => none }
def FnExactAllDoubtsWrongFalsely : Prop := fnExactAllDoubtsRow.holds Try.pinned (OpenSpec.ofChange fnExactAllDoubtsWrong)

/-- 'laws.FnExactLightestDoubt': WHATEVER THE INPUT: true; the input reads as it did. -/
def fnExactLightestDoubtSpec : ChangeSpec := { name := "fnExactLightestDoubt", fn := fun _ => fun
  | [d1, d2] => { results := [.lit (.bool true)], args := [d1, d2] }
  | _ => none }
def fnExactLightestDoubtRow : OpenClaim := { program := "ytdiejmhphhdcfaa", sum := "35e84dc4ba24a1e0604500f5632c7deb5df9ca5dddcf582ea619a110d61ea16a", func := "loop.example/g00876/laws.FnExactLightestDoubt", spec := "fnExactLightestDoubt", unfollowed := true, recurses := true, apart := false }
def FnExactLightestDoubtSaid : Prop := fnExactLightestDoubtRow.holds Try.pinned (OpenSpec.ofChange fnExactLightestDoubtSpec)

/-- ITS FALSE NEIGHBOUR: 'it returns false'. Refute it at one input. -/
def fnExactLightestDoubtWrong : ChangeSpec := { name := "fnExactLightestDoubt", fn := fun _ => fun
  | [d1, d2] => { results := [.lit (.bool false)], args := [d1, d2] }
  | _ => none }
def FnExactLightestDoubtWrongFalsely : Prop := fnExactLightestDoubtRow.holds Try.pinned (OpenSpec.ofChange fnExactLightestDoubtWrong)

/- THE SECOND FORM. 'bulk': how many values and letters a reading holds, each counted each time it is reached (what is shared counts as often as it is met; a slice's spare places count too). A statement '..UptoSaid' is the law's where the arguments, and the package variables that the reading takes, are together of bulk at most 1048576: NARROWER than '..Said'. Prove '..Said' where nothing that the law and all that it calls make is longer than what came in: it says more and counts as full. Else prove '..UptoSaid'. A law counts once. -/
mutual
def uptoBulk {H : Type} : DataW H → Nat
  | .lit (.string bytes) => bytes.length + 1
  | .lit _ => 1
  | .nil => 1
  | .ptr d => uptoBulk d + 1
  | .slice elems spare => uptoBulkAll elems + uptoBulkAll spare + 1
  | .agg parts => uptoBulkAll parts + 1
  | .iface _ d => uptoBulk d + 1
  | .map entries => uptoBulkEntries entries + 1
  | .held _ => 1
def uptoBulkAll {H : Type} : List (DataW H) → Nat
  | [] => 0
  | d :: r => uptoBulk d + uptoBulkAll r
def uptoBulkEntries {H : Type} : List (Lit × DataW H) → Nat
  | [] => 0
  | x :: r => uptoBulkEntry x + uptoBulkEntries r
def uptoBulkEntry {H : Type} : Lit × DataW H → Nat
  | (.string bytes, d) => bytes.length + uptoBulk d + 1
  | (_, d) => uptoBulk d + 1
 end
def uptoSmall : (H : Type) → List (DataW H) → Bool := fun _ ds => decide (uptoBulkAll ds ≤ 1048576)
def OpenSpec.upto (s : _root_.Go.ChangeSpec) : _root_.Go.OpenSpec := { _root_.Go.OpenSpec.ofChange s with cond := some uptoSmall }

/-- 'laws.FnExactShortestChain', WHERE WHAT IT READS IS OF BULK AT MOST 1048576: true; the input reads as it did. -/
def fnExactShortestChainUptoRow : OpenClaim := { program := "ytdiejmhphhdcfaa", sum := "35e84dc4ba24a1e0604500f5632c7deb5df9ca5dddcf582ea619a110d61ea16a", func := "loop.example/g00876/laws.FnExactShortestChain", spec := "fnExactShortestChain", unfollowed := true, recurses := true, apart := false, narrowed := true }
def FnExactShortestChainUptoSaid : Prop := fnExactShortestChainUptoRow.holds Try.pinned (OpenSpec.upto fnExactShortestChainSpec)

/-- 'laws.FnExactContradictionGroups', WHERE WHAT IT READS IS OF BULK AT MOST 1048576: true; the input reads as it did. -/
def fnExactContradictionGroupsUptoRow : OpenClaim := { program := "ytdiejmhphhdcfaa", sum := "35e84dc4ba24a1e0604500f5632c7deb5df9ca5dddcf582ea619a110d61ea16a", func := "loop.example/g00876/laws.FnExactContradictionGroups", spec := "fnExactContradictionGroups", unfollowed := true, recurses := true, apart := false, narrowed := true }
def FnExactContradictionGroupsUptoSaid : Prop := fnExactContradictionGroupsUptoRow.holds Try.pinned (OpenSpec.upto fnExactContradictionGroupsSpec)

/-- 'laws.FnExactCloseRecord', WHERE WHAT IT READS IS OF BULK AT MOST 1048576: true; the input reads as it did. -/
def fnExactCloseRecordUptoRow : OpenClaim := { program := "ytdiejmhphhdcfaa", sum := "35e84dc4ba24a1e0604500f5632c7deb5df9ca5dddcf582ea619a110d61ea16a", func := "loop.example/g00876/laws.FnExactCloseRecord", spec := "fnExactCloseRecord", unfollowed := true, recurses := true, apart := false, narrowed := true }
def FnExactCloseRecordUptoSaid : Prop := fnExactCloseRecordUptoRow.holds Try.pinned (OpenSpec.upto fnExactCloseRecordSpec)

/-- 'laws.FnExactShortestCycle', WHERE WHAT IT READS IS OF BULK AT MOST 1048576: true; the input reads as it did. -/
def fnExactShortestCycleUptoRow : OpenClaim := { program := "ytdiejmhphhdcfaa", sum := "35e84dc4ba24a1e0604500f5632c7deb5df9ca5dddcf582ea619a110d61ea16a", func := "loop.example/g00876/laws.FnExactShortestCycle", spec := "fnExactShortestCycle", unfollowed := true, recurses := true, apart := false, narrowed := true }
def FnExactShortestCycleUptoSaid : Prop := fnExactShortestCycleUptoRow.holds Try.pinned (OpenSpec.upto fnExactShortestCycleSpec)

/-- 'laws.FnExactMatrixLinks', WHERE WHAT IT READS IS OF BULK AT MOST 1048576: true; the input reads as it did. -/
def fnExactMatrixLinksUptoRow : OpenClaim := { program := "ytdiejmhphhdcfaa", sum := "35e84dc4ba24a1e0604500f5632c7deb5df9ca5dddcf582ea619a110d61ea16a", func := "loop.example/g00876/laws.FnExactMatrixLinks", spec := "fnExactMatrixLinks", unfollowed := true, recurses := true, apart := false, narrowed := true }
def FnExactMatrixLinksUptoSaid : Prop := fnExactMatrixLinksUptoRow.holds Try.pinned (OpenSpec.upto fnExactMatrixLinksSpec)

/-- 'laws.FnExactMatrixRows', WHERE WHAT IT READS IS OF BULK AT MOST 1048576: true; the input reads as it did. -/
def fnExactMatrixRowsUptoRow : OpenClaim := { program := "ytdiejmhphhdcfaa", sum := "35e84dc4ba24a1e0604500f5632c7deb5df9ca5dddcf582ea619a110d61ea16a", func := "loop.example/g00876/laws.FnExactMatrixRows", spec := "fnExactMatrixRows", unfollowed := true, recurses := true, apart := false, narrowed := true }
def FnExactMatrixRowsUptoSaid : Prop := fnExactMatrixRowsUptoRow.holds Try.pinned (OpenSpec.upto fnExactMatrixRowsSpec)

/-- 'laws.FnExactLongestChain', WHERE WHAT IT READS IS OF BULK AT MOST 1048576: true; the input reads as it did. -/
def fnExactLongestChainUptoRow : OpenClaim := { program := "ytdiejmhphhdcfaa", sum := "35e84dc4ba24a1e0604500f5632c7deb5df9ca5dddcf582ea619a110d61ea16a", func := "loop.example/g00876/laws.FnExactLongestChain", spec := "fnExactLongestChain", unfollowed := true, recurses := true, apart := false, narrowed := true }
def FnExactLongestChainUptoSaid : Prop := fnExactLongestChainUptoRow.holds Try.pinned (OpenSpec.upto fnExactLongestChainSpec)

/-- 'laws.FnExactArrangeMatrix', WHERE WHAT IT READS IS OF BULK AT MOST 1048576: true; the input reads as it did. -/
def fnExactArrangeMatrixUptoRow : OpenClaim := { program := "ytdiejmhphhdcfaa", sum := "35e84dc4ba24a1e0604500f5632c7deb5df9ca5dddcf582ea619a110d61ea16a", func := "loop.example/g00876/laws.FnExactArrangeMatrix", spec := "fnExactArrangeMatrix", unfollowed := true, recurses := true, apart := false, narrowed := true }
def FnExactArrangeMatrixUptoSaid : Prop := fnExactArrangeMatrixUptoRow.holds Try.pinned (OpenSpec.upto fnExactArrangeMatrixSpec)

/-- 'laws.FnExactCountCrossings', WHERE WHAT IT READS IS OF BULK AT MOST 1048576: true; the input reads as it did. -/
def fnExactCountCrossingsUptoRow : OpenClaim := { program := "ytdiejmhphhdcfaa", sum := "35e84dc4ba24a1e0604500f5632c7deb5df9ca5dddcf582ea619a110d61ea16a", func := "loop.example/g00876/laws.FnExactCountCrossings", spec := "fnExactCountCrossings", unfollowed := true, recurses := true, apart := false, narrowed := true }
def FnExactCountCrossingsUptoSaid : Prop := fnExactCountCrossingsUptoRow.holds Try.pinned (OpenSpec.upto fnExactCountCrossingsSpec)

/-- 'laws.FnExactSmallestDoubt', WHERE WHAT IT READS IS OF BULK AT MOST 1048576: true; the input reads as it did. -/
def fnExactSmallestDoubtUptoRow : OpenClaim := { program := "ytdiejmhphhdcfaa", sum := "35e84dc4ba24a1e0604500f5632c7deb5df9ca5dddcf582ea619a110d61ea16a", func := "loop.example/g00876/laws.FnExactSmallestDoubt", spec := "fnExactSmallestDoubt", unfollowed := true, recurses := true, apart := false, narrowed := true }
def FnExactSmallestDoubtUptoSaid : Prop := fnExactSmallestDoubtUptoRow.holds Try.pinned (OpenSpec.upto fnExactSmallestDoubtSpec)

/-- 'laws.FnExactAllDoubts', WHERE WHAT IT READS IS OF BULK AT MOST 1048576: true; the input reads as it did. -/
def fnExactAllDoubtsUptoRow : OpenClaim := { program := "ytdiejmhphhdcfaa", sum := "35e84dc4ba24a1e0604500f5632c7deb5df9ca5dddcf582ea619a110d61ea16a", func := "loop.example/g00876/laws.FnExactAllDoubts", spec := "fnExactAllDoubts", unfollowed := true, recurses := true, apart := false, narrowed := true }
def FnExactAllDoubtsUptoSaid : Prop := fnExactAllDoubtsUptoRow.holds Try.pinned (OpenSpec.upto fnExactAllDoubtsSpec)

/-- 'laws.FnExactLightestDoubt', WHERE WHAT IT READS IS OF BULK AT MOST 1048576: true; the input reads as it did. -/
def fnExactLightestDoubtUptoRow : OpenClaim := { program := "ytdiejmhphhdcfaa", sum := "35e84dc4ba24a1e0604500f5632c7deb5df9ca5dddcf582ea619a110d61ea16a", func := "loop.example/g00876/laws.FnExactLightestDoubt", spec := "fnExactLightestDoubt", unfollowed := true, recurses := true, apart := false, narrowed := true }
def FnExactLightestDoubtUptoSaid : Prop := fnExactLightestDoubtUptoRow.holds Try.pinned (OpenSpec.upto fnExactLightestDoubtSpec)

end Rows
end Go.Proofs.Ytdiejmhphhdcfaa

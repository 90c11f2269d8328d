/-
  No cell of these rows narrows 'for every input' (looked for: loops, veiled, ifaces, maps, wideKeys, modest, calm, conditions, laid).
  DERIVED. THE GIVEN ROWS OF THIS SEAT. 12 by the template 'for every input the law returns true; each argument reads behind the call as it read before'; 0 by the template 'total and deterministic' (their statements: YtdpehkfjhfjobaaTotals.lean).
  GIVEN WITH THE SEED: the statements are not yours to turn. If you find one false, say at which input.
  Laid BY PROGRAM, IN A SANDBOX (cutbox-rows.mjs): the forced cells as the released guide's own fill.sh prints them over the translation e110e2a72d1873a2… (all of the seat's roots in one cut). By AI agents, Wed Nov 11 2026. No macro, syntax, notation, axiom, sorry.
-/
import Derived.Test.YtdpehkfjhfjobaaChecked
import GoSem.Claim
import GoSem.ClaimJoined
import GoSem.ClaimMapViews
import Derived.JoinedTies
import Derived.KernelRfl
namespace Go.Proofs.Ytdpehkfjhfjobaa
/- THE CELL 'sum', in the pinned program and in every row, IS THE sha256 OF THE DUMP (.gsa) THAT YtdpehkfjhfjobaaProg.lean LOADS. Nothing in Lean hashes anything: it is a label: what it is worth is what the hold of that sum in a sandbox is worth. -/
noncomputable def Try.pinned : Pinned := { name := "ytdpehkfjhfjobaa", sum := "e110e2a72d1873a26a1bbefd8d542d7a0e25823d6ffa6f91e174eefc3c0ee1cc", checked := Try.checked }
namespace Rows
def none {H : Type} : Left H := { results := [], args := [] }

/-- 'laws.FnExactIsConsistent': WHATEVER THE INPUT: true; the input reads as it did. -/
def fnExactIsConsistentSpec : ChangeSpec := { name := "fnExactIsConsistent", fn := fun _ => fun
  | [d] => { results := [.lit (.bool true)], args := [d] }
  | _ => none }
def fnExactIsConsistentRow : OpenClaim := { program := "ytdpehkfjhfjobaa", sum := "e110e2a72d1873a26a1bbefd8d542d7a0e25823d6ffa6f91e174eefc3c0ee1cc", func := "loop.example/g00876/laws.FnExactIsConsistent", spec := "fnExactIsConsistent", unfollowed := true, recurses := true, apart := false }
def FnExactIsConsistentSaid : Prop := fnExactIsConsistentRow.holds Try.pinned (OpenSpec.ofChange fnExactIsConsistentSpec)

/-- ITS FALSE NEIGHBOUR: 'it returns false'. Refute it at one input. -/
def fnExactIsConsistentWrong : ChangeSpec := { name := "fnExactIsConsistent", fn := fun _ => fun
  | [d] => { results := [.lit (.bool false)], args := [d] }
  | _ => none }
def FnExactIsConsistentWrongFalsely : Prop := fnExactIsConsistentRow.holds Try.pinned (OpenSpec.ofChange fnExactIsConsistentWrong)

/-- 'laws.FnExactDepthOf': WHATEVER THE INPUT: true; the input reads as it did. -/
def fnExactDepthOfSpec : ChangeSpec := { name := "fnExactDepthOf", fn := fun _ => fun
  | [d1, d2] => { results := [.lit (.bool true)], args := [d1, d2] }
  | _ => none }
def fnExactDepthOfRow : OpenClaim := { program := "ytdpehkfjhfjobaa", sum := "e110e2a72d1873a26a1bbefd8d542d7a0e25823d6ffa6f91e174eefc3c0ee1cc", func := "loop.example/g00876/laws.FnExactDepthOf", spec := "fnExactDepthOf", unfollowed := true, recurses := true, apart := false }
def FnExactDepthOfSaid : Prop := fnExactDepthOfRow.holds Try.pinned (OpenSpec.ofChange fnExactDepthOfSpec)

/-- ITS FALSE NEIGHBOUR: 'it returns false'. Refute it at one input. -/
def fnExactDepthOfWrong : ChangeSpec := { name := "fnExactDepthOf", fn := fun _ => fun
  | [d1, d2] => { results := [.lit (.bool false)], args := [d1, d2] }
  | _ => none }
def FnExactDepthOfWrongFalsely : Prop := fnExactDepthOfRow.holds Try.pinned (OpenSpec.ofChange fnExactDepthOfWrong)

/-- 'laws.FnExactSuspectContexts': WHATEVER THE INPUT: true; the input reads as it did. -/
def fnExactSuspectContextsSpec : ChangeSpec := { name := "fnExactSuspectContexts", fn := fun _ => fun
  | [d] => { results := [.lit (.bool true)], args := [d] }
  | _ => none }
def fnExactSuspectContextsRow : OpenClaim := { program := "ytdpehkfjhfjobaa", sum := "e110e2a72d1873a26a1bbefd8d542d7a0e25823d6ffa6f91e174eefc3c0ee1cc", func := "loop.example/g00876/laws.FnExactSuspectContexts", spec := "fnExactSuspectContexts", unfollowed := true, recurses := true, apart := false }
def FnExactSuspectContextsSaid : Prop := fnExactSuspectContextsRow.holds Try.pinned (OpenSpec.ofChange fnExactSuspectContextsSpec)

/-- ITS FALSE NEIGHBOUR: 'it returns false'. Refute it at one input. -/
def fnExactSuspectContextsWrong : ChangeSpec := { name := "fnExactSuspectContexts", fn := fun _ => fun
  | [d] => { results := [.lit (.bool false)], args := [d] }
  | _ => none }
def FnExactSuspectContextsWrongFalsely : Prop := fnExactSuspectContextsRow.holds Try.pinned (OpenSpec.ofChange fnExactSuspectContextsWrong)

/-- 'laws.FnExactEarlierContexts': WHATEVER THE INPUT: true; the input reads as it did. -/
def fnExactEarlierContextsSpec : ChangeSpec := { name := "fnExactEarlierContexts", fn := fun _ => fun
  | [d1, d2] => { results := [.lit (.bool true)], args := [d1, d2] }
  | _ => none }
def fnExactEarlierContextsRow : OpenClaim := { program := "ytdpehkfjhfjobaa", sum := "e110e2a72d1873a26a1bbefd8d542d7a0e25823d6ffa6f91e174eefc3c0ee1cc", func := "loop.example/g00876/laws.FnExactEarlierContexts", spec := "fnExactEarlierContexts", unfollowed := true, recurses := true, apart := false }
def FnExactEarlierContextsSaid : Prop := fnExactEarlierContextsRow.holds Try.pinned (OpenSpec.ofChange fnExactEarlierContextsSpec)

/-- ITS FALSE NEIGHBOUR: 'it returns false'. Refute it at one input. -/
def fnExactEarlierContextsWrong : ChangeSpec := { name := "fnExactEarlierContexts", fn := fun _ => fun
  | [d1, d2] => { results := [.lit (.bool false)], args := [d1, d2] }
  | _ => none }
def FnExactEarlierContextsWrongFalsely : Prop := fnExactEarlierContextsRow.holds Try.pinned (OpenSpec.ofChange fnExactEarlierContextsWrong)

/-- 'laws.FnExactLaterContexts': WHATEVER THE INPUT: true; the input reads as it did. -/
def fnExactLaterContextsSpec : ChangeSpec := { name := "fnExactLaterContexts", fn := fun _ => fun
  | [d1, d2] => { results := [.lit (.bool true)], args := [d1, d2] }
  | _ => none }
def fnExactLaterContextsRow : OpenClaim := { program := "ytdpehkfjhfjobaa", sum := "e110e2a72d1873a26a1bbefd8d542d7a0e25823d6ffa6f91e174eefc3c0ee1cc", func := "loop.example/g00876/laws.FnExactLaterContexts", spec := "fnExactLaterContexts", unfollowed := true, recurses := true, apart := false }
def FnExactLaterContextsSaid : Prop := fnExactLaterContextsRow.holds Try.pinned (OpenSpec.ofChange fnExactLaterContextsSpec)

/-- ITS FALSE NEIGHBOUR: 'it returns false'. Refute it at one input. -/
def fnExactLaterContextsWrong : ChangeSpec := { name := "fnExactLaterContexts", fn := fun _ => fun
  | [d1, d2] => { results := [.lit (.bool false)], args := [d1, d2] }
  | _ => none }
def FnExactLaterContextsWrongFalsely : Prop := fnExactLaterContextsRow.holds Try.pinned (OpenSpec.ofChange fnExactLaterContextsWrong)

/-- 'laws.FnExactUnrelatedPairs': WHATEVER THE INPUT: true; the input reads as it did. -/
def fnExactUnrelatedPairsSpec : ChangeSpec := { name := "fnExactUnrelatedPairs", fn := fun _ => fun
  | [d] => { results := [.lit (.bool true)], args := [d] }
  | _ => none }
def fnExactUnrelatedPairsRow : OpenClaim := { program := "ytdpehkfjhfjobaa", sum := "e110e2a72d1873a26a1bbefd8d542d7a0e25823d6ffa6f91e174eefc3c0ee1cc", func := "loop.example/g00876/laws.FnExactUnrelatedPairs", spec := "fnExactUnrelatedPairs", unfollowed := true, recurses := true, apart := false }
def FnExactUnrelatedPairsSaid : Prop := fnExactUnrelatedPairsRow.holds Try.pinned (OpenSpec.ofChange fnExactUnrelatedPairsSpec)

/-- ITS FALSE NEIGHBOUR: 'it returns false'. Refute it at one input. -/
def fnExactUnrelatedPairsWrong : ChangeSpec := { name := "fnExactUnrelatedPairs", fn := fun _ => fun
  | [d] => { results := [.lit (.bool false)], args := [d] }
  | _ => none }
def FnExactUnrelatedPairsWrongFalsely : Prop := fnExactUnrelatedPairsRow.holds Try.pinned (OpenSpec.ofChange fnExactUnrelatedPairsWrong)

/-- 'laws.FnExactContradictoryRelations': WHATEVER THE INPUT: true; the input reads as it did. -/
def fnExactContradictoryRelationsSpec : ChangeSpec := { name := "fnExactContradictoryRelations", fn := fun _ => fun
  | [d] => { results := [.lit (.bool true)], args := [d] }
  | _ => none }
def fnExactContradictoryRelationsRow : OpenClaim := { program := "ytdpehkfjhfjobaa", sum := "e110e2a72d1873a26a1bbefd8d542d7a0e25823d6ffa6f91e174eefc3c0ee1cc", func := "loop.example/g00876/laws.FnExactContradictoryRelations", spec := "fnExactContradictoryRelations", unfollowed := true, recurses := true, apart := false }
def FnExactContradictoryRelationsSaid : Prop := fnExactContradictoryRelationsRow.holds Try.pinned (OpenSpec.ofChange fnExactContradictoryRelationsSpec)

/-- ITS FALSE NEIGHBOUR: 'it returns false'. Refute it at one input. -/
def fnExactContradictoryRelationsWrong : ChangeSpec := { name := "fnExactContradictoryRelations", fn := fun _ => fun
  | [d] => { results := [.lit (.bool false)], args := [d] }
  | _ => none }
def FnExactContradictoryRelationsWrongFalsely : Prop := fnExactContradictoryRelationsRow.holds Try.pinned (OpenSpec.ofChange fnExactContradictoryRelationsWrong)

/-- 'laws.FnExactEndContexts': WHATEVER THE INPUT: true; the input reads as it did. -/
def fnExactEndContextsSpec : ChangeSpec := { name := "fnExactEndContexts", fn := fun _ => fun
  | [d] => { results := [.lit (.bool true)], args := [d] }
  | _ => none }
def fnExactEndContextsRow : OpenClaim := { program := "ytdpehkfjhfjobaa", sum := "e110e2a72d1873a26a1bbefd8d542d7a0e25823d6ffa6f91e174eefc3c0ee1cc", func := "loop.example/g00876/laws.FnExactEndContexts", spec := "fnExactEndContexts", unfollowed := true, recurses := true, apart := false }
def FnExactEndContextsSaid : Prop := fnExactEndContextsRow.holds Try.pinned (OpenSpec.ofChange fnExactEndContextsSpec)

/-- ITS FALSE NEIGHBOUR: 'it returns false'. Refute it at one input. -/
def fnExactEndContextsWrong : ChangeSpec := { name := "fnExactEndContexts", fn := fun _ => fun
  | [d] => { results := [.lit (.bool false)], args := [d] }
  | _ => none }
def FnExactEndContextsWrongFalsely : Prop := fnExactEndContextsRow.holds Try.pinned (OpenSpec.ofChange fnExactEndContextsWrong)

/-- 'laws.FnExactRedundantRelations': WHATEVER THE INPUT: true; the input reads as it did. -/
def fnExactRedundantRelationsSpec : ChangeSpec := { name := "fnExactRedundantRelations", fn := fun _ => fun
  | [d] => { results := [.lit (.bool true)], args := [d] }
  | _ => none }
def fnExactRedundantRelationsRow : OpenClaim := { program := "ytdpehkfjhfjobaa", sum := "e110e2a72d1873a26a1bbefd8d542d7a0e25823d6ffa6f91e174eefc3c0ee1cc", func := "loop.example/g00876/laws.FnExactRedundantRelations", spec := "fnExactRedundantRelations", unfollowed := true, recurses := true, apart := false }
def FnExactRedundantRelationsSaid : Prop := fnExactRedundantRelationsRow.holds Try.pinned (OpenSpec.ofChange fnExactRedundantRelationsSpec)

/-- ITS FALSE NEIGHBOUR: 'it returns false'. Refute it at one input. -/
def fnExactRedundantRelationsWrong : ChangeSpec := { name := "fnExactRedundantRelations", fn := fun _ => fun
  | [d] => { results := [.lit (.bool false)], args := [d] }
  | _ => none }
def FnExactRedundantRelationsWrongFalsely : Prop := fnExactRedundantRelationsRow.holds Try.pinned (OpenSpec.ofChange fnExactRedundantRelationsWrong)

/-- 'laws.FnExactContextOrder': WHATEVER THE INPUT: true; the input reads as it did. -/
def fnExactContextOrderSpec : ChangeSpec := { name := "fnExactContextOrder", fn := fun _ => fun
  | [d] => { results := [.lit (.bool true)], args := [d] }
  | _ => none }
def fnExactContextOrderRow : OpenClaim := { program := "ytdpehkfjhfjobaa", sum := "e110e2a72d1873a26a1bbefd8d542d7a0e25823d6ffa6f91e174eefc3c0ee1cc", func := "loop.example/g00876/laws.FnExactContextOrder", spec := "fnExactContextOrder", unfollowed := true, recurses := true, apart := false }
def FnExactContextOrderSaid : Prop := fnExactContextOrderRow.holds Try.pinned (OpenSpec.ofChange fnExactContextOrderSpec)

/-- ITS FALSE NEIGHBOUR: 'it returns false'. Refute it at one input. -/
def fnExactContextOrderWrong : ChangeSpec := { name := "fnExactContextOrder", fn := fun _ => fun
  | [d] => { results := [.lit (.bool false)], args := [d] }
  | _ => none }
def FnExactContextOrderWrongFalsely : Prop := fnExactContextOrderRow.holds Try.pinned (OpenSpec.ofChange fnExactContextOrderWrong)

/-- 'laws.FnExactResolvesRecord': WHATEVER THE INPUT: true; the input reads as it did. -/
def fnExactResolvesRecordSpec : ChangeSpec := { name := "fnExactResolvesRecord", fn := fun _ => fun
  | [d1, d2] => { results := [.lit (.bool true)], args := [d1, d2] }
  | _ => none }
def fnExactResolvesRecordRow : OpenClaim := { program := "ytdpehkfjhfjobaa", sum := "e110e2a72d1873a26a1bbefd8d542d7a0e25823d6ffa6f91e174eefc3c0ee1cc", func := "loop.example/g00876/laws.FnExactResolvesRecord", spec := "fnExactResolvesRecord", unfollowed := true, recurses := true, apart := false }
def FnExactResolvesRecordSaid : Prop := fnExactResolvesRecordRow.holds Try.pinned (OpenSpec.ofChange fnExactResolvesRecordSpec)

/-- ITS FALSE NEIGHBOUR: 'it returns false'. Refute it at one input. -/
def fnExactResolvesRecordWrong : ChangeSpec := { name := "fnExactResolvesRecord", fn := fun _ => fun
  | [d1, d2] => { results := [.lit (.bool false)], args := [d1, d2] }
  | _ => none }
def FnExactResolvesRecordWrongFalsely : Prop := fnExactResolvesRecordRow.holds Try.pinned (OpenSpec.ofChange fnExactResolvesRecordWrong)

/-- 'laws.FnExactReduceRecord': WHATEVER THE INPUT: true; the input reads as it did. -/
def fnExactReduceRecordSpec : ChangeSpec := { name := "fnExactReduceRecord", fn := fun _ => fun
  | [d] => { results := [.lit (.bool true)], args := [d] }
  | _ => none }
def fnExactReduceRecordRow : OpenClaim := { program := "ytdpehkfjhfjobaa", sum := "e110e2a72d1873a26a1bbefd8d542d7a0e25823d6ffa6f91e174eefc3c0ee1cc", func := "loop.example/g00876/laws.FnExactReduceRecord", spec := "fnExactReduceRecord", unfollowed := true, recurses := true, apart := false }
def FnExactReduceRecordSaid : Prop := fnExactReduceRecordRow.holds Try.pinned (OpenSpec.ofChange fnExactReduceRecordSpec)

/-- ITS FALSE NEIGHBOUR: 'it returns false'. Refute it at one input. -/
def fnExactReduceRecordWrong : ChangeSpec := { name := "fnExactReduceRecord", fn := fun _ => fun
  | [d] => { results := [.lit (.bool false)], args := [d] }
  | _ => none }
def FnExactReduceRecordWrongFalsely : Prop := fnExactReduceRecordRow.holds Try.pinned (OpenSpec.ofChange fnExactReduceRecordWrong)

/- THE SECOND FORM. 'bulk': how many values and letters a reading holds, each counted each time it is reached (what is shared counts as often as it is met; a slice's spare places count too). A statement '..UptoSaid' is the law's where the arguments, and the package variables that the reading takes, are together of bulk at most 1048576: NARROWER than '..Said'. Prove '..Said' where nothing that the law and all that it calls make is longer than what came in: it says more and counts as full. Else prove '..UptoSaid'. A law counts once. -/
mutual
def uptoBulk {H : Type} : DataW H → Nat
  | .lit (.string bytes) => bytes.length + 1
  | .lit _ => 1
  | .nil => 1
  | .ptr d => uptoBulk d + 1
  | .slice elems spare => uptoBulkAll elems + uptoBulkAll spare + 1
  | .agg parts => uptoBulkAll parts + 1
  | .iface _ d => uptoBulk d + 1
  | .map entries => uptoBulkEntries entries + 1
  | .held _ => 1
def uptoBulkAll {H : Type} : List (DataW H) → Nat
  | [] => 0
  | d :: r => uptoBulk d + uptoBulkAll r
def uptoBulkEntries {H : Type} : List (Lit × DataW H) → Nat
  | [] => 0
  | x :: r => uptoBulkEntry x + uptoBulkEntries r
def uptoBulkEntry {H : Type} : Lit × DataW H → Nat
  | (.string bytes, d) => bytes.length + uptoBulk d + 1
  | (_, d) => uptoBulk d + 1
 end
def uptoSmall : (H : Type) → List (DataW H) → Bool := fun _ ds => decide (uptoBulkAll ds ≤ 1048576)
def OpenSpec.upto (s : _root_.Go.ChangeSpec) : _root_.Go.OpenSpec := { _root_.Go.OpenSpec.ofChange s with cond := some uptoSmall }

/-- 'laws.FnExactIsConsistent', WHERE WHAT IT READS IS OF BULK AT MOST 1048576: true; the input reads as it did. -/
def fnExactIsConsistentUptoRow : OpenClaim := { program := "ytdpehkfjhfjobaa", sum := "e110e2a72d1873a26a1bbefd8d542d7a0e25823d6ffa6f91e174eefc3c0ee1cc", func := "loop.example/g00876/laws.FnExactIsConsistent", spec := "fnExactIsConsistent", unfollowed := true, recurses := true, apart := false, narrowed := true }
def FnExactIsConsistentUptoSaid : Prop := fnExactIsConsistentUptoRow.holds Try.pinned (OpenSpec.upto fnExactIsConsistentSpec)

/-- 'laws.FnExactDepthOf', WHERE WHAT IT READS IS OF BULK AT MOST 1048576: true; the input reads as it did. -/
def fnExactDepthOfUptoRow : OpenClaim := { program := "ytdpehkfjhfjobaa", sum := "e110e2a72d1873a26a1bbefd8d542d7a0e25823d6ffa6f91e174eefc3c0ee1cc", func := "loop.example/g00876/laws.FnExactDepthOf", spec := "fnExactDepthOf", unfollowed := true, recurses := true, apart := false, narrowed := true }
def FnExactDepthOfUptoSaid : Prop := fnExactDepthOfUptoRow.holds Try.pinned (OpenSpec.upto fnExactDepthOfSpec)

/-- 'laws.FnExactSuspectContexts', WHERE WHAT IT READS IS OF BULK AT MOST 1048576: true; the input reads as it did. -/
def fnExactSuspectContextsUptoRow : OpenClaim := { program := "ytdpehkfjhfjobaa", sum := "e110e2a72d1873a26a1bbefd8d542d7a0e25823d6ffa6f91e174eefc3c0ee1cc", func := "loop.example/g00876/laws.FnExactSuspectContexts", spec := "fnExactSuspectContexts", unfollowed := true, recurses := true, apart := false, narrowed := true }
def FnExactSuspectContextsUptoSaid : Prop := fnExactSuspectContextsUptoRow.holds Try.pinned (OpenSpec.upto fnExactSuspectContextsSpec)

/-- 'laws.FnExactEarlierContexts', WHERE WHAT IT READS IS OF BULK AT MOST 1048576: true; the input reads as it did. -/
def fnExactEarlierContextsUptoRow : OpenClaim := { program := "ytdpehkfjhfjobaa", sum := "e110e2a72d1873a26a1bbefd8d542d7a0e25823d6ffa6f91e174eefc3c0ee1cc", func := "loop.example/g00876/laws.FnExactEarlierContexts", spec := "fnExactEarlierContexts", unfollowed := true, recurses := true, apart := false, narrowed := true }
def FnExactEarlierContextsUptoSaid : Prop := fnExactEarlierContextsUptoRow.holds Try.pinned (OpenSpec.upto fnExactEarlierContextsSpec)

/-- 'laws.FnExactLaterContexts', WHERE WHAT IT READS IS OF BULK AT MOST 1048576: true; the input reads as it did. -/
def fnExactLaterContextsUptoRow : OpenClaim := { program := "ytdpehkfjhfjobaa", sum := "e110e2a72d1873a26a1bbefd8d542d7a0e25823d6ffa6f91e174eefc3c0ee1cc", func := "loop.example/g00876/laws.FnExactLaterContexts", spec := "fnExactLaterContexts", unfollowed := true, recurses := true, apart := false, narrowed := true }
def FnExactLaterContextsUptoSaid : Prop := fnExactLaterContextsUptoRow.holds Try.pinned (OpenSpec.upto fnExactLaterContextsSpec)

/-- 'laws.FnExactUnrelatedPairs', WHERE WHAT IT READS IS OF BULK AT MOST 1048576: true; the input reads as it did. -/
def fnExactUnrelatedPairsUptoRow : OpenClaim := { program := "ytdpehkfjhfjobaa", sum := "e110e2a72d1873a26a1bbefd8d542d7a0e25823d6ffa6f91e174eefc3c0ee1cc", func := "loop.example/g00876/laws.FnExactUnrelatedPairs", spec := "fnExactUnrelatedPairs", unfollowed := true, recurses := true, apart := false, narrowed := true }
def FnExactUnrelatedPairsUptoSaid : Prop := fnExactUnrelatedPairsUptoRow.holds Try.pinned (OpenSpec.upto fnExactUnrelatedPairsSpec)

/-- 'laws.FnExactContradictoryRelations', WHERE WHAT IT READS IS OF BULK AT MOST 1048576: true; the input reads as it did. -/
def fnExactContradictoryRelationsUptoRow : OpenClaim := { program := "ytdpehkfjhfjobaa", sum := "e110e2a72d1873a26a1bbefd8d542d7a0e25823d6ffa6f91e174eefc3c0ee1cc", func := "loop.example/g00876/laws.FnExactContradictoryRelations", spec := "fnExactContradictoryRelations", unfollowed := true, recurses := true, apart := false, narrowed := true }
def FnExactContradictoryRelationsUptoSaid : Prop := fnExactContradictoryRelationsUptoRow.holds Try.pinned (OpenSpec.upto fnExactContradictoryRelationsSpec)

/-- 'laws.FnExactEndContexts', WHERE WHAT IT READS IS OF BULK AT MOST 1048576: true; the input reads as it did. -/
def fnExactEndContextsUptoRow : OpenClaim := { program := "ytdpehkfjhfjobaa", sum := "e110e2a72d1873a26a1bbefd8d542d7a0e25823d6ffa6f91e174eefc3c0ee1cc", func := "loop.example/g00876/laws.FnExactEndContexts", spec := "fnExactEndContexts", unfollowed := true, recurses := true, apart := false, narrowed := true }
def FnExactEndContextsUptoSaid : Prop := fnExactEndContextsUptoRow.holds Try.pinned (OpenSpec.upto fnExactEndContextsSpec)

/-- 'laws.FnExactRedundantRelations', WHERE WHAT IT READS IS OF BULK AT MOST 1048576: true; the input reads as it did. -/
def fnExactRedundantRelationsUptoRow : OpenClaim := { program := "ytdpehkfjhfjobaa", sum := "e110e2a72d1873a26a1bbefd8d542d7a0e25823d6ffa6f91e174eefc3c0ee1cc", func := "loop.example/g00876/laws.FnExactRedundantRelations", spec := "fnExactRedundantRelations", unfollowed := true, recurses := true, apart := false, narrowed := true }
def FnExactRedundantRelationsUptoSaid : Prop := fnExactRedundantRelationsUptoRow.holds Try.pinned (OpenSpec.upto fnExactRedundantRelationsSpec)

/-- 'laws.FnExactContextOrder', WHERE WHAT IT READS IS OF BULK AT MOST 1048576: true; the input reads as it did. -/
def fnExactContextOrderUptoRow : OpenClaim := { program := "ytdpehkfjhfjobaa", sum := "e110e2a72d1873a26a1bbefd8d542d7a0e25823d6ffa6f91e174eefc3c0ee1cc", func := "loop.example/g00876/laws.FnExactContextOrder", spec := "fnExactContextOrder", unfollowed := true, recurses := true, apart := false, narrowed := true }
def FnExactContextOrderUptoSaid : Prop := fnExactContextOrderUptoRow.holds Try.pinned (OpenSpec.upto fnExactContextOrderSpec)

/-- 'laws.FnExactResolvesRecord', WHERE WHAT IT READS IS OF BULK AT MOST 1048576: true; the input reads as it did. -/
def fnExactResolvesRecordUptoRow : OpenClaim := { program := "ytdpehkfjhfjobaa", sum := "e110e2a72d1873a26a1bbefd8d542d7a0e25823d6ffa6f91e174eefc3c0ee1cc", func := "loop.example/g00876/laws.FnExactResolvesRecord", spec := "fnExactResolvesRecord", unfollowed := true, recurses := true, apart := false, narrowed := true }
def FnExactResolvesRecordUptoSaid : Prop := fnExactResolvesRecordUptoRow.holds Try.pinned (OpenSpec.upto fnExactResolvesRecordSpec)

/-- 'laws.FnExactReduceRecord', WHERE WHAT IT READS IS OF BULK AT MOST 1048576: true; the input reads as it did. -/
def fnExactReduceRecordUptoRow : OpenClaim := { program := "ytdpehkfjhfjobaa", sum := "e110e2a72d1873a26a1bbefd8d542d7a0e25823d6ffa6f91e174eefc3c0ee1cc", func := "loop.example/g00876/laws.FnExactReduceRecord", spec := "fnExactReduceRecord", unfollowed := true, recurses := true, apart := false, narrowed := true }
def FnExactReduceRecordUptoSaid : Prop := fnExactReduceRecordUptoRow.holds Try.pinned (OpenSpec.upto fnExactReduceRecordSpec)

end Rows
end Go.Proofs.Ytdpehkfjhfjobaa

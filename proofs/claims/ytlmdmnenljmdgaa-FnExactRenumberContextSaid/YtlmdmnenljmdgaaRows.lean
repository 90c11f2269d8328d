/-
  No cell of these rows narrows 'for every input' (looked for: loops, veiled, ifaces, maps, wideKeys, modest, calm, conditions, laid).
  DERIVED. THE GIVEN ROWS OF THIS SEAT. 6 by the template 'for every input the law returns true; each argument reads behind the call as it read before'; 0 by the template 'total and deterministic' (their statements: YtlmdmnenljmdgaaTotals.lean).
  GIVEN WITH THE SEED: the statements are not yours to turn. If you find one false, say at which input.
  Laid BY PROGRAM, IN A SANDBOX (cutbox-rows.mjs): the forced cells as the released guide's own fill.sh prints them over the translation b03fd034ad4a44d2… (all of the seat's roots in one cut). By AI agents, Wed Nov 11 2026. No macro, syntax, notation, axiom, sorry.
-/
import Derived.Test.YtlmdmnenljmdgaaChecked
import GoSem.Claim
import GoSem.ClaimJoined
import GoSem.ClaimMapViews
import Derived.JoinedTies
import Derived.KernelRfl
namespace Go.Proofs.Ytlmdmnenljmdgaa
/- THE CELL 'sum', in the pinned program and in every row, IS THE sha256 OF THE DUMP (.gsa) THAT YtlmdmnenljmdgaaProg.lean LOADS. Nothing in Lean hashes anything: it is a label: what it is worth is what the hold of that sum in a sandbox is worth. -/
noncomputable def Try.pinned : Pinned := { name := "ytlmdmnenljmdgaa", sum := "b03fd034ad4a44d295da8926186c3a205b360e4319e86bfcd3bf6bb1580442cf", checked := Try.checked }
namespace Rows
def none {H : Type} : Left H := { results := [], args := [] }

/-- 'laws.FnExactRemoveRelation': WHATEVER THE INPUT: true; the input reads as it did. -/
def fnExactRemoveRelationSpec : ChangeSpec := { name := "fnExactRemoveRelation", fn := fun _ => fun
  | [d1, d2] => { results := [.lit (.bool true)], args := [d1, d2] }
  | _ => none }
def fnExactRemoveRelationRow : OpenClaim := { program := "ytlmdmnenljmdgaa", sum := "b03fd034ad4a44d295da8926186c3a205b360e4319e86bfcd3bf6bb1580442cf", func := "loop.example/g00876/laws.FnExactRemoveRelation", spec := "fnExactRemoveRelation", unfollowed := true, recurses := true, apart := false }
def FnExactRemoveRelationSaid : Prop := fnExactRemoveRelationRow.holds Try.pinned (OpenSpec.ofChange fnExactRemoveRelationSpec)

/-- ITS FALSE NEIGHBOUR: 'it returns false'. Refute it at one input. -/
def fnExactRemoveRelationWrong : ChangeSpec := { name := "fnExactRemoveRelation", fn := fun _ => fun
  | [d1, d2] => { results := [.lit (.bool false)], args := [d1, d2] }
  | _ => none }
def FnExactRemoveRelationWrongFalsely : Prop := fnExactRemoveRelationRow.holds Try.pinned (OpenSpec.ofChange fnExactRemoveRelationWrong)

/-- 'laws.FnExactAddContext': WHATEVER THE INPUT: true; the input reads as it did. -/
def fnExactAddContextSpec : ChangeSpec := { name := "fnExactAddContext", fn := fun _ => fun
  | [d1, d2] => { results := [.lit (.bool true)], args := [d1, d2] }
  | _ => none }
def fnExactAddContextRow : OpenClaim := { program := "ytlmdmnenljmdgaa", sum := "b03fd034ad4a44d295da8926186c3a205b360e4319e86bfcd3bf6bb1580442cf", func := "loop.example/g00876/laws.FnExactAddContext", spec := "fnExactAddContext", unfollowed := true, recurses := true, apart := false }
def FnExactAddContextSaid : Prop := fnExactAddContextRow.holds Try.pinned (OpenSpec.ofChange fnExactAddContextSpec)

/-- ITS FALSE NEIGHBOUR: 'it returns false'. Refute it at one input. -/
def fnExactAddContextWrong : ChangeSpec := { name := "fnExactAddContext", fn := fun _ => fun
  | [d1, d2] => { results := [.lit (.bool false)], args := [d1, d2] }
  | _ => none }
def FnExactAddContextWrongFalsely : Prop := fnExactAddContextRow.holds Try.pinned (OpenSpec.ofChange fnExactAddContextWrong)

/-- 'laws.FnExactAddRelation': WHATEVER THE INPUT: true; the input reads as it did. -/
def fnExactAddRelationSpec : ChangeSpec := { name := "fnExactAddRelation", fn := fun _ => fun
  | [d1, d2] => { results := [.lit (.bool true)], args := [d1, d2] }
  | _ => none }
def fnExactAddRelationRow : OpenClaim := { program := "ytlmdmnenljmdgaa", sum := "b03fd034ad4a44d295da8926186c3a205b360e4319e86bfcd3bf6bb1580442cf", func := "loop.example/g00876/laws.FnExactAddRelation", spec := "fnExactAddRelation", unfollowed := true, recurses := true, apart := false }
def FnExactAddRelationSaid : Prop := fnExactAddRelationRow.holds Try.pinned (OpenSpec.ofChange fnExactAddRelationSpec)

/-- ITS FALSE NEIGHBOUR: 'it returns false'. Refute it at one input. -/
def fnExactAddRelationWrong : ChangeSpec := { name := "fnExactAddRelation", fn := fun _ => fun
  | [d1, d2] => { results := [.lit (.bool false)], args := [d1, d2] }
  | _ => none }
def FnExactAddRelationWrongFalsely : Prop := fnExactAddRelationRow.holds Try.pinned (OpenSpec.ofChange fnExactAddRelationWrong)

/-- 'laws.FnExactRenumberContext': WHATEVER THE INPUT: true; the input reads as it did. -/
def fnExactRenumberContextSpec : ChangeSpec := { name := "fnExactRenumberContext", fn := fun _ => fun
  | [d1, d2, d3] => { results := [.lit (.bool true)], args := [d1, d2, d3] }
  | _ => none }
def fnExactRenumberContextRow : OpenClaim := { program := "ytlmdmnenljmdgaa", sum := "b03fd034ad4a44d295da8926186c3a205b360e4319e86bfcd3bf6bb1580442cf", func := "loop.example/g00876/laws.FnExactRenumberContext", spec := "fnExactRenumberContext", unfollowed := true, recurses := true, apart := false }
def FnExactRenumberContextSaid : Prop := fnExactRenumberContextRow.holds Try.pinned (OpenSpec.ofChange fnExactRenumberContextSpec)

/-- ITS FALSE NEIGHBOUR: 'it returns false'. Refute it at one input. -/
def fnExactRenumberContextWrong : ChangeSpec := { name := "fnExactRenumberContext", fn := fun _ => fun
  | [d1, d2, d3] => { results := [.lit (.bool false)], args := [d1, d2, d3] }
  | _ => none }
def FnExactRenumberContextWrongFalsely : Prop := fnExactRenumberContextRow.holds Try.pinned (OpenSpec.ofChange fnExactRenumberContextWrong)

/-- 'laws.FnExactEquateContexts': WHATEVER THE INPUT: true; the input reads as it did. -/
def fnExactEquateContextsSpec : ChangeSpec := { name := "fnExactEquateContexts", fn := fun _ => fun
  | [d1, d2, d3] => { results := [.lit (.bool true)], args := [d1, d2, d3] }
  | _ => none }
def fnExactEquateContextsRow : OpenClaim := { program := "ytlmdmnenljmdgaa", sum := "b03fd034ad4a44d295da8926186c3a205b360e4319e86bfcd3bf6bb1580442cf", func := "loop.example/g00876/laws.FnExactEquateContexts", spec := "fnExactEquateContexts", unfollowed := true, recurses := true, apart := false }
def FnExactEquateContextsSaid : Prop := fnExactEquateContextsRow.holds Try.pinned (OpenSpec.ofChange fnExactEquateContextsSpec)

/-- ITS FALSE NEIGHBOUR: 'it returns false'. Refute it at one input. -/
def fnExactEquateContextsWrong : ChangeSpec := { name := "fnExactEquateContexts", fn := fun _ => fun
  | [d1, d2, d3] => { results := [.lit (.bool false)], args := [d1, d2, d3] }
  | _ => none }
def FnExactEquateContextsWrongFalsely : Prop := fnExactEquateContextsRow.holds Try.pinned (OpenSpec.ofChange fnExactEquateContextsWrong)

/-- 'laws.FnExactUnrelatedPairs': WHATEVER THE INPUT: true; the input reads as it did. -/
def fnExactUnrelatedPairsSpec : ChangeSpec := { name := "fnExactUnrelatedPairs", fn := fun _ => fun
  | [d] => { results := [.lit (.bool true)], args := [d] }
  | _ => none }
def fnExactUnrelatedPairsRow : OpenClaim := { program := "ytlmdmnenljmdgaa", sum := "b03fd034ad4a44d295da8926186c3a205b360e4319e86bfcd3bf6bb1580442cf", func := "loop.example/g00876/laws.FnExactUnrelatedPairs", spec := "fnExactUnrelatedPairs", unfollowed := true, recurses := true, apart := false }
def FnExactUnrelatedPairsSaid : Prop := fnExactUnrelatedPairsRow.holds Try.pinned (OpenSpec.ofChange fnExactUnrelatedPairsSpec)

/-- ITS FALSE NEIGHBOUR: 'it returns false'. Refute it at one input. -/
def fnExactUnrelatedPairsWrong : ChangeSpec := { name := "fnExactUnrelatedPairs", fn := fun _ => fun
  | [d] => { results := [.lit (.bool false)], args := [d] }
  | _ => none }
def FnExactUnrelatedPairsWrongFalsely : Prop := fnExactUnrelatedPairsRow.holds Try.pinned (OpenSpec.ofChange fnExactUnrelatedPairsWrong)

/- THE SECOND FORM. 'bulk': how many values and letters a reading holds, each counted each time it is reached (what is shared counts as often as it is met; a slice's spare places count too). A statement '..UptoSaid' is the law's where the arguments, and the package variables that the reading takes, are together of bulk at most 1048576: NARROWER than '..Said'. Prove '..Said' where nothing that the law and all that it calls make is longer than what came in: it says more and counts as full. Else prove '..UptoSaid'. A law counts once. -/
mutual
def uptoBulk {H : Type} : DataW H → Nat
  | .lit (.string bytes) => bytes.length + 1
  | .lit _ => 1
  | .nil => 1
  | .ptr d => uptoBulk d + 1
  | .slice elems spare => uptoBulkAll elems + uptoBulkAll spare + 1
  | .agg parts => uptoBulkAll parts + 1
  | .iface _ d => uptoBulk d + 1
  | .map entries => uptoBulkEntries entries + 1
  | .held _ => 1
def uptoBulkAll {H : Type} : List (DataW H) → Nat
  | [] => 0
  | d :: r => uptoBulk d + uptoBulkAll r
def uptoBulkEntries {H : Type} : List (Lit × DataW H) → Nat
  | [] => 0
  | x :: r => uptoBulkEntry x + uptoBulkEntries r
def uptoBulkEntry {H : Type} : Lit × DataW H → Nat
  | (.string bytes, d) => bytes.length + uptoBulk d + 1
  | (_, d) => uptoBulk d + 1
 end
def uptoSmall : (H : Type) → List (DataW H) → Bool := fun _ ds => decide (uptoBulkAll ds ≤ 1048576)
def OpenSpec.upto (s : _root_.Go.ChangeSpec) : _root_.Go.OpenSpec := { _root_.Go.OpenSpec.ofChange s with cond := some uptoSmall }

/-- 'laws.FnExactRemoveRelation', WHERE WHAT IT READS IS OF BULK AT MOST 1048576: true; the input reads as it did. -/
def fnExactRemoveRelationUptoRow : OpenClaim := { program := "ytlmdmnenljmdgaa", sum := "b03fd034ad4a44d295da8926186c3a205b360e4319e86bfcd3bf6bb1580442cf", func := "loop.example/g00876/laws.FnExactRemoveRelation", spec := "fnExactRemoveRelation", unfollowed := true, recurses := true, apart := false, narrowed := true }
def FnExactRemoveRelationUptoSaid : Prop := fnExactRemoveRelationUptoRow.holds Try.pinned (OpenSpec.upto fnExactRemoveRelationSpec)

/-- 'laws.FnExactAddContext', WHERE WHAT IT READS IS OF BULK AT MOST 1048576: true; the input reads as it did. -/
def fnExactAddContextUptoRow : OpenClaim := { program := "ytlmdmnenljmdgaa", sum := "b03fd034ad4a44d295da8926186c3a205b360e4319e86bfcd3bf6bb1580442cf", func := "loop.example/g00876/laws.FnExactAddContext", spec := "fnExactAddContext", unfollowed := true, recurses := true, apart := false, narrowed := true }
def FnExactAddContextUptoSaid : Prop := fnExactAddContextUptoRow.holds Try.pinned (OpenSpec.upto fnExactAddContextSpec)

/-- 'laws.FnExactAddRelation', WHERE WHAT IT READS IS OF BULK AT MOST 1048576: true; the input reads as it did. -/
def fnExactAddRelationUptoRow : OpenClaim := { program := "ytlmdmnenljmdgaa", sum := "b03fd034ad4a44d295da8926186c3a205b360e4319e86bfcd3bf6bb1580442cf", func := "loop.example/g00876/laws.FnExactAddRelation", spec := "fnExactAddRelation", unfollowed := true, recurses := true, apart := false, narrowed := true }
def FnExactAddRelationUptoSaid : Prop := fnExactAddRelationUptoRow.holds Try.pinned (OpenSpec.upto fnExactAddRelationSpec)

/-- 'laws.FnExactRenumberContext', WHERE WHAT IT READS IS OF BULK AT MOST 1048576: true; the input reads as it did. -/
def fnExactRenumberContextUptoRow : OpenClaim := { program := "ytlmdmnenljmdgaa", sum := "b03fd034ad4a44d295da8926186c3a205b360e4319e86bfcd3bf6bb1580442cf", func := "loop.example/g00876/laws.FnExactRenumberContext", spec := "fnExactRenumberContext", unfollowed := true, recurses := true, apart := false, narrowed := true }
def FnExactRenumberContextUptoSaid : Prop := fnExactRenumberContextUptoRow.holds Try.pinned (OpenSpec.upto fnExactRenumberContextSpec)

/-- 'laws.FnExactEquateContexts', WHERE WHAT IT READS IS OF BULK AT MOST 1048576: true; the input reads as it did. -/
def fnExactEquateContextsUptoRow : OpenClaim := { program := "ytlmdmnenljmdgaa", sum := "b03fd034ad4a44d295da8926186c3a205b360e4319e86bfcd3bf6bb1580442cf", func := "loop.example/g00876/laws.FnExactEquateContexts", spec := "fnExactEquateContexts", unfollowed := true, recurses := true, apart := false, narrowed := true }
def FnExactEquateContextsUptoSaid : Prop := fnExactEquateContextsUptoRow.holds Try.pinned (OpenSpec.upto fnExactEquateContextsSpec)

/-- 'laws.FnExactUnrelatedPairs', WHERE WHAT IT READS IS OF BULK AT MOST 1048576: true; the input reads as it did. -/
def fnExactUnrelatedPairsUptoRow : OpenClaim := { program := "ytlmdmnenljmdgaa", sum := "b03fd034ad4a44d295da8926186c3a205b360e4319e86bfcd3bf6bb1580442cf", func := "loop.example/g00876/laws.FnExactUnrelatedPairs", spec := "fnExactUnrelatedPairs", unfollowed := true, recurses := true, apart := false, narrowed := true }
def FnExactUnrelatedPairsUptoSaid : Prop := fnExactUnrelatedPairsUptoRow.holds Try.pinned (OpenSpec.upto fnExactUnrelatedPairsSpec)

end Rows
end Go.Proofs.Ytlmdmnenljmdgaa

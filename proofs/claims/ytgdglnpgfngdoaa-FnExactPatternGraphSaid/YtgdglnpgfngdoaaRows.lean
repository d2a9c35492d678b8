/-
  No cell of these rows narrows 'for every input' (looked for: loops, veiled, ifaces, maps, wideKeys, modest, calm, conditions, laid).
  DERIVED. THE GIVEN ROWS OF THIS SEAT. 12 by the template 'for every input the law returns true; each argument reads behind the call as it read before'; 0 by the template 'total and deterministic' (their statements: YtgdglnpgfngdoaaTotals.lean).
  GIVEN WITH THE SEED: the statements are not yours to turn. If you find one false, say at which input.
  Laid BY PROGRAM, IN A SANDBOX (cutbox-rows.mjs): the forced cells as the released guide's own fill.sh prints them over the translation d41780a4620fd54a… (all of the seat's roots in one cut). By AI agents, Wed Nov 11 2026. No macro, syntax, notation, axiom, sorry.
-/
import Derived.Test.YtgdglnpgfngdoaaChecked
import GoSem.Claim
import GoSem.ClaimJoined
import GoSem.ClaimMapViews
import Derived.JoinedTies
import Derived.KernelRfl
namespace Go.Proofs.Ytgdglnpgfngdoaa
/- THE CELL 'sum', in the pinned program and in every row, IS THE sha256 OF THE DUMP (.gsa) THAT YtgdglnpgfngdoaaProg.lean LOADS. Nothing in Lean hashes anything: it is a label: what it is worth is what the hold of that sum in a sandbox is worth. -/
noncomputable def Try.pinned : Pinned := { name := "ytgdglnpgfngdoaa", sum := "d41780a4620fd54ac82d61188cb6d7bc7c79b80ad3f11d68856002c9fb9a474f", checked := Try.checked }
namespace Rows
def none {H : Type} : Left H := { results := [], args := [] }

/-- 'laws.FnExactReversePattern': WHATEVER THE INPUT: true; the input reads as it did. -/
def fnExactReversePatternSpec : ChangeSpec := { name := "fnExactReversePattern", fn := fun _ => fun
  | [d] => { results := [.lit (.bool true)], args := [d] }
  | _ => none }
def fnExactReversePatternRow : OpenClaim := { program := "ytgdglnpgfngdoaa", sum := "d41780a4620fd54ac82d61188cb6d7bc7c79b80ad3f11d68856002c9fb9a474f", func := "loop.example/g01003/laws.FnExactReversePattern", spec := "fnExactReversePattern", unfollowed := true, recurses := true, apart := false }
def FnExactReversePatternSaid : Prop := fnExactReversePatternRow.holds Try.pinned (OpenSpec.ofChange fnExactReversePatternSpec)

/-- ITS FALSE NEIGHBOUR: 'it returns false'. Refute it at one input. -/
def fnExactReversePatternWrong : ChangeSpec := { name := "fnExactReversePattern", fn := fun _ => fun
  | [d] => { results := [.lit (.bool false)], args := [d] }
  | _ => none }
def FnExactReversePatternWrongFalsely : Prop := fnExactReversePatternRow.holds Try.pinned (OpenSpec.ofChange fnExactReversePatternWrong)

/-- 'laws.FnExactDoublePattern': WHATEVER THE INPUT: true; the input reads as it did. -/
def fnExactDoublePatternSpec : ChangeSpec := { name := "fnExactDoublePattern", fn := fun _ => fun
  | [d] => { results := [.lit (.bool true)], args := [d] }
  | _ => none }
def fnExactDoublePatternRow : OpenClaim := { program := "ytgdglnpgfngdoaa", sum := "d41780a4620fd54ac82d61188cb6d7bc7c79b80ad3f11d68856002c9fb9a474f", func := "loop.example/g01003/laws.FnExactDoublePattern", spec := "fnExactDoublePattern", unfollowed := true, recurses := true, apart := false }
def FnExactDoublePatternSaid : Prop := fnExactDoublePatternRow.holds Try.pinned (OpenSpec.ofChange fnExactDoublePatternSpec)

/-- ITS FALSE NEIGHBOUR: 'it returns false'. Refute it at one input. -/
def fnExactDoublePatternWrong : ChangeSpec := { name := "fnExactDoublePattern", fn := fun _ => fun
  | [d] => { results := [.lit (.bool false)], args := [d] }
  | _ => none }
def FnExactDoublePatternWrongFalsely : Prop := fnExactDoublePatternRow.holds Try.pinned (OpenSpec.ofChange fnExactDoublePatternWrong)

/-- 'laws.FnExactTurnsOf': WHATEVER THE INPUT: true; the input reads as it did. -/
def fnExactTurnsOfSpec : ChangeSpec := { name := "fnExactTurnsOf", fn := fun _ => fun
  | [d] => { results := [.lit (.bool true)], args := [d] }
  | _ => none }
def fnExactTurnsOfRow : OpenClaim := { program := "ytgdglnpgfngdoaa", sum := "d41780a4620fd54ac82d61188cb6d7bc7c79b80ad3f11d68856002c9fb9a474f", func := "loop.example/g01003/laws.FnExactTurnsOf", spec := "fnExactTurnsOf", unfollowed := true, recurses := true, apart := false }
def FnExactTurnsOfSaid : Prop := fnExactTurnsOfRow.holds Try.pinned (OpenSpec.ofChange fnExactTurnsOfSpec)

/-- ITS FALSE NEIGHBOUR: 'it returns false'. Refute it at one input. -/
def fnExactTurnsOfWrong : ChangeSpec := { name := "fnExactTurnsOf", fn := fun _ => fun
  | [d] => { results := [.lit (.bool false)], args := [d] }
  | _ => none }
def FnExactTurnsOfWrongFalsely : Prop := fnExactTurnsOfRow.holds Try.pinned (OpenSpec.ofChange fnExactTurnsOfWrong)

/-- 'laws.FnExactPatternPower': WHATEVER THE INPUT: true; the input reads as it did. -/
def fnExactPatternPowerSpec : ChangeSpec := { name := "fnExactPatternPower", fn := fun _ => fun
  | [d1, d2] => { results := [.lit (.bool true)], args := [d1, d2] }
  | _ => none }
def fnExactPatternPowerRow : OpenClaim := { program := "ytgdglnpgfngdoaa", sum := "d41780a4620fd54ac82d61188cb6d7bc7c79b80ad3f11d68856002c9fb9a474f", func := "loop.example/g01003/laws.FnExactPatternPower", spec := "fnExactPatternPower", unfollowed := true, recurses := true, apart := false }
def FnExactPatternPowerSaid : Prop := fnExactPatternPowerRow.holds Try.pinned (OpenSpec.ofChange fnExactPatternPowerSpec)

/-- ITS FALSE NEIGHBOUR: 'it returns false'. Refute it at one input. -/
def fnExactPatternPowerWrong : ChangeSpec := { name := "fnExactPatternPower", fn := fun _ => fun
  | [d1, d2] => { results := [.lit (.bool false)], args := [d1, d2] }
  | _ => none }
def FnExactPatternPowerWrongFalsely : Prop := fnExactPatternPowerRow.holds Try.pinned (OpenSpec.ofChange fnExactPatternPowerWrong)

/-- 'laws.FnExactCollapseBlocks': WHATEVER THE INPUT: true; the input reads as it did. -/
def fnExactCollapseBlocksSpec : ChangeSpec := { name := "fnExactCollapseBlocks", fn := fun _ => fun
  | [d1, d2] => { results := [.lit (.bool true)], args := [d1, d2] }
  | _ => none }
def fnExactCollapseBlocksRow : OpenClaim := { program := "ytgdglnpgfngdoaa", sum := "d41780a4620fd54ac82d61188cb6d7bc7c79b80ad3f11d68856002c9fb9a474f", func := "loop.example/g01003/laws.FnExactCollapseBlocks", spec := "fnExactCollapseBlocks", unfollowed := true, recurses := true, apart := false }
def FnExactCollapseBlocksSaid : Prop := fnExactCollapseBlocksRow.holds Try.pinned (OpenSpec.ofChange fnExactCollapseBlocksSpec)

/-- ITS FALSE NEIGHBOUR: 'it returns false'. Refute it at one input. -/
def fnExactCollapseBlocksWrong : ChangeSpec := { name := "fnExactCollapseBlocks", fn := fun _ => fun
  | [d1, d2] => { results := [.lit (.bool false)], args := [d1, d2] }
  | _ => none }
def FnExactCollapseBlocksWrongFalsely : Prop := fnExactCollapseBlocksRow.holds Try.pinned (OpenSpec.ofChange fnExactCollapseBlocksWrong)

/-- 'laws.FnExactIsSimplePattern': WHATEVER THE INPUT: true; the input reads as it did. -/
def fnExactIsSimplePatternSpec : ChangeSpec := { name := "fnExactIsSimplePattern", fn := fun _ => fun
  | [d] => { results := [.lit (.bool true)], args := [d] }
  | _ => none }
def fnExactIsSimplePatternRow : OpenClaim := { program := "ytgdglnpgfngdoaa", sum := "d41780a4620fd54ac82d61188cb6d7bc7c79b80ad3f11d68856002c9fb9a474f", func := "loop.example/g01003/laws.FnExactIsSimplePattern", spec := "fnExactIsSimplePattern", unfollowed := true, recurses := true, apart := false }
def FnExactIsSimplePatternSaid : Prop := fnExactIsSimplePatternRow.holds Try.pinned (OpenSpec.ofChange fnExactIsSimplePatternSpec)

/-- ITS FALSE NEIGHBOUR: 'it returns false'. Refute it at one input. -/
def fnExactIsSimplePatternWrong : ChangeSpec := { name := "fnExactIsSimplePattern", fn := fun _ => fun
  | [d] => { results := [.lit (.bool false)], args := [d] }
  | _ => none }
def FnExactIsSimplePatternWrongFalsely : Prop := fnExactIsSimplePatternRow.holds Try.pinned (OpenSpec.ofChange fnExactIsSimplePatternWrong)

/-- 'laws.FnExactBlockSizes': WHATEVER THE INPUT: true; the input reads as it did. -/
def fnExactBlockSizesSpec : ChangeSpec := { name := "fnExactBlockSizes", fn := fun _ => fun
  | [d] => { results := [.lit (.bool true)], args := [d] }
  | _ => none }
def fnExactBlockSizesRow : OpenClaim := { program := "ytgdglnpgfngdoaa", sum := "d41780a4620fd54ac82d61188cb6d7bc7c79b80ad3f11d68856002c9fb9a474f", func := "loop.example/g01003/laws.FnExactBlockSizes", spec := "fnExactBlockSizes", unfollowed := true, recurses := true, apart := false }
def FnExactBlockSizesSaid : Prop := fnExactBlockSizesRow.holds Try.pinned (OpenSpec.ofChange fnExactBlockSizesSpec)

/-- ITS FALSE NEIGHBOUR: 'it returns false'. Refute it at one input. -/
def fnExactBlockSizesWrong : ChangeSpec := { name := "fnExactBlockSizes", fn := fun _ => fun
  | [d] => { results := [.lit (.bool false)], args := [d] }
  | _ => none }
def FnExactBlockSizesWrongFalsely : Prop := fnExactBlockSizesRow.holds Try.pinned (OpenSpec.ofChange fnExactBlockSizesWrong)

/-- 'laws.FnExactPatternGraph': WHATEVER THE INPUT: true; the input reads as it did. -/
def fnExactPatternGraphSpec : ChangeSpec := { name := "fnExactPatternGraph", fn := fun _ => fun
  | [d] => { results := [.lit (.bool true)], args := [d] }
  | _ => none }
def fnExactPatternGraphRow : OpenClaim := { program := "ytgdglnpgfngdoaa", sum := "d41780a4620fd54ac82d61188cb6d7bc7c79b80ad3f11d68856002c9fb9a474f", func := "loop.example/g01003/laws.FnExactPatternGraph", spec := "fnExactPatternGraph", unfollowed := true, recurses := true, apart := false }
def FnExactPatternGraphSaid : Prop := fnExactPatternGraphRow.holds Try.pinned (OpenSpec.ofChange fnExactPatternGraphSpec)

/-- ITS FALSE NEIGHBOUR: 'it returns false'. Refute it at one input. -/
def fnExactPatternGraphWrong : ChangeSpec := { name := "fnExactPatternGraph", fn := fun _ => fun
  | [d] => { results := [.lit (.bool false)], args := [d] }
  | _ => none }
def FnExactPatternGraphWrongFalsely : Prop := fnExactPatternGraphRow.holds Try.pinned (OpenSpec.ofChange fnExactPatternGraphWrong)

/-- 'laws.FnExactPeriodsBehind': WHATEVER THE INPUT: true; the input reads as it did. -/
def fnExactPeriodsBehindSpec : ChangeSpec := { name := "fnExactPeriodsBehind", fn := fun _ => fun
  | [d1, d2] => { results := [.lit (.bool true)], args := [d1, d2] }
  | _ => none }
def fnExactPeriodsBehindRow : OpenClaim := { program := "ytgdglnpgfngdoaa", sum := "d41780a4620fd54ac82d61188cb6d7bc7c79b80ad3f11d68856002c9fb9a474f", func := "loop.example/g01003/laws.FnExactPeriodsBehind", spec := "fnExactPeriodsBehind", unfollowed := true, recurses := true, apart := false }
def FnExactPeriodsBehindSaid : Prop := fnExactPeriodsBehindRow.holds Try.pinned (OpenSpec.ofChange fnExactPeriodsBehindSpec)

/-- ITS FALSE NEIGHBOUR: 'it returns false'. Refute it at one input. -/
def fnExactPeriodsBehindWrong : ChangeSpec := { name := "fnExactPeriodsBehind", fn := fun _ => fun
  | [d1, d2] => { results := [.lit (.bool false)], args := [d1, d2] }
  | _ => none }
def FnExactPeriodsBehindWrongFalsely : Prop := fnExactPeriodsBehindRow.holds Try.pinned (OpenSpec.ofChange fnExactPeriodsBehindWrong)

/-- 'laws.FnExactLoopCount': WHATEVER THE INPUT: true; the input reads as it did. -/
def fnExactLoopCountSpec : ChangeSpec := { name := "fnExactLoopCount", fn := fun _ => fun
  | [d1, d2] => { results := [.lit (.bool true)], args := [d1, d2] }
  | _ => none }
def fnExactLoopCountRow : OpenClaim := { program := "ytgdglnpgfngdoaa", sum := "d41780a4620fd54ac82d61188cb6d7bc7c79b80ad3f11d68856002c9fb9a474f", func := "loop.example/g01003/laws.FnExactLoopCount", spec := "fnExactLoopCount", unfollowed := true, recurses := true, apart := false }
def FnExactLoopCountSaid : Prop := fnExactLoopCountRow.holds Try.pinned (OpenSpec.ofChange fnExactLoopCountSpec)

/-- ITS FALSE NEIGHBOUR: 'it returns false'. Refute it at one input. -/
def fnExactLoopCountWrong : ChangeSpec := { name := "fnExactLoopCount", fn := fun _ => fun
  | [d1, d2] => { results := [.lit (.bool false)], args := [d1, d2] }
  | _ => none }
def FnExactLoopCountWrongFalsely : Prop := fnExactLoopCountRow.holds Try.pinned (OpenSpec.ofChange fnExactLoopCountWrong)

/-- 'laws.FnExactUniformDensity': WHATEVER THE INPUT: true; the input reads as it did. -/
def fnExactUniformDensitySpec : ChangeSpec := { name := "fnExactUniformDensity", fn := fun _ => fun
  | [d] => { results := [.lit (.bool true)], args := [d] }
  | _ => none }
def fnExactUniformDensityRow : OpenClaim := { program := "ytgdglnpgfngdoaa", sum := "d41780a4620fd54ac82d61188cb6d7bc7c79b80ad3f11d68856002c9fb9a474f", func := "loop.example/g01003/laws.FnExactUniformDensity", spec := "fnExactUniformDensity", unfollowed := true, recurses := true, apart := false }
def FnExactUniformDensitySaid : Prop := fnExactUniformDensityRow.holds Try.pinned (OpenSpec.ofChange fnExactUniformDensitySpec)

/-- ITS FALSE NEIGHBOUR: 'it returns false'. Refute it at one input. -/
def fnExactUniformDensityWrong : ChangeSpec := { name := "fnExactUniformDensity", fn := fun _ => fun
  | [d] => { results := [.lit (.bool false)], args := [d] }
  | _ => none }
def FnExactUniformDensityWrongFalsely : Prop := fnExactUniformDensityRow.holds Try.pinned (OpenSpec.ofChange fnExactUniformDensityWrong)

/-- 'laws.FnExactLoopLengths': WHATEVER THE INPUT: true; the input reads as it did. -/
def fnExactLoopLengthsSpec : ChangeSpec := { name := "fnExactLoopLengths", fn := fun _ => fun
  | [d1, d2] => { results := [.lit (.bool true)], args := [d1, d2] }
  | _ => none }
def fnExactLoopLengthsRow : OpenClaim := { program := "ytgdglnpgfngdoaa", sum := "d41780a4620fd54ac82d61188cb6d7bc7c79b80ad3f11d68856002c9fb9a474f", func := "loop.example/g01003/laws.FnExactLoopLengths", spec := "fnExactLoopLengths", unfollowed := true, recurses := true, apart := false }
def FnExactLoopLengthsSaid : Prop := fnExactLoopLengthsRow.holds Try.pinned (OpenSpec.ofChange fnExactLoopLengthsSpec)

/-- ITS FALSE NEIGHBOUR: 'it returns false'. Refute it at one input. -/
def fnExactLoopLengthsWrong : ChangeSpec := { name := "fnExactLoopLengths", fn := fun _ => fun
  | [d1, d2] => { results := [.lit (.bool false)], args := [d1, d2] }
  | _ => none }
def FnExactLoopLengthsWrongFalsely : Prop := fnExactLoopLengthsRow.holds Try.pinned (OpenSpec.ofChange fnExactLoopLengthsWrong)

/- THE SECOND FORM. 'bulk': how many values and letters a reading holds, each counted each time it is reached (what is shared counts as often as it is met; a slice's spare places count too). A statement '..UptoSaid' is the law's where the arguments, and the package variables that the reading takes, are together of bulk at most 1048576: NARROWER than '..Said'. Prove '..Said' where nothing that the law and all that it calls make is longer than what came in: it says more and counts as full. Else prove '..UptoSaid'. A law counts once. -/
mutual
def uptoBulk {H : Type} : DataW H → Nat
  | .lit (.string bytes) => bytes.length + 1
  | .lit _ => 1
  | .nil => 1
  | .ptr d => uptoBulk d + 1
  | .slice elems spare => uptoBulkAll elems + uptoBulkAll spare + 1
  | .agg parts => uptoBulkAll parts + 1
  | .iface _ d => uptoBulk d + 1
  | .map entries => uptoBulkEntries entries + 1
  | .held _ => 1
def uptoBulkAll {H : Type} : List (DataW H) → Nat
  | [] => 0
  | d :: r => uptoBulk d + uptoBulkAll r
def uptoBulkEntries {H : Type} : List (Lit × DataW H) → Nat
  | [] => 0
  | x :: r => uptoBulkEntry x + uptoBulkEntries r
def uptoBulkEntry {H : Type} : Lit × DataW H → Nat
  | (.string bytes, d) => bytes.length + uptoBulk d + 1
  | (_, d) => uptoBulk d + 1
 end
def uptoSmall : (H : Type) → List (DataW H) → Bool := fun _ ds => decide (uptoBulkAll ds ≤ 1048576)
def OpenSpec.upto (s : _root_.Go.ChangeSpec) : _root_.Go.OpenSpec := { _root_.Go.OpenSpec.ofChange s with cond := some uptoSmall }

/-- 'laws.FnExactReversePattern', WHERE WHAT IT READS IS OF BULK AT MOST 1048576: true; the input reads as it did. -/
def fnExactReversePatternUptoRow : OpenClaim := { program := "ytgdglnpgfngdoaa", sum := "d41780a4620fd54ac82d61188cb6d7bc7c79b80ad3f11d68856002c9fb9a474f", func := "loop.example/g01003/laws.FnExactReversePattern", spec := "fnExactReversePattern", unfollowed := true, recurses := true, apart := false, narrowed := true }
def FnExactReversePatternUptoSaid : Prop := fnExactReversePatternUptoRow.holds Try.pinned (OpenSpec.upto fnExactReversePatternSpec)

/-- 'laws.FnExactDoublePattern', WHERE WHAT IT READS IS OF BULK AT MOST 1048576: true; the input reads as it did. -/
def fnExactDoublePatternUptoRow : OpenClaim := { program := "ytgdglnpgfngdoaa", sum := "d41780a4620fd54ac82d61188cb6d7bc7c79b80ad3f11d68856002c9fb9a474f", func := "loop.example/g01003/laws.FnExactDoublePattern", spec := "fnExactDoublePattern", unfollowed := true, recurses := true, apart := false, narrowed := true }
def FnExactDoublePatternUptoSaid : Prop := fnExactDoublePatternUptoRow.holds Try.pinned (OpenSpec.upto fnExactDoublePatternSpec)

/-- 'laws.FnExactTurnsOf', WHERE WHAT IT READS IS OF BULK AT MOST 1048576: true; the input reads as it did. -/
def fnExactTurnsOfUptoRow : OpenClaim := { program := "ytgdglnpgfngdoaa", sum := "d41780a4620fd54ac82d61188cb6d7bc7c79b80ad3f11d68856002c9fb9a474f", func := "loop.example/g01003/laws.FnExactTurnsOf", spec := "fnExactTurnsOf", unfollowed := true, recurses := true, apart := false, narrowed := true }
def FnExactTurnsOfUptoSaid : Prop := fnExactTurnsOfUptoRow.holds Try.pinned (OpenSpec.upto fnExactTurnsOfSpec)

/-- 'laws.FnExactPatternPower', WHERE WHAT IT READS IS OF BULK AT MOST 1048576: true; the input reads as it did. -/
def fnExactPatternPowerUptoRow : OpenClaim := { program := "ytgdglnpgfngdoaa", sum := "d41780a4620fd54ac82d61188cb6d7bc7c79b80ad3f11d68856002c9fb9a474f", func := "loop.example/g01003/laws.FnExactPatternPower", spec := "fnExactPatternPower", unfollowed := true, recurses := true, apart := false, narrowed := true }
def FnExactPatternPowerUptoSaid : Prop := fnExactPatternPowerUptoRow.holds Try.pinned (OpenSpec.upto fnExactPatternPowerSpec)

/-- 'laws.FnExactCollapseBlocks', WHERE WHAT IT READS IS OF BULK AT MOST 1048576: true; the input reads as it did. -/
def fnExactCollapseBlocksUptoRow : OpenClaim := { program := "ytgdglnpgfngdoaa", sum := "d41780a4620fd54ac82d61188cb6d7bc7c79b80ad3f11d68856002c9fb9a474f", func := "loop.example/g01003/laws.FnExactCollapseBlocks", spec := "fnExactCollapseBlocks", unfollowed := true, recurses := true, apart := false, narrowed := true }
def FnExactCollapseBlocksUptoSaid : Prop := fnExactCollapseBlocksUptoRow.holds Try.pinned (OpenSpec.upto fnExactCollapseBlocksSpec)

/-- 'laws.FnExactIsSimplePattern', WHERE WHAT IT READS IS OF BULK AT MOST 1048576: true; the input reads as it did. -/
def fnExactIsSimplePatternUptoRow : OpenClaim := { program := "ytgdglnpgfngdoaa", sum := "d41780a4620fd54ac82d61188cb6d7bc7c79b80ad3f11d68856002c9fb9a474f", func := "loop.example/g01003/laws.FnExactIsSimplePattern", spec := "fnExactIsSimplePattern", unfollowed := true, recurses := true, apart := false, narrowed := true }
def FnExactIsSimplePatternUptoSaid : Prop := fnExactIsSimplePatternUptoRow.holds Try.pinned (OpenSpec.upto fnExactIsSimplePatternSpec)

/-- 'laws.FnExactBlockSizes', WHERE WHAT IT READS IS OF BULK AT MOST 1048576: true; the input reads as it did. -/
def fnExactBlockSizesUptoRow : OpenClaim := { program := "ytgdglnpgfngdoaa", sum := "d41780a4620fd54ac82d61188cb6d7bc7c79b80ad3f11d68856002c9fb9a474f", func := "loop.example/g01003/laws.FnExactBlockSizes", spec := "fnExactBlockSizes", unfollowed := true, recurses := true, apart := false, narrowed := true }
def FnExactBlockSizesUptoSaid : Prop := fnExactBlockSizesUptoRow.holds Try.pinned (OpenSpec.upto fnExactBlockSizesSpec)

/-- 'laws.FnExactPatternGraph', WHERE WHAT IT READS IS OF BULK AT MOST 1048576: true; the input reads as it did. -/
def fnExactPatternGraphUptoRow : OpenClaim := { program := "ytgdglnpgfngdoaa", sum := "d41780a4620fd54ac82d61188cb6d7bc7c79b80ad3f11d68856002c9fb9a474f", func := "loop.example/g01003/laws.FnExactPatternGraph", spec := "fnExactPatternGraph", unfollowed := true, recurses := true, apart := false, narrowed := true }
def FnExactPatternGraphUptoSaid : Prop := fnExactPatternGraphUptoRow.holds Try.pinned (OpenSpec.upto fnExactPatternGraphSpec)

/-- 'laws.FnExactPeriodsBehind', WHERE WHAT IT READS IS OF BULK AT MOST 1048576: true; the input reads as it did. -/
def fnExactPeriodsBehindUptoRow : OpenClaim := { program := "ytgdglnpgfngdoaa", sum := "d41780a4620fd54ac82d61188cb6d7bc7c79b80ad3f11d68856002c9fb9a474f", func := "loop.example/g01003/laws.FnExactPeriodsBehind", spec := "fnExactPeriodsBehind", unfollowed := true, recurses := true, apart := false, narrowed := true }
def FnExactPeriodsBehindUptoSaid : Prop := fnExactPeriodsBehindUptoRow.holds Try.pinned (OpenSpec.upto fnExactPeriodsBehindSpec)

/-- 'laws.FnExactLoopCount', WHERE WHAT IT READS IS OF BULK AT MOST 1048576: true; the input reads as it did. -/
def fnExactLoopCountUptoRow : OpenClaim := { program := "ytgdglnpgfngdoaa", sum := "d41780a4620fd54ac82d61188cb6d7bc7c79b80ad3f11d68856002c9fb9a474f", func := "loop.example/g01003/laws.FnExactLoopCount", spec := "fnExactLoopCount", unfollowed := true, recurses := true, apart := false, narrowed := true }
def FnExactLoopCountUptoSaid : Prop := fnExactLoopCountUptoRow.holds Try.pinned (OpenSpec.upto fnExactLoopCountSpec)

/-- 'laws.FnExactUniformDensity', WHERE WHAT IT READS IS OF BULK AT MOST 1048576: true; the input reads as it did. -/
def fnExactUniformDensityUptoRow : OpenClaim := { program := "ytgdglnpgfngdoaa", sum := "d41780a4620fd54ac82d61188cb6d7bc7c79b80ad3f11d68856002c9fb9a474f", func := "loop.example/g01003/laws.FnExactUniformDensity", spec := "fnExactUniformDensity", unfollowed := true, recurses := true, apart := false, narrowed := true }
def FnExactUniformDensityUptoSaid : Prop := fnExactUniformDensityUptoRow.holds Try.pinned (OpenSpec.upto fnExactUniformDensitySpec)

/-- 'laws.FnExactLoopLengths', WHERE WHAT IT READS IS OF BULK AT MOST 1048576: true; the input reads as it did. -/
def fnExactLoopLengthsUptoRow : OpenClaim := { program := "ytgdglnpgfngdoaa", sum := "d41780a4620fd54ac82d61188cb6d7bc7c79b80ad3f11d68856002c9fb9a474f", func := "loop.example/g01003/laws.FnExactLoopLengths", spec := "fnExactLoopLengths", unfollowed := true, recurses := true, apart := false, narrowed := true }
def FnExactLoopLengthsUptoSaid : Prop := fnExactLoopLengthsUptoRow.holds Try.pinned (OpenSpec.upto fnExactLoopLengthsSpec)

end Rows
end Go.Proofs.Ytgdglnpgfngdoaa

/-
  No cell of these rows narrows 'for every input' (looked for: loops, veiled, ifaces, maps, wideKeys, modest, calm, conditions, laid).
  DERIVED. THE GIVEN ROWS OF THIS SEAT. 6 by the template 'for every input the law returns true; each argument reads behind the call as it read before'; 0 by the template 'total and deterministic' (their statements: YtojgbmlljnocfaaTotals.lean).
  GIVEN WITH THE SEED: the statements are not yours to turn. If you find one false, say at which input.
  Laid BY PROGRAM, IN A SANDBOX (cutbox-rows.mjs): the forced cells as the released guide's own fill.sh prints them over the translation 03e9e1a0fe74c389… (all of the seat's roots in one cut). By AI agents, Wed Nov 11 2026. No macro, syntax, notation, axiom, sorry.
-/
import Derived.Test.YtojgbmlljnocfaaChecked
import GoSem.Claim
import GoSem.ClaimJoined
import GoSem.ClaimMapViews
import Derived.JoinedTies
import Derived.KernelRfl
namespace Go.Proofs.Ytojgbmlljnocfaa
/- THE CELL 'sum', in the pinned program and in every row, IS THE sha256 OF THE DUMP (.gsa) THAT YtojgbmlljnocfaaProg.lean LOADS. Nothing in Lean hashes anything: it is a label: what it is worth is what the hold of that sum in a sandbox is worth. -/
noncomputable def Try.pinned : Pinned := { name := "ytojgbmlljnocfaa", sum := "03e9e1a0fe74c389d2c977a491874bdbe8628164a9be32cc97212fcc63170f2d", checked := Try.checked }
namespace Rows
def none {H : Type} : Left H := { results := [], args := [] }

/-- 'laws.FnExactPatternOfCycle': WHATEVER THE INPUT: true; the input reads as it did. -/
def fnExactPatternOfCycleSpec : ChangeSpec := { name := "fnExactPatternOfCycle", fn := fun _ => fun
  | [d] => { results := [.lit (.bool true)], args := [d] }
  | _ => none }
def fnExactPatternOfCycleRow : OpenClaim := { program := "ytojgbmlljnocfaa", sum := "03e9e1a0fe74c389d2c977a491874bdbe8628164a9be32cc97212fcc63170f2d", func := "loop.example/g01003/laws.FnExactPatternOfCycle", spec := "fnExactPatternOfCycle", unfollowed := true, recurses := true, apart := false }
def FnExactPatternOfCycleSaid : Prop := fnExactPatternOfCycleRow.holds Try.pinned (OpenSpec.ofChange fnExactPatternOfCycleSpec)

/-- ITS FALSE NEIGHBOUR: 'it returns false'. Refute it at one input. -/
def fnExactPatternOfCycleWrong : ChangeSpec := { name := "fnExactPatternOfCycle", fn := fun _ => fun
  | [d] => { results := [.lit (.bool false)], args := [d] }
  | _ => none }
def FnExactPatternOfCycleWrongFalsely : Prop := fnExactPatternOfCycleRow.holds Try.pinned (OpenSpec.ofChange fnExactPatternOfCycleWrong)

/-- 'laws.FnExactPatternOfValues': WHATEVER THE INPUT: true; the input reads as it did. -/
def fnExactPatternOfValuesSpec : ChangeSpec := { name := "fnExactPatternOfValues", fn := fun _ => fun
  | [d] => { results := [.lit (.bool true)], args := [d] }
  | _ => none }
def fnExactPatternOfValuesRow : OpenClaim := { program := "ytojgbmlljnocfaa", sum := "03e9e1a0fe74c389d2c977a491874bdbe8628164a9be32cc97212fcc63170f2d", func := "loop.example/g01003/laws.FnExactPatternOfValues", spec := "fnExactPatternOfValues", unfollowed := true, recurses := true, apart := false }
def FnExactPatternOfValuesSaid : Prop := fnExactPatternOfValuesRow.holds Try.pinned (OpenSpec.ofChange fnExactPatternOfValuesSpec)

/-- ITS FALSE NEIGHBOUR: 'it returns false'. Refute it at one input. -/
def fnExactPatternOfValuesWrong : ChangeSpec := { name := "fnExactPatternOfValues", fn := fun _ => fun
  | [d] => { results := [.lit (.bool false)], args := [d] }
  | _ => none }
def FnExactPatternOfValuesWrongFalsely : Prop := fnExactPatternOfValuesRow.holds Try.pinned (OpenSpec.ofChange fnExactPatternOfValuesWrong)

/-- 'laws.FnExactAllPatterns': WHATEVER THE INPUT: true; the input reads as it did. -/
def fnExactAllPatternsSpec : ChangeSpec := { name := "fnExactAllPatterns", fn := fun _ => fun
  | [d] => { results := [.lit (.bool true)], args := [d] }
  | _ => none }
def fnExactAllPatternsRow : OpenClaim := { program := "ytojgbmlljnocfaa", sum := "03e9e1a0fe74c389d2c977a491874bdbe8628164a9be32cc97212fcc63170f2d", func := "loop.example/g01003/laws.FnExactAllPatterns", spec := "fnExactAllPatterns", unfollowed := true, recurses := true, apart := false }
def FnExactAllPatternsSaid : Prop := fnExactAllPatternsRow.holds Try.pinned (OpenSpec.ofChange fnExactAllPatternsSpec)

/-- ITS FALSE NEIGHBOUR: 'it returns false'. Refute it at one input. -/
def fnExactAllPatternsWrong : ChangeSpec := { name := "fnExactAllPatterns", fn := fun _ => fun
  | [d] => { results := [.lit (.bool false)], args := [d] }
  | _ => none }
def FnExactAllPatternsWrongFalsely : Prop := fnExactAllPatternsRow.holds Try.pinned (OpenSpec.ofChange fnExactAllPatternsWrong)

/-- 'laws.FnExactFewestLoops': WHATEVER THE INPUT: true; the input reads as it did. -/
def fnExactFewestLoopsSpec : ChangeSpec := { name := "fnExactFewestLoops", fn := fun _ => fun
  | [d1, d2] => { results := [.lit (.bool true)], args := [d1, d2] }
  | _ => none }
def fnExactFewestLoopsRow : OpenClaim := { program := "ytojgbmlljnocfaa", sum := "03e9e1a0fe74c389d2c977a491874bdbe8628164a9be32cc97212fcc63170f2d", func := "loop.example/g01003/laws.FnExactFewestLoops", spec := "fnExactFewestLoops", unfollowed := true, recurses := true, apart := false }
def FnExactFewestLoopsSaid : Prop := fnExactFewestLoopsRow.holds Try.pinned (OpenSpec.ofChange fnExactFewestLoopsSpec)

/-- ITS FALSE NEIGHBOUR: 'it returns false'. Refute it at one input. -/
def fnExactFewestLoopsWrong : ChangeSpec := { name := "fnExactFewestLoops", fn := fun _ => fun
  | [d1, d2] => { results := [.lit (.bool false)], args := [d1, d2] }
  | _ => none }
def FnExactFewestLoopsWrongFalsely : Prop := fnExactFewestLoopsRow.holds Try.pinned (OpenSpec.ofChange fnExactFewestLoopsWrong)

/-- 'laws.FnBlocks': WHATEVER THE INPUT: true; the input reads as it did. -/
def fnBlocksSpec : ChangeSpec := { name := "fnBlocks", fn := fun _ => fun
  | [d1, d2] => { results := [.lit (.bool true)], args := [d1, d2] }
  | _ => none }
def fnBlocksRow : OpenClaim := { program := "ytojgbmlljnocfaa", sum := "03e9e1a0fe74c389d2c977a491874bdbe8628164a9be32cc97212fcc63170f2d", func := "loop.example/g01003/laws.FnBlocks", spec := "fnBlocks", unfollowed := true, recurses := true, apart := false }
def FnBlocksSaid : Prop := fnBlocksRow.holds Try.pinned (OpenSpec.ofChange fnBlocksSpec)

/-- ITS FALSE NEIGHBOUR: 'it returns false'. Refute it at one input. -/
def fnBlocksWrong : ChangeSpec := { name := "fnBlocks", fn := fun _ => fun
  | [d1, d2] => { results := [.lit (.bool false)], args := [d1, d2] }
  | _ => none }
def FnBlocksWrongFalsely : Prop := fnBlocksRow.holds Try.pinned (OpenSpec.ofChange fnBlocksWrong)

/-- 'laws.FnPatternKinds': WHATEVER THE INPUT: true; the input reads as it did. -/
def fnPatternKindsSpec : ChangeSpec := { name := "fnPatternKinds", fn := fun _ => fun
  | [d1, d2] => { results := [.lit (.bool true)], args := [d1, d2] }
  | _ => none }
def fnPatternKindsRow : OpenClaim := { program := "ytojgbmlljnocfaa", sum := "03e9e1a0fe74c389d2c977a491874bdbe8628164a9be32cc97212fcc63170f2d", func := "loop.example/g01003/laws.FnPatternKinds", spec := "fnPatternKinds", unfollowed := true, recurses := true, apart := false }
def FnPatternKindsSaid : Prop := fnPatternKindsRow.holds Try.pinned (OpenSpec.ofChange fnPatternKindsSpec)

/-- ITS FALSE NEIGHBOUR: 'it returns false'. Refute it at one input. -/
def fnPatternKindsWrong : ChangeSpec := { name := "fnPatternKinds", fn := fun _ => fun
  | [d1, d2] => { results := [.lit (.bool false)], args := [d1, d2] }
  | _ => none }
def FnPatternKindsWrongFalsely : Prop := fnPatternKindsRow.holds Try.pinned (OpenSpec.ofChange fnPatternKindsWrong)

/- THE SECOND FORM. 'bulk': how many values and letters a reading holds, each counted each time it is reached (what is shared counts as often as it is met; a slice's spare places count too). A statement '..UptoSaid' is the law's where the arguments, and the package variables that the reading takes, are together of bulk at most 1048576: NARROWER than '..Said'. Prove '..Said' where nothing that the law and all that it calls make is longer than what came in: it says more and counts as full. Else prove '..UptoSaid'. A law counts once. -/
mutual
def uptoBulk {H : Type} : DataW H → Nat
  | .lit (.string bytes) => bytes.length + 1
  | .lit _ => 1
  | .nil => 1
  | .ptr d => uptoBulk d + 1
  | .slice elems spare => uptoBulkAll elems + uptoBulkAll spare + 1
  | .agg parts => uptoBulkAll parts + 1
  | .iface _ d => uptoBulk d + 1
  | .map entries => uptoBulkEntries entries + 1
  | .held _ => 1
def uptoBulkAll {H : Type} : List (DataW H) → Nat
  | [] => 0
  | d :: r => uptoBulk d + uptoBulkAll r
def uptoBulkEntries {H : Type} : List (Lit × DataW H) → Nat
  | [] => 0
  | x :: r => uptoBulkEntry x + uptoBulkEntries r
def uptoBulkEntry {H : Type} : Lit × DataW H → Nat
  | (.string bytes, d) => bytes.length + uptoBulk d + 1
  | (_, d) => uptoBulk d + 1
 end
def uptoSmall : (H : Type) → List (DataW H) → Bool := fun _ ds => decide (uptoBulkAll ds ≤ 1048576)
def OpenSpec.upto (s : _root_.Go.ChangeSpec) : _root_.Go.OpenSpec := { _root_.Go.OpenSpec.ofChange s with cond := some uptoSmall }

/-- 'laws.FnExactPatternOfCycle', WHERE WHAT IT READS IS OF BULK AT MOST 1048576: true; the input reads as it did. -/
def fnExactPatternOfCycleUptoRow : OpenClaim := { program := "ytojgbmlljnocfaa", sum := "03e9e1a0fe74c389d2c977a491874bdbe8628164a9be32cc97212fcc63170f2d", func := "loop.example/g01003/laws.FnExactPatternOfCycle", spec := "fnExactPatternOfCycle", unfollowed := true, recurses := true, apart := false, narrowed := true }
def FnExactPatternOfCycleUptoSaid : Prop := fnExactPatternOfCycleUptoRow.holds Try.pinned (OpenSpec.upto fnExactPatternOfCycleSpec)

/-- 'laws.FnExactPatternOfValues', WHERE WHAT IT READS IS OF BULK AT MOST 1048576: true; the input reads as it did. -/
def fnExactPatternOfValuesUptoRow : OpenClaim := { program := "ytojgbmlljnocfaa", sum := "03e9e1a0fe74c389d2c977a491874bdbe8628164a9be32cc97212fcc63170f2d", func := "loop.example/g01003/laws.FnExactPatternOfValues", spec := "fnExactPatternOfValues", unfollowed := true, recurses := true, apart := false, narrowed := true }
def FnExactPatternOfValuesUptoSaid : Prop := fnExactPatternOfValuesUptoRow.holds Try.pinned (OpenSpec.upto fnExactPatternOfValuesSpec)

/-- 'laws.FnExactAllPatterns', WHERE WHAT IT READS IS OF BULK AT MOST 1048576: true; the input reads as it did. -/
def fnExactAllPatternsUptoRow : OpenClaim := { program := "ytojgbmlljnocfaa", sum := "03e9e1a0fe74c389d2c977a491874bdbe8628164a9be32cc97212fcc63170f2d", func := "loop.example/g01003/laws.FnExactAllPatterns", spec := "fnExactAllPatterns", unfollowed := true, recurses := true, apart := false, narrowed := true }
def FnExactAllPatternsUptoSaid : Prop := fnExactAllPatternsUptoRow.holds Try.pinned (OpenSpec.upto fnExactAllPatternsSpec)

/-- 'laws.FnExactFewestLoops', WHERE WHAT IT READS IS OF BULK AT MOST 1048576: true; the input reads as it did. -/
def fnExactFewestLoopsUptoRow : OpenClaim := { program := "ytojgbmlljnocfaa", sum := "03e9e1a0fe74c389d2c977a491874bdbe8628164a9be32cc97212fcc63170f2d", func := "loop.example/g01003/laws.FnExactFewestLoops", spec := "fnExactFewestLoops", unfollowed := true, recurses := true, apart := false, narrowed := true }
def FnExactFewestLoopsUptoSaid : Prop := fnExactFewestLoopsUptoRow.holds Try.pinned (OpenSpec.upto fnExactFewestLoopsSpec)

/-- 'laws.FnBlocks', WHERE WHAT IT READS IS OF BULK AT MOST 1048576: true; the input reads as it did. -/
def fnBlocksUptoRow : OpenClaim := { program := "ytojgbmlljnocfaa", sum := "03e9e1a0fe74c389d2c977a491874bdbe8628164a9be32cc97212fcc63170f2d", func := "loop.example/g01003/laws.FnBlocks", spec := "fnBlocks", unfollowed := true, recurses := true, apart := false, narrowed := true }
def FnBlocksUptoSaid : Prop := fnBlocksUptoRow.holds Try.pinned (OpenSpec.upto fnBlocksSpec)

/-- 'laws.FnPatternKinds', WHERE WHAT IT READS IS OF BULK AT MOST 1048576: true; the input reads as it did. -/
def fnPatternKindsUptoRow : OpenClaim := { program := "ytojgbmlljnocfaa", sum := "03e9e1a0fe74c389d2c977a491874bdbe8628164a9be32cc97212fcc63170f2d", func := "loop.example/g01003/laws.FnPatternKinds", spec := "fnPatternKinds", unfollowed := true, recurses := true, apart := false, narrowed := true }
def FnPatternKindsUptoSaid : Prop := fnPatternKindsUptoRow.holds Try.pinned (OpenSpec.upto fnPatternKindsSpec)

end Rows
end Go.Proofs.Ytojgbmlljnocfaa

/-
  No cell of these rows narrows 'for every input' (looked for: loops, veiled, ifaces, maps, wideKeys, modest, calm, conditions, laid).
  DERIVED. THE GIVEN ROWS OF THIS SEAT. 12 by the template 'for every input the law returns true; each argument reads behind the call as it read before'; 0 by the template 'total and deterministic' (their statements: YtgejkhbehoabdaaTotals.lean).
  GIVEN WITH THE SEED: the statements are not yours to turn. If you find one false, say at which input.
  Laid BY PROGRAM, IN A SANDBOX (cutbox-rows.mjs): the forced cells as the released guide's own fill.sh prints them over the translation f1932de1ff1e08a2… (all of the seat's roots in one cut). By AI agents, Wed Nov 11 2026. No macro, syntax, notation, axiom, sorry.
-/
import Derived.Test.YtgejkhbehoabdaaChecked
import GoSem.Claim
import GoSem.ClaimJoined
import GoSem.ClaimMapViews
import Derived.JoinedTies
import Derived.KernelRfl
namespace Go.Proofs.Ytgejkhbehoabdaa
/- THE CELL 'sum', in the pinned program and in every row, IS THE sha256 OF THE DUMP (.gsa) THAT YtgejkhbehoabdaaProg.lean LOADS. Nothing in Lean hashes anything: it is a label: what it is worth is what the hold of that sum in a sandbox is worth. -/
noncomputable def Try.pinned : Pinned := { name := "ytgejkhbehoabdaa", sum := "f1932de1ff1e08a233c1cf4b5d641689f5375ae55ba28c8e4dbda4dd681f9712", checked := Try.checked }
namespace Rows
def none {H : Type} : Left H := { results := [], args := [] }

/-- 'laws.FnExactUniformDensity': WHATEVER THE INPUT: true; the input reads as it did. -/
def fnExactUniformDensitySpec : ChangeSpec := { name := "fnExactUniformDensity", fn := fun _ => fun
  | [d] => { results := [.lit (.bool true)], args := [d] }
  | _ => none }
def fnExactUniformDensityRow : OpenClaim := { program := "ytgejkhbehoabdaa", sum := "f1932de1ff1e08a233c1cf4b5d641689f5375ae55ba28c8e4dbda4dd681f9712", func := "loop.example/g01003/laws.FnExactUniformDensity", spec := "fnExactUniformDensity", unfollowed := true, recurses := true, apart := false }
def FnExactUniformDensitySaid : Prop := fnExactUniformDensityRow.holds Try.pinned (OpenSpec.ofChange fnExactUniformDensitySpec)

/-- ITS FALSE NEIGHBOUR: 'it returns false'. Refute it at one input. -/
def fnExactUniformDensityWrong : ChangeSpec := { name := "fnExactUniformDensity", fn := fun _ => fun
  | [d] => { results := [.lit (.bool false)], args := [d] }
  | _ => none }
def FnExactUniformDensityWrongFalsely : Prop := fnExactUniformDensityRow.holds Try.pinned (OpenSpec.ofChange fnExactUniformDensityWrong)

/-- 'laws.FnExactPatternMap': WHATEVER THE INPUT: true; the input reads as it did. -/
def fnExactPatternMapSpec : ChangeSpec := { name := "fnExactPatternMap", fn := fun _ => fun
  | [d] => { results := [.lit (.bool true)], args := [d] }
  | _ => none }
def fnExactPatternMapRow : OpenClaim := { program := "ytgejkhbehoabdaa", sum := "f1932de1ff1e08a233c1cf4b5d641689f5375ae55ba28c8e4dbda4dd681f9712", func := "loop.example/g01003/laws.FnExactPatternMap", spec := "fnExactPatternMap", unfollowed := true, recurses := true, apart := false }
def FnExactPatternMapSaid : Prop := fnExactPatternMapRow.holds Try.pinned (OpenSpec.ofChange fnExactPatternMapSpec)

/-- ITS FALSE NEIGHBOUR: 'it returns false'. Refute it at one input. -/
def fnExactPatternMapWrong : ChangeSpec := { name := "fnExactPatternMap", fn := fun _ => fun
  | [d] => { results := [.lit (.bool false)], args := [d] }
  | _ => none }
def FnExactPatternMapWrongFalsely : Prop := fnExactPatternMapRow.holds Try.pinned (OpenSpec.ofChange fnExactPatternMapWrong)

/-- 'laws.FnExactPerturbMap': WHATEVER THE INPUT: true; the input reads as it did. -/
def fnExactPerturbMapSpec : ChangeSpec := { name := "fnExactPerturbMap", fn := fun _ => fun
  | [d1, d2, d3] => { results := [.lit (.bool true)], args := [d1, d2, d3] }
  | _ => none }
def fnExactPerturbMapRow : OpenClaim := { program := "ytgejkhbehoabdaa", sum := "f1932de1ff1e08a233c1cf4b5d641689f5375ae55ba28c8e4dbda4dd681f9712", func := "loop.example/g01003/laws.FnExactPerturbMap", spec := "fnExactPerturbMap", unfollowed := true, recurses := true, apart := false }
def FnExactPerturbMapSaid : Prop := fnExactPerturbMapRow.holds Try.pinned (OpenSpec.ofChange fnExactPerturbMapSpec)

/-- ITS FALSE NEIGHBOUR: 'it returns false'. Refute it at one input. -/
def fnExactPerturbMapWrong : ChangeSpec := { name := "fnExactPerturbMap", fn := fun _ => fun
  | [d1, d2, d3] => { results := [.lit (.bool false)], args := [d1, d2, d3] }
  | _ => none }
def FnExactPerturbMapWrongFalsely : Prop := fnExactPerturbMapRow.holds Try.pinned (OpenSpec.ofChange fnExactPerturbMapWrong)

/-- 'laws.FnExactExpansionOf': WHATEVER THE INPUT: true; the input reads as it did. -/
def fnExactExpansionOfSpec : ChangeSpec := { name := "fnExactExpansionOf", fn := fun _ => fun
  | [d] => { results := [.lit (.bool true)], args := [d] }
  | _ => none }
def fnExactExpansionOfRow : OpenClaim := { program := "ytgejkhbehoabdaa", sum := "f1932de1ff1e08a233c1cf4b5d641689f5375ae55ba28c8e4dbda4dd681f9712", func := "loop.example/g01003/laws.FnExactExpansionOf", spec := "fnExactExpansionOf", unfollowed := true, recurses := true, apart := false }
def FnExactExpansionOfSaid : Prop := fnExactExpansionOfRow.holds Try.pinned (OpenSpec.ofChange fnExactExpansionOfSpec)

/-- ITS FALSE NEIGHBOUR: 'it returns false'. Refute it at one input. -/
def fnExactExpansionOfWrong : ChangeSpec := { name := "fnExactExpansionOf", fn := fun _ => fun
  | [d] => { results := [.lit (.bool false)], args := [d] }
  | _ => none }
def FnExactExpansionOfWrongFalsely : Prop := fnExactExpansionOfRow.holds Try.pinned (OpenSpec.ofChange fnExactExpansionOfWrong)

/-- 'laws.FnExactDensityDistance': WHATEVER THE INPUT: true; the input reads as it did. -/
def fnExactDensityDistanceSpec : ChangeSpec := { name := "fnExactDensityDistance", fn := fun _ => fun
  | [d1, d2, d3] => { results := [.lit (.bool true)], args := [d1, d2, d3] }
  | _ => none }
def fnExactDensityDistanceRow : OpenClaim := { program := "ytgejkhbehoabdaa", sum := "f1932de1ff1e08a233c1cf4b5d641689f5375ae55ba28c8e4dbda4dd681f9712", func := "loop.example/g01003/laws.FnExactDensityDistance", spec := "fnExactDensityDistance", unfollowed := true, recurses := true, apart := false }
def FnExactDensityDistanceSaid : Prop := fnExactDensityDistanceRow.holds Try.pinned (OpenSpec.ofChange fnExactDensityDistanceSpec)

/-- ITS FALSE NEIGHBOUR: 'it returns false'. Refute it at one input. -/
def fnExactDensityDistanceWrong : ChangeSpec := { name := "fnExactDensityDistance", fn := fun _ => fun
  | [d1, d2, d3] => { results := [.lit (.bool false)], args := [d1, d2, d3] }
  | _ => none }
def FnExactDensityDistanceWrongFalsely : Prop := fnExactDensityDistanceRow.holds Try.pinned (OpenSpec.ofChange fnExactDensityDistanceWrong)

/-- 'laws.FnExactFrequenciesOf': WHATEVER THE INPUT: true; the input reads as it did. -/
def fnExactFrequenciesOfSpec : ChangeSpec := { name := "fnExactFrequenciesOf", fn := fun _ => fun
  | [d1, d2] => { results := [.lit (.bool true)], args := [d1, d2] }
  | _ => none }
def fnExactFrequenciesOfRow : OpenClaim := { program := "ytgejkhbehoabdaa", sum := "f1932de1ff1e08a233c1cf4b5d641689f5375ae55ba28c8e4dbda4dd681f9712", func := "loop.example/g01003/laws.FnExactFrequenciesOf", spec := "fnExactFrequenciesOf", unfollowed := true, recurses := true, apart := false }
def FnExactFrequenciesOfSaid : Prop := fnExactFrequenciesOfRow.holds Try.pinned (OpenSpec.ofChange fnExactFrequenciesOfSpec)

/-- ITS FALSE NEIGHBOUR: 'it returns false'. Refute it at one input. -/
def fnExactFrequenciesOfWrong : ChangeSpec := { name := "fnExactFrequenciesOf", fn := fun _ => fun
  | [d1, d2] => { results := [.lit (.bool false)], args := [d1, d2] }
  | _ => none }
def FnExactFrequenciesOfWrongFalsely : Prop := fnExactFrequenciesOfRow.holds Try.pinned (OpenSpec.ofChange fnExactFrequenciesOfWrong)

/-- 'laws.FnExactMeanOf': WHATEVER THE INPUT: true; the input reads as it did. -/
def fnExactMeanOfSpec : ChangeSpec := { name := "fnExactMeanOf", fn := fun _ => fun
  | [d1, d2] => { results := [.lit (.bool true)], args := [d1, d2] }
  | _ => none }
def fnExactMeanOfRow : OpenClaim := { program := "ytgejkhbehoabdaa", sum := "f1932de1ff1e08a233c1cf4b5d641689f5375ae55ba28c8e4dbda4dd681f9712", func := "loop.example/g01003/laws.FnExactMeanOf", spec := "fnExactMeanOf", unfollowed := true, recurses := true, apart := false }
def FnExactMeanOfSaid : Prop := fnExactMeanOfRow.holds Try.pinned (OpenSpec.ofChange fnExactMeanOfSpec)

/-- ITS FALSE NEIGHBOUR: 'it returns false'. Refute it at one input. -/
def fnExactMeanOfWrong : ChangeSpec := { name := "fnExactMeanOf", fn := fun _ => fun
  | [d1, d2] => { results := [.lit (.bool false)], args := [d1, d2] }
  | _ => none }
def FnExactMeanOfWrongFalsely : Prop := fnExactMeanOfRow.holds Try.pinned (OpenSpec.ofChange fnExactMeanOfWrong)

/-- 'laws.FnExactMassOf': WHATEVER THE INPUT: true; the input reads as it did. -/
def fnExactMassOfSpec : ChangeSpec := { name := "fnExactMassOf", fn := fun _ => fun
  | [d1, d2, d3] => { results := [.lit (.bool true)], args := [d1, d2, d3] }
  | _ => none }
def fnExactMassOfRow : OpenClaim := { program := "ytgejkhbehoabdaa", sum := "f1932de1ff1e08a233c1cf4b5d641689f5375ae55ba28c8e4dbda4dd681f9712", func := "loop.example/g01003/laws.FnExactMassOf", spec := "fnExactMassOf", unfollowed := true, recurses := true, apart := false }
def FnExactMassOfSaid : Prop := fnExactMassOfRow.holds Try.pinned (OpenSpec.ofChange fnExactMassOfSpec)

/-- ITS FALSE NEIGHBOUR: 'it returns false'. Refute it at one input. -/
def fnExactMassOfWrong : ChangeSpec := { name := "fnExactMassOf", fn := fun _ => fun
  | [d1, d2, d3] => { results := [.lit (.bool false)], args := [d1, d2, d3] }
  | _ => none }
def FnExactMassOfWrongFalsely : Prop := fnExactMassOfRow.holds Try.pinned (OpenSpec.ofChange fnExactMassOfWrong)

/-- 'laws.FnExactRoundedOrbit': WHATEVER THE INPUT: true; the input reads as it did. -/
def fnExactRoundedOrbitSpec : ChangeSpec := { name := "fnExactRoundedOrbit", fn := fun _ => fun
  | [d1, d2, d3, d4] => { results := [.lit (.bool true)], args := [d1, d2, d3, d4] }
  | _ => none }
def fnExactRoundedOrbitRow : OpenClaim := { program := "ytgejkhbehoabdaa", sum := "f1932de1ff1e08a233c1cf4b5d641689f5375ae55ba28c8e4dbda4dd681f9712", func := "loop.example/g01003/laws.FnExactRoundedOrbit", spec := "fnExactRoundedOrbit", unfollowed := true, recurses := true, apart := false }
def FnExactRoundedOrbitSaid : Prop := fnExactRoundedOrbitRow.holds Try.pinned (OpenSpec.ofChange fnExactRoundedOrbitSpec)

/-- ITS FALSE NEIGHBOUR: 'it returns false'. Refute it at one input. -/
def fnExactRoundedOrbitWrong : ChangeSpec := { name := "fnExactRoundedOrbit", fn := fun _ => fun
  | [d1, d2, d3, d4] => { results := [.lit (.bool false)], args := [d1, d2, d3, d4] }
  | _ => none }
def FnExactRoundedOrbitWrongFalsely : Prop := fnExactRoundedOrbitRow.holds Try.pinned (OpenSpec.ofChange fnExactRoundedOrbitWrong)

/-- 'laws.FnExactIsShadowed': WHATEVER THE INPUT: true; the input reads as it did. -/
def fnExactIsShadowedSpec : ChangeSpec := { name := "fnExactIsShadowed", fn := fun _ => fun
  | [d1, d2, d3, d4] => { results := [.lit (.bool true)], args := [d1, d2, d3, d4] }
  | _ => none }
def fnExactIsShadowedRow : OpenClaim := { program := "ytgejkhbehoabdaa", sum := "f1932de1ff1e08a233c1cf4b5d641689f5375ae55ba28c8e4dbda4dd681f9712", func := "loop.example/g01003/laws.FnExactIsShadowed", spec := "fnExactIsShadowed", unfollowed := true, recurses := true, apart := false }
def FnExactIsShadowedSaid : Prop := fnExactIsShadowedRow.holds Try.pinned (OpenSpec.ofChange fnExactIsShadowedSpec)

/-- ITS FALSE NEIGHBOUR: 'it returns false'. Refute it at one input. -/
def fnExactIsShadowedWrong : ChangeSpec := { name := "fnExactIsShadowed", fn := fun _ => fun
  | [d1, d2, d3, d4] => { results := [.lit (.bool false)], args := [d1, d2, d3, d4] }
  | _ => none }
def FnExactIsShadowedWrongFalsely : Prop := fnExactIsShadowedRow.holds Try.pinned (OpenSpec.ofChange fnExactIsShadowedWrong)

/-- 'laws.FnExactExtendPseudo': WHATEVER THE INPUT: true; the input reads as it did. -/
def fnExactExtendPseudoSpec : ChangeSpec := { name := "fnExactExtendPseudo", fn := fun _ => fun
  | [d1, d2] => { results := [.lit (.bool true)], args := [d1, d2] }
  | _ => none }
def fnExactExtendPseudoRow : OpenClaim := { program := "ytgejkhbehoabdaa", sum := "f1932de1ff1e08a233c1cf4b5d641689f5375ae55ba28c8e4dbda4dd681f9712", func := "loop.example/g01003/laws.FnExactExtendPseudo", spec := "fnExactExtendPseudo", unfollowed := true, recurses := true, apart := false }
def FnExactExtendPseudoSaid : Prop := fnExactExtendPseudoRow.holds Try.pinned (OpenSpec.ofChange fnExactExtendPseudoSpec)

/-- ITS FALSE NEIGHBOUR: 'it returns false'. Refute it at one input. -/
def fnExactExtendPseudoWrong : ChangeSpec := { name := "fnExactExtendPseudo", fn := fun _ => fun
  | [d1, d2] => { results := [.lit (.bool false)], args := [d1, d2] }
  | _ => none }
def FnExactExtendPseudoWrongFalsely : Prop := fnExactExtendPseudoRow.holds Try.pinned (OpenSpec.ofChange fnExactExtendPseudoWrong)

/-- 'laws.FnExactJumpsOf': WHATEVER THE INPUT: true; the input reads as it did. -/
def fnExactJumpsOfSpec : ChangeSpec := { name := "fnExactJumpsOf", fn := fun _ => fun
  | [d1, d2] => { results := [.lit (.bool true)], args := [d1, d2] }
  | _ => none }
def fnExactJumpsOfRow : OpenClaim := { program := "ytgejkhbehoabdaa", sum := "f1932de1ff1e08a233c1cf4b5d641689f5375ae55ba28c8e4dbda4dd681f9712", func := "loop.example/g01003/laws.FnExactJumpsOf", spec := "fnExactJumpsOf", unfollowed := true, recurses := true, apart := false }
def FnExactJumpsOfSaid : Prop := fnExactJumpsOfRow.holds Try.pinned (OpenSpec.ofChange fnExactJumpsOfSpec)

/-- ITS FALSE NEIGHBOUR: 'it returns false'. Refute it at one input. -/
def fnExactJumpsOfWrong : ChangeSpec := { name := "fnExactJumpsOf", fn := fun _ => fun
  | [d1, d2] => { results := [.lit (.bool false)], args := [d1, d2] }
  | _ => none }
def FnExactJumpsOfWrongFalsely : Prop := fnExactJumpsOfRow.holds Try.pinned (OpenSpec.ofChange fnExactJumpsOfWrong)

/- THE SECOND FORM. 'bulk': how many values and letters a reading holds, each counted each time it is reached (what is shared counts as often as it is met; a slice's spare places count too). A statement '..UptoSaid' is the law's where the arguments, and the package variables that the reading takes, are together of bulk at most 1048576: NARROWER than '..Said'. Prove '..Said' where nothing that the law and all that it calls make is longer than what came in: it says more and counts as full. Else prove '..UptoSaid'. A law counts once. -/
mutual
def uptoBulk {H : Type} : DataW H → Nat
  | .lit (.string bytes) => bytes.length + 1
  | .lit _ => 1
  | .nil => 1
  | .ptr d => uptoBulk d + 1
  | .slice elems spare => uptoBulkAll elems + uptoBulkAll spare + 1
  | .agg parts => uptoBulkAll parts + 1
  | .iface _ d => uptoBulk d + 1
  | .map entries => uptoBulkEntries entries + 1
  | .held _ => 1
def uptoBulkAll {H : Type} : List (DataW H) → Nat
  | [] => 0
  | d :: r => uptoBulk d + uptoBulkAll r
def uptoBulkEntries {H : Type} : List (Lit × DataW H) → Nat
  | [] => 0
  | x :: r => uptoBulkEntry x + uptoBulkEntries r
def uptoBulkEntry {H : Type} : Lit × DataW H → Nat
  | (.string bytes, d) => bytes.length + uptoBulk d + 1
  | (_, d) => uptoBulk d + 1
 end
def uptoSmall : (H : Type) → List (DataW H) → Bool := fun _ ds => decide (uptoBulkAll ds ≤ 1048576)
def OpenSpec.upto (s : _root_.Go.ChangeSpec) : _root_.Go.OpenSpec := { _root_.Go.OpenSpec.ofChange s with cond := some uptoSmall }

/-- 'laws.FnExactUniformDensity', WHERE WHAT IT READS IS OF BULK AT MOST 1048576: true; the input reads as it did. -/
def fnExactUniformDensityUptoRow : OpenClaim := { program := "ytgejkhbehoabdaa", sum := "f1932de1ff1e08a233c1cf4b5d641689f5375ae55ba28c8e4dbda4dd681f9712", func := "loop.example/g01003/laws.FnExactUniformDensity", spec := "fnExactUniformDensity", unfollowed := true, recurses := true, apart := false, narrowed := true }
def FnExactUniformDensityUptoSaid : Prop := fnExactUniformDensityUptoRow.holds Try.pinned (OpenSpec.upto fnExactUniformDensitySpec)

/-- 'laws.FnExactPatternMap', WHERE WHAT IT READS IS OF BULK AT MOST 1048576: true; the input reads as it did. -/
def fnExactPatternMapUptoRow : OpenClaim := { program := "ytgejkhbehoabdaa", sum := "f1932de1ff1e08a233c1cf4b5d641689f5375ae55ba28c8e4dbda4dd681f9712", func := "loop.example/g01003/laws.FnExactPatternMap", spec := "fnExactPatternMap", unfollowed := true, recurses := true, apart := false, narrowed := true }
def FnExactPatternMapUptoSaid : Prop := fnExactPatternMapUptoRow.holds Try.pinned (OpenSpec.upto fnExactPatternMapSpec)

/-- 'laws.FnExactPerturbMap', WHERE WHAT IT READS IS OF BULK AT MOST 1048576: true; the input reads as it did. -/
def fnExactPerturbMapUptoRow : OpenClaim := { program := "ytgejkhbehoabdaa", sum := "f1932de1ff1e08a233c1cf4b5d641689f5375ae55ba28c8e4dbda4dd681f9712", func := "loop.example/g01003/laws.FnExactPerturbMap", spec := "fnExactPerturbMap", unfollowed := true, recurses := true, apart := false, narrowed := true }
def FnExactPerturbMapUptoSaid : Prop := fnExactPerturbMapUptoRow.holds Try.pinned (OpenSpec.upto fnExactPerturbMapSpec)

/-- 'laws.FnExactExpansionOf', WHERE WHAT IT READS IS OF BULK AT MOST 1048576: true; the input reads as it did. -/
def fnExactExpansionOfUptoRow : OpenClaim := { program := "ytgejkhbehoabdaa", sum := "f1932de1ff1e08a233c1cf4b5d641689f5375ae55ba28c8e4dbda4dd681f9712", func := "loop.example/g01003/laws.FnExactExpansionOf", spec := "fnExactExpansionOf", unfollowed := true, recurses := true, apart := false, narrowed := true }
def FnExactExpansionOfUptoSaid : Prop := fnExactExpansionOfUptoRow.holds Try.pinned (OpenSpec.upto fnExactExpansionOfSpec)

/-- 'laws.FnExactDensityDistance', WHERE WHAT IT READS IS OF BULK AT MOST 1048576: true; the input reads as it did. -/
def fnExactDensityDistanceUptoRow : OpenClaim := { program := "ytgejkhbehoabdaa", sum := "f1932de1ff1e08a233c1cf4b5d641689f5375ae55ba28c8e4dbda4dd681f9712", func := "loop.example/g01003/laws.FnExactDensityDistance", spec := "fnExactDensityDistance", unfollowed := true, recurses := true, apart := false, narrowed := true }
def FnExactDensityDistanceUptoSaid : Prop := fnExactDensityDistanceUptoRow.holds Try.pinned (OpenSpec.upto fnExactDensityDistanceSpec)

/-- 'laws.FnExactFrequenciesOf', WHERE WHAT IT READS IS OF BULK AT MOST 1048576: true; the input reads as it did. -/
def fnExactFrequenciesOfUptoRow : OpenClaim := { program := "ytgejkhbehoabdaa", sum := "f1932de1ff1e08a233c1cf4b5d641689f5375ae55ba28c8e4dbda4dd681f9712", func := "loop.example/g01003/laws.FnExactFrequenciesOf", spec := "fnExactFrequenciesOf", unfollowed := true, recurses := true, apart := false, narrowed := true }
def FnExactFrequenciesOfUptoSaid : Prop := fnExactFrequenciesOfUptoRow.holds Try.pinned (OpenSpec.upto fnExactFrequenciesOfSpec)

/-- 'laws.FnExactMeanOf', WHERE WHAT IT READS IS OF BULK AT MOST 1048576: true; the input reads as it did. -/
def fnExactMeanOfUptoRow : OpenClaim := { program := "ytgejkhbehoabdaa", sum := "f1932de1ff1e08a233c1cf4b5d641689f5375ae55ba28c8e4dbda4dd681f9712", func := "loop.example/g01003/laws.FnExactMeanOf", spec := "fnExactMeanOf", unfollowed := true, recurses := true, apart := false, narrowed := true }
def FnExactMeanOfUptoSaid : Prop := fnExactMeanOfUptoRow.holds Try.pinned (OpenSpec.upto fnExactMeanOfSpec)

/-- 'laws.FnExactMassOf', WHERE WHAT IT READS IS OF BULK AT MOST 1048576: true; the input reads as it did. -/
def fnExactMassOfUptoRow : OpenClaim := { program := "ytgejkhbehoabdaa", sum := "f1932de1ff1e08a233c1cf4b5d641689f5375ae55ba28c8e4dbda4dd681f9712", func := "loop.example/g01003/laws.FnExactMassOf", spec := "fnExactMassOf", unfollowed := true, recurses := true, apart := false, narrowed := true }
def FnExactMassOfUptoSaid : Prop := fnExactMassOfUptoRow.holds Try.pinned (OpenSpec.upto fnExactMassOfSpec)

/-- 'laws.FnExactRoundedOrbit', WHERE WHAT IT READS IS OF BULK AT MOST 1048576: true; the input reads as it did. -/
def fnExactRoundedOrbitUptoRow : OpenClaim := { program := "ytgejkhbehoabdaa", sum := "f1932de1ff1e08a233c1cf4b5d641689f5375ae55ba28c8e4dbda4dd681f9712", func := "loop.example/g01003/laws.FnExactRoundedOrbit", spec := "fnExactRoundedOrbit", unfollowed := true, recurses := true, apart := false, narrowed := true }
def FnExactRoundedOrbitUptoSaid : Prop := fnExactRoundedOrbitUptoRow.holds Try.pinned (OpenSpec.upto fnExactRoundedOrbitSpec)

/-- 'laws.FnExactIsShadowed', WHERE WHAT IT READS IS OF BULK AT MOST 1048576: true; the input reads as it did. -/
def fnExactIsShadowedUptoRow : OpenClaim := { program := "ytgejkhbehoabdaa", sum := "f1932de1ff1e08a233c1cf4b5d641689f5375ae55ba28c8e4dbda4dd681f9712", func := "loop.example/g01003/laws.FnExactIsShadowed", spec := "fnExactIsShadowed", unfollowed := true, recurses := true, apart := false, narrowed := true }
def FnExactIsShadowedUptoSaid : Prop := fnExactIsShadowedUptoRow.holds Try.pinned (OpenSpec.upto fnExactIsShadowedSpec)

/-- 'laws.FnExactExtendPseudo', WHERE WHAT IT READS IS OF BULK AT MOST 1048576: true; the input reads as it did. -/
def fnExactExtendPseudoUptoRow : OpenClaim := { program := "ytgejkhbehoabdaa", sum := "f1932de1ff1e08a233c1cf4b5d641689f5375ae55ba28c8e4dbda4dd681f9712", func := "loop.example/g01003/laws.FnExactExtendPseudo", spec := "fnExactExtendPseudo", unfollowed := true, recurses := true, apart := false, narrowed := true }
def FnExactExtendPseudoUptoSaid : Prop := fnExactExtendPseudoUptoRow.holds Try.pinned (OpenSpec.upto fnExactExtendPseudoSpec)

/-- 'laws.FnExactJumpsOf', WHERE WHAT IT READS IS OF BULK AT MOST 1048576: true; the input reads as it did. -/
def fnExactJumpsOfUptoRow : OpenClaim := { program := "ytgejkhbehoabdaa", sum := "f1932de1ff1e08a233c1cf4b5d641689f5375ae55ba28c8e4dbda4dd681f9712", func := "loop.example/g01003/laws.FnExactJumpsOf", spec := "fnExactJumpsOf", unfollowed := true, recurses := true, apart := false, narrowed := true }
def FnExactJumpsOfUptoSaid : Prop := fnExactJumpsOfUptoRow.holds Try.pinned (OpenSpec.upto fnExactJumpsOfSpec)

end Rows
end Go.Proofs.Ytgejkhbehoabdaa

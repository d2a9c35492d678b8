/-
  No cell of these rows narrows 'for every input' (looked for: loops, veiled, ifaces, maps, wideKeys, modest, calm, conditions, laid).
  DERIVED. THE GIVEN ROWS OF THIS SEAT. 5 by the template 'for every input the law returns true; each argument reads behind the call as it read before'; 0 by the template 'total and deterministic' (their statements: YtlggehdfigkliaaTotals.lean).
  GIVEN WITH THE SEED: the statements are not yours to turn. If you find one false, say at which input.
  Laid BY PROGRAM, IN A SANDBOX (cutbox-rows.mjs): the forced cells as the released guide's own fill.sh prints them over the translation 8d7309c39e77c7d0… (all of the seat's roots in one cut). By AI agents, Wed Nov 11 2026. No macro, syntax, notation, axiom, sorry.
-/
import Derived.Test.YtlggehdfigkliaaChecked
import GoSem.Claim
import GoSem.ClaimJoined
import GoSem.ClaimMapViews
import Derived.JoinedTies
import Derived.KernelRfl
namespace Go.Proofs.Ytlggehdfigkliaa
/- THE CELL 'sum', in the pinned program and in every row, IS THE sha256 OF THE DUMP (.gsa) THAT YtlggehdfigkliaaProg.lean LOADS. Nothing in Lean hashes anything: it is a label: what it is worth is what the hold of that sum in a sandbox is worth. -/
noncomputable def Try.pinned : Pinned := { name := "ytlggehdfigkliaa", sum := "8d7309c39e77c7d0caf33f05ca4891399aa3a8e30e6f9d36fe2da710c5af8066", checked := Try.checked }
namespace Rows
def none {H : Type} : Left H := { results := [], args := [] }

/-- 'laws.FnExactWorstJump': WHATEVER THE INPUT: true; the input reads as it did. -/
def fnExactWorstJumpSpec : ChangeSpec := { name := "fnExactWorstJump", fn := fun _ => fun
  | [d1, d2] => { results := [.lit (.bool true)], args := [d1, d2] }
  | _ => none }
def fnExactWorstJumpRow : OpenClaim := { program := "ytlggehdfigkliaa", sum := "8d7309c39e77c7d0caf33f05ca4891399aa3a8e30e6f9d36fe2da710c5af8066", func := "loop.example/g01003/laws.FnExactWorstJump", spec := "fnExactWorstJump", unfollowed := true, recurses := true, apart := false }
def FnExactWorstJumpSaid : Prop := fnExactWorstJumpRow.holds Try.pinned (OpenSpec.ofChange fnExactWorstJumpSpec)

/-- ITS FALSE NEIGHBOUR: 'it returns false'. Refute it at one input. -/
def fnExactWorstJumpWrong : ChangeSpec := { name := "fnExactWorstJump", fn := fun _ => fun
  | [d1, d2] => { results := [.lit (.bool false)], args := [d1, d2] }
  | _ => none }
def FnExactWorstJumpWrongFalsely : Prop := fnExactWorstJumpRow.holds Try.pinned (OpenSpec.ofChange fnExactWorstJumpWrong)

/-- 'laws.FnExactIsPseudoOrbit': WHATEVER THE INPUT: true; the input reads as it did. -/
def fnExactIsPseudoOrbitSpec : ChangeSpec := { name := "fnExactIsPseudoOrbit", fn := fun _ => fun
  | [d1, d2, d3] => { results := [.lit (.bool true)], args := [d1, d2, d3] }
  | _ => none }
def fnExactIsPseudoOrbitRow : OpenClaim := { program := "ytlggehdfigkliaa", sum := "8d7309c39e77c7d0caf33f05ca4891399aa3a8e30e6f9d36fe2da710c5af8066", func := "loop.example/g01003/laws.FnExactIsPseudoOrbit", spec := "fnExactIsPseudoOrbit", unfollowed := true, recurses := true, apart := false }
def FnExactIsPseudoOrbitSaid : Prop := fnExactIsPseudoOrbitRow.holds Try.pinned (OpenSpec.ofChange fnExactIsPseudoOrbitSpec)

/-- ITS FALSE NEIGHBOUR: 'it returns false'. Refute it at one input. -/
def fnExactIsPseudoOrbitWrong : ChangeSpec := { name := "fnExactIsPseudoOrbit", fn := fun _ => fun
  | [d1, d2, d3] => { results := [.lit (.bool false)], args := [d1, d2, d3] }
  | _ => none }
def FnExactIsPseudoOrbitWrongFalsely : Prop := fnExactIsPseudoOrbitRow.holds Try.pinned (OpenSpec.ofChange fnExactIsPseudoOrbitWrong)

/-- 'laws.FnExactShadowBound': WHATEVER THE INPUT: true; the input reads as it did. -/
def fnExactShadowBoundSpec : ChangeSpec := { name := "fnExactShadowBound", fn := fun _ => fun
  | [d1, d2] => { results := [.lit (.bool true)], args := [d1, d2] }
  | _ => none }
def fnExactShadowBoundRow : OpenClaim := { program := "ytlggehdfigkliaa", sum := "8d7309c39e77c7d0caf33f05ca4891399aa3a8e30e6f9d36fe2da710c5af8066", func := "loop.example/g01003/laws.FnExactShadowBound", spec := "fnExactShadowBound", unfollowed := true, recurses := true, apart := false }
def FnExactShadowBoundSaid : Prop := fnExactShadowBoundRow.holds Try.pinned (OpenSpec.ofChange fnExactShadowBoundSpec)

/-- ITS FALSE NEIGHBOUR: 'it returns false'. Refute it at one input. -/
def fnExactShadowBoundWrong : ChangeSpec := { name := "fnExactShadowBound", fn := fun _ => fun
  | [d1, d2] => { results := [.lit (.bool false)], args := [d1, d2] }
  | _ => none }
def FnExactShadowBoundWrongFalsely : Prop := fnExactShadowBoundRow.holds Try.pinned (OpenSpec.ofChange fnExactShadowBoundWrong)

/-- 'laws.FnExactSameCycleOrder': WHATEVER THE INPUT: true; the input reads as it did. -/
def fnExactSameCycleOrderSpec : ChangeSpec := { name := "fnExactSameCycleOrder", fn := fun _ => fun
  | [d1, d2, d3, d4, d5] => { results := [.lit (.bool true)], args := [d1, d2, d3, d4, d5] }
  | _ => none }
def fnExactSameCycleOrderRow : OpenClaim := { program := "ytlggehdfigkliaa", sum := "8d7309c39e77c7d0caf33f05ca4891399aa3a8e30e6f9d36fe2da710c5af8066", func := "loop.example/g01003/laws.FnExactSameCycleOrder", spec := "fnExactSameCycleOrder", unfollowed := true, recurses := true, apart := false }
def FnExactSameCycleOrderSaid : Prop := fnExactSameCycleOrderRow.holds Try.pinned (OpenSpec.ofChange fnExactSameCycleOrderSpec)

/-- ITS FALSE NEIGHBOUR: 'it returns false'. Refute it at one input. -/
def fnExactSameCycleOrderWrong : ChangeSpec := { name := "fnExactSameCycleOrder", fn := fun _ => fun
  | [d1, d2, d3, d4, d5] => { results := [.lit (.bool false)], args := [d1, d2, d3, d4, d5] }
  | _ => none }
def FnExactSameCycleOrderWrongFalsely : Prop := fnExactSameCycleOrderRow.holds Try.pinned (OpenSpec.ofChange fnExactSameCycleOrderWrong)

/-- 'laws.FnExactCyclePattern': WHATEVER THE INPUT: true; the input reads as it did. -/
def fnExactCyclePatternSpec : ChangeSpec := { name := "fnExactCyclePattern", fn := fun _ => fun
  | [d1, d2, d3] => { results := [.lit (.bool true)], args := [d1, d2, d3] }
  | _ => none }
def fnExactCyclePatternRow : OpenClaim := { program := "ytlggehdfigkliaa", sum := "8d7309c39e77c7d0caf33f05ca4891399aa3a8e30e6f9d36fe2da710c5af8066", func := "loop.example/g01003/laws.FnExactCyclePattern", spec := "fnExactCyclePattern", unfollowed := true, recurses := true, apart := false }
def FnExactCyclePatternSaid : Prop := fnExactCyclePatternRow.holds Try.pinned (OpenSpec.ofChange fnExactCyclePatternSpec)

/-- ITS FALSE NEIGHBOUR: 'it returns false'. Refute it at one input. -/
def fnExactCyclePatternWrong : ChangeSpec := { name := "fnExactCyclePattern", fn := fun _ => fun
  | [d1, d2, d3] => { results := [.lit (.bool false)], args := [d1, d2, d3] }
  | _ => none }
def FnExactCyclePatternWrongFalsely : Prop := fnExactCyclePatternRow.holds Try.pinned (OpenSpec.ofChange fnExactCyclePatternWrong)

/- THE SECOND FORM. 'bulk': how many values and letters a reading holds, each counted each time it is reached (what is shared counts as often as it is met; a slice's spare places count too). A statement '..UptoSaid' is the law's where the arguments, and the package variables that the reading takes, are together of bulk at most 1048576: NARROWER than '..Said'. Prove '..Said' where nothing that the law and all that it calls make is longer than what came in: it says more and counts as full. Else prove '..UptoSaid'. A law counts once. -/
mutual
def uptoBulk {H : Type} : DataW H → Nat
  | .lit (.string bytes) => bytes.length + 1
  | .lit _ => 1
  | .nil => 1
  | .ptr d => uptoBulk d + 1
  | .slice elems spare => uptoBulkAll elems + uptoBulkAll spare + 1
  | .agg parts => uptoBulkAll parts + 1
  | .iface _ d => uptoBulk d + 1
  | .map entries => uptoBulkEntries entries + 1
  | .held _ => 1
def uptoBulkAll {H : Type} : List (DataW H) → Nat
  | [] => 0
  | d :: r => uptoBulk d + uptoBulkAll r
def uptoBulkEntries {H : Type} : List (Lit × DataW H) → Nat
  | [] => 0
  | x :: r => uptoBulkEntry x + uptoBulkEntries r
def uptoBulkEntry {H : Type} : Lit × DataW H → Nat
  | (.string bytes, d) => bytes.length + uptoBulk d + 1
  | (_, d) => uptoBulk d + 1
 end
def uptoSmall : (H : Type) → List (DataW H) → Bool := fun _ ds => decide (uptoBulkAll ds ≤ 1048576)
def OpenSpec.upto (s : _root_.Go.ChangeSpec) : _root_.Go.OpenSpec := { _root_.Go.OpenSpec.ofChange s with cond := some uptoSmall }

/-- 'laws.FnExactWorstJump', WHERE WHAT IT READS IS OF BULK AT MOST 1048576: true; the input reads as it did. -/
def fnExactWorstJumpUptoRow : OpenClaim := { program := "ytlggehdfigkliaa", sum := "8d7309c39e77c7d0caf33f05ca4891399aa3a8e30e6f9d36fe2da710c5af8066", func := "loop.example/g01003/laws.FnExactWorstJump", spec := "fnExactWorstJump", unfollowed := true, recurses := true, apart := false, narrowed := true }
def FnExactWorstJumpUptoSaid : Prop := fnExactWorstJumpUptoRow.holds Try.pinned (OpenSpec.upto fnExactWorstJumpSpec)

/-- 'laws.FnExactIsPseudoOrbit', WHERE WHAT IT READS IS OF BULK AT MOST 1048576: true; the input reads as it did. -/
def fnExactIsPseudoOrbitUptoRow : OpenClaim := { program := "ytlggehdfigkliaa", sum := "8d7309c39e77c7d0caf33f05ca4891399aa3a8e30e6f9d36fe2da710c5af8066", func := "loop.example/g01003/laws.FnExactIsPseudoOrbit", spec := "fnExactIsPseudoOrbit", unfollowed := true, recurses := true, apart := false, narrowed := true }
def FnExactIsPseudoOrbitUptoSaid : Prop := fnExactIsPseudoOrbitUptoRow.holds Try.pinned (OpenSpec.upto fnExactIsPseudoOrbitSpec)

/-- 'laws.FnExactShadowBound', WHERE WHAT IT READS IS OF BULK AT MOST 1048576: true; the input reads as it did. -/
def fnExactShadowBoundUptoRow : OpenClaim := { program := "ytlggehdfigkliaa", sum := "8d7309c39e77c7d0caf33f05ca4891399aa3a8e30e6f9d36fe2da710c5af8066", func := "loop.example/g01003/laws.FnExactShadowBound", spec := "fnExactShadowBound", unfollowed := true, recurses := true, apart := false, narrowed := true }
def FnExactShadowBoundUptoSaid : Prop := fnExactShadowBoundUptoRow.holds Try.pinned (OpenSpec.upto fnExactShadowBoundSpec)

/-- 'laws.FnExactSameCycleOrder', WHERE WHAT IT READS IS OF BULK AT MOST 1048576: true; the input reads as it did. -/
def fnExactSameCycleOrderUptoRow : OpenClaim := { program := "ytlggehdfigkliaa", sum := "8d7309c39e77c7d0caf33f05ca4891399aa3a8e30e6f9d36fe2da710c5af8066", func := "loop.example/g01003/laws.FnExactSameCycleOrder", spec := "fnExactSameCycleOrder", unfollowed := true, recurses := true, apart := false, narrowed := true }
def FnExactSameCycleOrderUptoSaid : Prop := fnExactSameCycleOrderUptoRow.holds Try.pinned (OpenSpec.upto fnExactSameCycleOrderSpec)

/-- 'laws.FnExactCyclePattern', WHERE WHAT IT READS IS OF BULK AT MOST 1048576: true; the input reads as it did. -/
def fnExactCyclePatternUptoRow : OpenClaim := { program := "ytlggehdfigkliaa", sum := "8d7309c39e77c7d0caf33f05ca4891399aa3a8e30e6f9d36fe2da710c5af8066", func := "loop.example/g01003/laws.FnExactCyclePattern", spec := "fnExactCyclePattern", unfollowed := true, recurses := true, apart := false, narrowed := true }
def FnExactCyclePatternUptoSaid : Prop := fnExactCyclePatternUptoRow.holds Try.pinned (OpenSpec.upto fnExactCyclePatternSpec)

end Rows
end Go.Proofs.Ytlggehdfigkliaa

/- The reference's and the program's tests of patterns with at least two elements. -/
import Derived.Test.YtgdglnpgfngdoaaQx3
import Derived.Test.YtgdglnpgfngdoaaQx4
import Derived.Test.YtgdglnpgfngdoaaQx6
import Derived.Test.YtgdglnpgfngdoaaQx8
import Derived.Test.YtgdglnpgfngdoaaQx9
import Derived.Test.YtgdglnpgfngdoaaQx11
import Derived.Test.YtgdglnpgfngdoaaPuLoops
set_option linter.unusedVariables false
set_option linter.unusedSimpArgs false
namespace Go.Proofs.Ytgdglnpgfngdoaa.Pu
open Go.RowKit Go.Proofs.Ytgdglnpgfngdoaa.Q Go.Proofs.YtgdglnpgfngdoaaW.PrintWords Go.Proofs.YtgdglnpgfngdoaaW.PrintLast Go.Proofs.YtgdglnpgfngdoaaW.PrintMore

def Force (l : List Int) : Prop := IsPat l ∧ 2 ≤ l.length
instance (l : List Int) : Decidable (Force l) := by unfold Force; exact inferInstance
theorem isForcing (l : List Int) (hl : l.length ≤ 1048576) (k : Nat) (hk : 2000000 ≤ k) : impl_isForcing.f k l = some (decide (Force l)) := by
  unfold impl_isForcing.f
  rw [isPattern l (by omega) k (by omega), Option.bind_some]
  by_cases h : IsPat l
  · rw [decide_eq_true h, if_pos rfl]
    by_cases h2 : 2 ≤ l.length
    · rw [decide_eq_true (show (l.length : Int) ≥ 2 by omega), decide_eq_true (show Force l from ⟨h, h2⟩)]
    · rw [decide_eq_false (show ¬ (l.length : Int) ≥ 2 by omega), decide_eq_false (fun hf : Force l => h2 hf.2)]
  · rw [decide_eq_false h, if_neg (by decide), decide_eq_false (fun hf : Force l => h hf.1)]
theorem foPattern (l : List Int) (hl : l.length ≤ 1048576) (k : Nat) (hk : 2000000 ≤ k) : spec_foPattern.f k l = some (decide (Force l)) := by
  unfold spec_foPattern.f
  rw [ptGood l (by omega) k (by omega), Option.bind_some]
  by_cases h : IsPat l
  · rw [decide_eq_true h, if_pos rfl]
    by_cases h2 : 2 ≤ l.length
    · rw [decide_eq_true (show (l.length : Int) > 1 by omega), decide_eq_true (show Force l from ⟨h, h2⟩)]
    · rw [decide_eq_false (show ¬ (l.length : Int) > 1 by omega), decide_eq_false (fun hf : Force l => h2 hf.2)]
  · rw [decide_eq_false h, if_neg (by decide), decide_eq_false (fun hf : Force l => h hf.1)]
/-- The number of loops of m steps that are no repetitions. -/
def loopsOf (l : List Int) (m : Nat) : Int := Lp (walks (graphOf l) (l.length - 1)) m
theorem loopCountOf (l : List Int) (h : Force l) (m : Nat) (h1 : 1 ≤ m) (h12 : m ≤ 12) (k : Nat) (hk : 1000000 ≤ k) : impl_loopCount.f k (graphOf l) (m : Int) = some (loopsOf l m) :=
  loopCount (graphOf l) (l.length - 1) (graph_gr l h.2 h.1.2.1) m h1 h12 k (by omega)
theorem foLoopsOf (l : List Int) (h : Force l) (m : Nat) (h1 : 1 ≤ m) (h12 : m ≤ 12) (k : Nat) (hk : 1000000 ≤ k) : spec_foLoops.f k (graphOf l) (m : Int) = some (loopsOf l m) :=
  foLoops (graphOf l) (l.length - 1) (graph_gr l h.2 h.1.2.1) 12 m h12 h1 h12 k (by omega)
theorem graphI (l : List Int) (h : Force l) (k : Nat) (hk : 1000 ≤ k) : impl_patternGraph.f k l = some (graphOf l) := patternGraph l h.1.2.2.1 h.2 h.1.2.1 k hk
theorem graphS (l : List Int) (h : Force l) (k : Nat) (hk : 1000 ≤ k) : spec_foGraph.f k l = some (graphOf l) := foGraph l h.1.2.2.1 h.2 h.1.2.1 k hk
theorem foLength (a : Int) : spec_foLength.f a = some (decide (1 ≤ a ∧ a ≤ 12)) := by
  unfold spec_foLength.f
  rw [l1In_b, Option.bind_some]
end Go.Proofs.Ytgdglnpgfngdoaa.Pu

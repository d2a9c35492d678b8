/- The statement FnExactLoopCount: for every input the law returns true, and its argument reads afterwards as it read before. -/
import Derived.Test.YtgdglnpgfngdoaaQx6
import Derived.Test.YtgdglnpgfngdoaaQx12
import Derived.Test.YtgdglnpgfngdoaaPuForce
set_option linter.unusedVariables false
set_option linter.unusedSimpArgs false
namespace Go.Proofs.Ytgdglnpgfngdoaa.Pure
open Go.RowKit Go.Proofs.Ytgdglnpgfngdoaa.Q Go.Proofs.Ytgdglnpgfngdoaa.Pu Go.Proofs.YtgdglnpgfngdoaaW.PrintWords Go.Proofs.YtgdglnpgfngdoaaW.PrintLast Go.Proofs.YtgdglnpgfngdoaaW.PrintMore

def lcOf (l : List Int) (a : Int) : Int × Bool := if Force l ∧ 1 ≤ a ∧ a ≤ 12 then (loopsOf l a.toNat, true) else (0, false)
theorem impl_eq (l : List Int) (a : Int) (hl : l.length ≤ 1048576) (k : Nat) (hk : 2000002 ≤ k) : impl_LoopCount.f k l a = some (lcOf l a) := by
  obtain ⟨q, rfl⟩ : ∃ q, k = q + 1 := ⟨k - 1, by omega⟩
  unfold impl_LoopCount.f lcOf
  rw [isForcing l hl _ (by omega), Option.bind_some]
  by_cases h : Force l
  · rw [decide_eq_true h, if_pos rfl, within_b, Option.bind_some]
    by_cases ha : 1 ≤ a ∧ a ≤ 12
    · rw [decide_eq_true ha, impl_LoopCount.j0, if_neg (by decide), graphI l h q (by omega), Option.bind_some]
      have := loopCountOf l h a.toNat (by omega) (by omega) q (by omega)
      rw [Int.toNat_of_nonneg (by omega)] at this
      rw [this, Option.bind_some, if_pos ⟨h, ha⟩]
    · rw [decide_eq_false ha, impl_LoopCount.j0, if_pos (by decide), if_neg (fun hf => ha hf.2)]
  · rw [decide_eq_false h, if_neg (by decide), impl_LoopCount.j0, if_pos rfl, if_neg (fun hf => h hf.1)]
theorem spec_eq (l : List Int) (a : Int) (hl : l.length ≤ 1048576) (k : Nat) (hk : 2000002 ≤ k) : spec_LoopCount.f k l a = some (lcOf l a) := by
  obtain ⟨q, rfl⟩ : ∃ q, k = q + 1 := ⟨k - 1, by omega⟩
  unfold spec_LoopCount.f lcOf
  rw [foPattern l hl _ (by omega), Option.bind_some]
  by_cases h : Force l
  · rw [decide_eq_true h, if_pos rfl, foLength, Option.bind_some]
    by_cases ha : 1 ≤ a ∧ a ≤ 12
    · rw [decide_eq_true ha, spec_LoopCount.j0, if_neg (by decide), graphS l h q (by omega), Option.bind_some]
      have := foLoopsOf l h a.toNat (by omega) (by omega) q (by omega)
      rw [Int.toNat_of_nonneg (by omega)] at this
      rw [this, Option.bind_some, if_pos ⟨h, ha⟩]
    · rw [decide_eq_false ha, spec_LoopCount.j0, if_pos (by decide), if_neg (fun hf => ha hf.2)]
  · rw [decide_eq_false h, if_neg (by decide), spec_LoopCount.j0, if_pos rfl, if_neg (fun hf => h hf.1)]
theorem FnExactLoopCount : laws_FnExactLoopCount.Pure := by
  intro l0 a _ _ _ _
  refine ⟨2000010, ?_⟩
  unfold laws_FnExactLoopCount.f
  by_cases hb : (l0.length : Int) > 1048576
  · rw [if_pos hb]
  · have hl : l0.length ≤ 1048576 := by omega
    rcases hv : lcOf l0 a with ⟨v, b⟩
    rw [if_neg hb, toIntS l0 (by omega) _ (by omega), Option.bind_some, spec_eq l0 a hl _ (by omega), hv, Option.bind_some, Option.bind_some, impl_eq l0 a hl _ (by omega), hv, Option.bind_some, if_pos rfl, bne_self_eq_false, laws_FnExactLoopCount.j0, if_neg (by decide), toIntS l0 (by omega) _ (by omega), Option.bind_some, eqIntS_self l0 (by omega) _ (by omega), Option.bind_some, if_pos rfl]
end Go.Proofs.Ytgdglnpgfngdoaa.Pure

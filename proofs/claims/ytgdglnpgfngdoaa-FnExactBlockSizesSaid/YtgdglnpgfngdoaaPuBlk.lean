/- Blocks of a pattern: the program's and the reference's tests of them come to one Boolean. -/
import Derived.Test.YtgdglnpgfngdoaaQx19
import Derived.Test.YtgdglnpgfngdoaaQx21
import Derived.Test.YtgdglnpgfngdoaaPuPat
set_option linter.unusedVariables false
set_option linter.unusedSimpArgs false
namespace Go.Proofs.Ytgdglnpgfngdoaa.Pu
open Go.RowKit Go.Proofs.Ytgdglnpgfngdoaa.Q Go.Proofs.YtgdglnpgfngdoaaW.PrintWords Go.Proofs.YtgdglnpgfngdoaaW.PrintLast Go.Proofs.YtgdglnpgfngdoaaW.PrintMore

theorem sizes (s : Int) (h : 2 ≤ s ∧ s ≤ 8) : s = 2 ∨ s = 3 ∨ s = 4 ∨ s = 5 ∨ s = 6 ∨ s = 7 ∨ s = 8 := by omega
theorem quo (x s : Int) (hx : 0 ≤ x ∧ x ≤ 100) (hs : 2 ≤ s ∧ s ≤ 8) : wrap64 (Int.tdiv x s) = x / s := by
  rw [Int.tdiv_eq_ediv_of_nonneg hx.1]
  refine w64 _ ?_
  rcases sizes s hs with rfl | rfl | rfl | rfl | rfl | rfl | rfl <;> omega
theorem place1 (i : Nat) (s : Int) (hi : i ≤ 9) (hs : 2 ≤ s ∧ s ≤ 8) : wrap64 ((i : Int) - Int.tmod (i : Int) s) = (i : Int) / s * s := by
  rw [Int.tmod_eq_emod_of_nonneg (by omega)]
  have : (i : Int) - (i : Int) % s = (i : Int) / s * s := by rw [Int.emod_def, Int.mul_comm]; omega
  rw [this]
  refine w64 _ ?_
  rcases sizes s hs with rfl | rfl | rfl | rfl | rfl | rfl | rfl <;> omega
theorem place2 (i : Nat) (s : Int) (hi : i ≤ 9) (hs : 2 ≤ s ∧ s ≤ 8) : wrap64 (wrap64 (Int.tdiv (i : Int) s) * s) = (i : Int) / s * s := by
  rw [quo _ _ (by omega) hs]
  refine w64 _ ?_
  rcases sizes s hs with rfl | rfl | rfl | rfl | rfl | rfl | rfl <;> omega
theorem place_in (i : Nat) (s : Int) (hs : 2 ≤ s ∧ s ≤ 8) : 0 ≤ (i : Int) / s * s ∧ (i : Int) / s * s ≤ i := by
  rcases sizes s hs with rfl | rfl | rfl | rfl | rfl | rfl | rfl <;> omega
/-- Element i lies in the block that the first of its block's places goes to. -/
def Fits (l : List Int) (s : Int) (i : Nat) : Prop := rd l (i : Int) / s = rd l ((i : Int) / s * s) / s
instance (l : List Int) (s : Int) (i : Nat) : Decidable (Fits l s i) := by unfold Fits; infer_instance
def fitsFrom (l : List Int) (s : Int) : Nat → Nat → Bool
  | 0, _ => true
  | d + 1, i => if Fits l s i then fitsFrom l s d (i + 1) else false
theorem blk_impl (l : List Int) (hr : InR l) (hl : l.length ≤ 9) (s : Int) (hs : 2 ≤ s ∧ s ≤ 8) : ∀ (d k i : Nat), i + d = l.length → d < k →
    impl_hasBlocks.l0 k l s l (l.length : Int) (i : Int) = some (fitsFrom l s d i) := by
  intro d
  induction d with
  | zero =>
    intro k i hi hk
    obtain ⟨k, rfl⟩ : ∃ m, k = m + 1 := ⟨k - 1, by omega⟩
    simp only [impl_hasBlocks.l0]
    rw [if_neg (by omega)]
    rfl
  | succ d ih =>
    intro k i hi hk
    obtain ⟨k, rfl⟩ : ∃ m, k = m + 1 := ⟨k - 1, by omega⟩
    simp only [impl_hasBlocks.l0]
    have hp := place_in i s hs
    have h1 := hr.rd (i := (i : Int)) (by omega) (by omega)
    have h2 := hr.rd (i := (i : Int) / s * s) hp.1 (by omega)
    rw [if_pos (by omega), if_pos (by omega), if_pos (by omega), if_neg (by omega), place1 i s (by omega) hs, if_pos hp.1, if_pos (by omega), quo _ _ (by omega) hs, quo _ _ (by omega) hs, w64 _ (by omega)]
    unfold fitsFrom
    by_cases h : Fits l s i
    · rw [if_pos (show rd l (i : Int) / s = rd l ((i : Int) / s * s) / s from h), if_pos h]
      exact ih k (i + 1) (by omega) (by omega)
    · rw [if_neg (show ¬ (rd l (i : Int) / s = rd l ((i : Int) / s * s) / s) from h), if_neg h]
theorem blk_spec (l : List Int) (hr : InR l) (hl : l.length ≤ 9) (s : Int) (hs : 2 ≤ s ∧ s ≤ 8) : ∀ (d k i : Nat), i + d = l.length → d < k →
    spec_ptBlocks.l0 k l s l (l.length : Int) (i : Int) = some (fitsFrom l s d i) := by
  intro d
  induction d with
  | zero =>
    intro k i hi hk
    obtain ⟨k, rfl⟩ : ∃ m, k = m + 1 := ⟨k - 1, by omega⟩
    simp only [spec_ptBlocks.l0]
    rw [if_neg (by omega)]
    rfl
  | succ d ih =>
    intro k i hi hk
    obtain ⟨k, rfl⟩ : ∃ m, k = m + 1 := ⟨k - 1, by omega⟩
    simp only [spec_ptBlocks.l0]
    have hp := place_in i s hs
    have h1 := hr.rd (i := (i : Int)) (by omega) (by omega)
    have h2 := hr.rd (i := (i : Int) / s * s) hp.1 (by omega)
    rw [if_pos (by omega), if_pos (by omega), if_pos (by omega), if_neg (by omega), place2 i s (by omega) hs, if_pos hp.1, if_pos (by omega), quo _ _ (by omega) hs, quo _ _ (by omega) hs, w64 _ (by omega)]
    unfold fitsFrom
    by_cases h : Fits l s i
    · rw [if_pos (show rd l (i : Int) / s = rd l ((i : Int) / s * s) / s from h), if_pos h]
      exact ih k (i + 1) (by omega) (by omega)
    · rw [if_neg (show ¬ (rd l (i : Int) / s = rd l ((i : Int) / s * s) / s) from h), if_neg h]
/-- What both take for blocks of a size. -/
def blocks (l : List Int) (s : Int) : Bool := if 2 ≤ s ∧ s < l.length ∧ (l.length : Int) % s = 0 then fitsFrom l s l.length 0 else false
theorem hasBlocks (l : List Int) (hr : InR l) (hl : l.length ≤ 9) (s : Int) (k : Nat) (hk : 20 ≤ k) : impl_hasBlocks.f k l s = some (blocks l s) := by
  obtain ⟨k, rfl⟩ : ∃ m, k = m + 1 := ⟨k - 1, by omega⟩
  unfold impl_hasBlocks.f blocks
  by_cases h1 : s ≤ 1
  · rw [if_pos h1, if_neg (by omega)]
    simp only [impl_hasBlocks.j0, if_true]
  · rw [if_neg h1]
    by_cases h2 : s ≥ (l.length : Int)
    · rw [if_pos h2, if_neg (by omega)]
      simp only [impl_hasBlocks.j0, if_true]
    · rw [if_neg h2, if_neg (by omega)]
      simp only [impl_hasBlocks.j0]
      by_cases h3 : (l.length : Int) % s = 0
      · rw [if_neg (by simp [h3]), if_pos (by omega)]
        exact blk_impl l hr hl s (by omega) l.length k 0 (by omega) (by omega)
      · rw [if_pos (by simp [h3]), if_neg (by omega)]
theorem ptBlocks (l : List Int) (hr : InR l) (h0 : 1 ≤ l.length) (hl : l.length ≤ 9) (s : Int) (k : Nat) (hk : 20 ≤ k) : spec_ptBlocks.f k l s = some (blocks l s) := by
  obtain ⟨k, rfl⟩ : ∃ m, k = m + 1 := ⟨k - 1, by omega⟩
  unfold spec_ptBlocks.f blocks
  rw [l1In_b, w64 _ (by omega)]
  simp only [Option.bind_some]
  by_cases h1 : 2 ≤ s ∧ s ≤ (l.length : Int) - 1
  · rw [decide_eq_true h1, if_pos rfl, if_neg (by omega)]
    simp only [spec_ptBlocks.j0]
    by_cases h3 : (l.length : Int) % s = 0
    · rw [if_neg (by simp [h3]), if_pos (by omega)]
      exact blk_spec l hr hl s (by omega) l.length k 0 (by omega) (by omega)
    · rw [if_pos (by simp [h3]), if_neg (by omega)]
  · rw [decide_eq_false h1, if_neg (by decide), if_neg (by omega)]
    simp only [spec_ptBlocks.j0, if_true]
end Go.Proofs.Ytgdglnpgfngdoaa.Pu

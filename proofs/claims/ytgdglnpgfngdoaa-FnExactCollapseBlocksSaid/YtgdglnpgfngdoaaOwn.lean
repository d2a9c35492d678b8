/- Own words of this session, of no program: the first index at which a predicate holds. -/
import Derived.Test.YtgdglnpgfngdoaaWMore
set_option linter.unusedVariables false
set_option linter.unusedSimpArgs false
namespace Go.Proofs.YtgdglnpgfngdoaaW.PrintMore
open Go.RowKit Go.Proofs.YtgdglnpgfngdoaaW.PrintWords
theorem tdiv_len (n : Nat) (b : Int) : Int.tdiv (n : Int) b = (n : Int) / b := Int.tdiv_eq_ediv_of_nonneg (Int.natCast_nonneg n)
theorem tmod_len (n : Nat) (b : Int) : Int.tmod (n : Int) b = (n : Int) % b := Int.tmod_eq_emod_of_nonneg (Int.natCast_nonneg n)
/-- The index of the first element that p takes, or -1. -/
def idxOf {α : Type} (p : α → Bool) : List α → Int
  | [] => -1
  | x :: t => if p x = true then 0 else if idxOf p t < 0 then -1 else idxOf p t + 1
theorem idxOf_ge {α : Type} (p : α → Bool) (l : List α) : -1 ≤ idxOf p l := by
  induction l with
  | nil => simp [idxOf]
  | cons x t ih => 
    unfold idxOf
    split
    · omega
    · split <;> omega
theorem idxOf_any {α : Type} (p : α → Bool) (l : List α) : decide (0 ≤ idxOf p l) = l.any p := by
  induction l with
  | nil => simp [idxOf]
  | cons x t ih =>
    have := idxOf_ge p t
    unfold idxOf
    by_cases h : p x = true
    · simp [h]
    · rw [if_neg h]
      simp only [List.any_cons, h, Bool.false_or, ← ih]
      split
      · rename_i h1; simp; omega
      · rename_i h1; simp; omega
theorem idxOf_hit {α : Type} (p : α → Bool) (l : List α) (d : α) (i : Nat) (hi : i < l.length) (h0 : ∀ j, j < i → p (l.getD j d) = false) (h1 : p (l.getD i d) = true) : idxOf p l = (i : Int) := by
  induction l generalizing i with
  | nil => simp at hi
  | cons x t ih =>
    unfold idxOf
    cases i with
    | zero => simp at h1; simp [h1]
    | succ i =>
      have hx : p x = false := by simpa using h0 0 (by omega)
      have := ih i (by simpa using hi) (fun j hj => by simpa using h0 (j + 1) (by omega)) (by simpa using h1)
      rw [this, if_neg (by simp [hx]), if_neg (by omega)]
      omega
theorem idxOf_miss {α : Type} (p : α → Bool) (l : List α) (d : α) (h0 : ∀ j, j < l.length → p (l.getD j d) = false) : idxOf p l = -1 := by
  induction l with
  | nil => rfl
  | cons x t ih =>
    have hx : p x = false := by simpa using h0 0 (by simp)
    unfold idxOf
    rw [ih (fun j hj => by simpa using h0 (j + 1) (by simpa using hj)), if_neg (by simp [hx]), if_pos (by omega)]

end Go.Proofs.YtgdglnpgfngdoaaW.PrintMore

/- Own words of this session, of no program: the first index at which a predicate holds. -/
import Derived.Test.YtgdglnpgfngdoaaWMore
set_option linter.unusedVariables false
set_option linter.unusedSimpArgs false
namespace Go.Proofs.YtgdglnpgfngdoaaW.PrintMore
open Go.RowKit Go.Proofs.YtgdglnpgfngdoaaW.PrintWords
theorem tdiv_len (n : Nat) (b : Int) : Int.tdiv (n : Int) b = (n : Int) / b := Int.tdiv_eq_ediv_of_nonneg (Int.natCast_nonneg n)
theorem tmod_len (n : Nat) (b : Int) : Int.tmod (n : Int) b = (n : Int) % b := Int.tmod_eq_emod_of_nonneg (Int.natCast_nonneg n)
/-- The index of the first element that p takes, or -1. -/
def idxOf {α : Type} (p : α → Bool) : List α → Int
  | [] => -1
  | x :: t => if p x = true then 0 else if idxOf p t < 0 then -1 else idxOf p t + 1
theorem idxOf_ge {α : Type} (p : α → Bool) (l : List α) : -1 ≤ idxOf p l := by
  induction l with
  | nil => simp [idxOf]
  | cons x t ih => 
    unfold idxOf
    split
    · omega
    · split <;> omega
theorem idxOf_any {α : Type} (p : α → Bool) (l : List α) : decide (0 ≤ idxOf p l) = l.any p := by
  induction l with
  | nil => simp [idxOf]
  | cons x t ih =>
    have := idxOf_ge p t
    unfold idxOf
    by_cases h : p x = true
    · simp [h]
    · rw [if_neg h]
      simp only [List.any_cons, h, Bool.false_or, ← ih]
      split
      · rename_i h1; simp; omega
      · rename_i h1; simp; omega
theorem idxOf_hit {α : Type} (p : α → Bool) (l : List α) (d : α) (i : Nat) (hi : i < l.length) (h0 : ∀ j, j < i → p (l.getD j d) = false) (h1 : p (l.getD i d) = true) : idxOf p l = (i : Int) := by
  induction l generalizing i with
  | nil => simp at hi
  | cons x t ih =>
    unfold idxOf
    cases i with
    | zero => simp at h1; simp [h1]
    | succ i =>
      have hx : p x = false := by simpa using h0 0 (by omega)
      have := ih i (by simpa using hi) (fun j hj => by simpa using h0 (j + 1) (by omega)) (by simpa using h1)
      rw [this, if_neg (by simp [hx]), if_neg (by omega)]
      omega
theorem idxOf_miss {α : Type} (p : α → Bool) (l : List α) (d : α) (h0 : ∀ j, j < l.length → p (l.getD j d) = false) : idxOf p l = -1 := by
  induction l with
  | nil => rfl
  | cons x t ih =>
    have hx : p x = false := by simpa using h0 0 (by simp)
    unfold idxOf
    rw [ih (fun j hj => by simpa using h0 (j + 1) (by simpa using hj)), if_neg (by simp [hx]), if_pos (by omega)]

theorem idxOf_neg {α : Type} (p : α → Bool) (l : List α) (h : idxOf p l = -1) : ∀ x ∈ l, p x = false := by
  induction l with
  | nil => simp
  | cons a t ih =>
    unfold idxOf at h
    have := idxOf_ge p t
    split at h
    · omega
    · rename_i h1
      split at h
      · intro x hx
        rcases List.mem_cons.1 hx with rfl | hx
        · simpa using h1
        · exact ih (by omega) x hx
      · omega
theorem idxOf_pos {α : Type} (p : α → Bool) (l : List α) (d : α) (h : idxOf p l ≠ -1) : ∃ i : Nat, idxOf p l = (i : Int) ∧ i < l.length ∧ p (l.getD i d) = true ∧ ∀ j, j < i → p (l.getD j d) = false := by
  induction l with
  | nil => exact absurd rfl h
  | cons a t ih =>
    unfold idxOf at h ⊢
    have := idxOf_ge p t
    by_cases h1 : p a = true
    · rw [if_pos h1]
      exact ⟨0, rfl, by simp, by simpa using h1, fun j hj => by omega⟩
    · rw [if_neg h1] at h ⊢
      by_cases h2 : idxOf p t < 0
      · rw [if_pos h2] at h; exact absurd rfl h
      · rw [if_neg h2]
        obtain ⟨i, e, hi, hp, hj⟩ := ih (by omega)
        refine ⟨i + 1, by omega, by simpa using hi, by simpa using hp, fun j hj2 => ?_⟩
        cases j with
        | zero => simpa using h1
        | succ j => simpa using hj j (by omega)
theorem getD_mem {α : Type} (l : List α) (j : Nat) (d : α) (h : j < l.length) : l.getD j d ∈ l := by
  rw [List.getD_eq_getElem?_getD, List.getElem?_eq_getElem h]
  simp
theorem filter_none {α : Type} (q : α → Bool) (l : List α) (d : α) : ∀ (i : Nat), i ≤ l.length → (∀ j, j < i → q (l.getD j d) = true) → (l.take i).filter q = l.take i := by
  intro i hi h
  rw [List.filter_eq_self]
  intro x hx
  obtain ⟨j, hj, e⟩ := List.getElem_of_mem hx
  rw [List.length_take] at hj
  have := h j (by omega)
  rw [List.getElem_take] at e
  rw [List.getD_eq_getElem?_getD, List.getElem?_eq_getElem (by omega)] at this
  rw [← e]; simpa using this
theorem take_snoc_getD {α : Type} (l : List α) (j : Nat) (d : α) (h : j < l.length) : l.take (j + 1) = l.take j ++ [l.getD j d] := by
  rw [List.take_succ_eq_append_getElem h, List.getD_eq_getElem?_getD, List.getElem?_eq_getElem h]
  rfl
theorem below_cells {B : Nat} {a : World} (b : Nat) (hb : B ≤ b) : ∀ (vs : List Value) (o : Nat) {w : World}, Below B a w → Below B a (w.setCells b o vs)
  | [], _, _, h => h
  | v :: r, o, _, h => below_cells b hb r (o + 1) (h.setCell (p := ⟨b, o, none⟩) hb v)
/-- A row of whole numbers whose cells from o on are set to 0. -/
theorem clear_row {base : Nat} {ok : Nat → Prop} {g n cap : Nat} {e : Nat} : ∀ (m o : Nat) (W : World) (xs : List Int), Kd.R (Kd.int .i64) e W base ok (.slice (some ⟨g, 0, none⟩) n cap) xs →
    ∃ ys : List Int, ys.length = xs.length ∧ ys.take o = xs.take o ∧ Kd.R (Kd.int .i64) e (W.setCells g o (List.replicate m (.int .i64 0))) base ok (.slice (some ⟨g, 0, none⟩) n cap) ys := by
  intro m
  induction m with
  | zero => intro o W xs h; exact ⟨xs, rfl, rfl, h⟩
  | succ m ih =>
    intro o W xs h
    have h1 := (Kd.R_putg h (o : Int) 0).1
    rw [Int.toNat_natCast] at h1
    obtain ⟨ys, hl, ht, hr⟩ := ih (o + 1) _ _ h1
    refine ⟨ys, by rw [hl]; simp, ?_, hr⟩
    have := congrArg (List.take o) ht
    rw [List.take_take, List.take_take, Nat.min_eq_left (by omega)] at this
    rw [this, List.take_set_of_le (by omega)]

end Go.Proofs.YtgdglnpgfngdoaaW.PrintMore

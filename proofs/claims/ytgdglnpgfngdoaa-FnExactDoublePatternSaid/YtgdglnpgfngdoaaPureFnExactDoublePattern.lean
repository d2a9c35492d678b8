/- The statement FnExactDoublePattern: for every input the law returns true, and its argument reads afterwards as it read before. -/
import Derived.Test.YtgdglnpgfngdoaaQx9
import Derived.Test.YtgdglnpgfngdoaaQx10
import Derived.Test.YtgdglnpgfngdoaaQx11
import Derived.Test.YtgdglnpgfngdoaaPuPat
set_option linter.unusedVariables false
set_option linter.unusedSimpArgs false
namespace Go.Proofs.Ytgdglnpgfngdoaa.Pure
open Go.RowKit Go.Proofs.Ytgdglnpgfngdoaa.Q Go.Proofs.Ytgdglnpgfngdoaa.Pu Go.Proofs.YtgdglnpgfngdoaaW.PrintWords Go.Proofs.YtgdglnpgfngdoaaW.PrintLast Go.Proofs.YtgdglnpgfngdoaaW.PrintMore

theorem w_0 : wrap64 0 = 0 := w64 _ (by omega)
theorem w_1 : wrap64 1 = 1 := w64 _ (by omega)
theorem w_2 : wrap64 2 = 2 := w64 _ (by omega)
theorem w_3 : wrap64 3 = 3 := w64 _ (by omega)
theorem w_4 : wrap64 4 = 4 := w64 _ (by omega)
theorem w_5 : wrap64 5 = 5 := w64 _ (by omega)
theorem w_6 : wrap64 6 = 6 := w64 _ (by omega)
theorem w_7 : wrap64 7 = 7 := w64 _ (by omega)
theorem w_8 : wrap64 8 = 8 := w64 _ (by omega)
theorem w_9 : wrap64 9 = 9 := w64 _ (by omega)
def two (x : Int) : List Int := [wrap64 (2 * x), wrap64 (wrap64 (2 * x) + 1)]
def owt (x : Int) : List Int := [wrap64 (wrap64 (2 * x) + 1), wrap64 (2 * x)]
def dbl : List Int → List Int
  | [] => []
  | [a] => owt a
  | a :: b :: t => two a ++ dbl (b :: t)
theorem dbl_length (l : List Int) : (dbl l).length = 2 * l.length := by
  induction l with
  | nil => rfl
  | cons a t ih =>
    cases t with
    | nil => rfl
    | cons b t => simp only [dbl, List.length_append, ih]; simp [two]; omega
def dblOf (l : List Int) : List Int × Bool := if IsPat l ∧ l.length ≤ 4 then (dbl l, true) else ([], false)
theorem dblOf_len (l : List Int) : (dblOf l).1.length ≤ 9 := by
  unfold dblOf
  split
  · rename_i h; simp [dbl_length]; omega
  · simp
theorem len4 (l : List Int) (h : l.length ≤ 4) (h1 : 1 ≤ l.length) : (∃ a, l = [a]) ∨ (∃ a b, l = [a, b]) ∨ (∃ a b c, l = [a, b, c]) ∨ ∃ a b c d, l = [a, b, c, d] := by
  rcases l with _ | ⟨a, _ | ⟨b, _ | ⟨c, _ | ⟨d, _ | ⟨e, t⟩⟩⟩⟩⟩
  · simp at h1
  · exact .inl ⟨a, rfl⟩
  · exact .inr (.inl ⟨a, b, rfl⟩)
  · exact .inr (.inr (.inl ⟨a, b, c, rfl⟩))
  · exact .inr (.inr (.inr ⟨a, b, c, d, rfl⟩))
  · simp at h
theorem impl_l (k : Nat) (l : List Int) (h : l.length ≤ 4) (h1 : 1 ≤ l.length) : impl_DoublePattern.l0 (k + 20) [] l (l.length : Int) 0 = some (dbl l, true) := by
  rcases len4 l h h1 with ⟨a, rfl⟩ | ⟨a, b, rfl⟩ | ⟨a, b, c, rfl⟩ | ⟨a, b, c, d, rfl⟩ <;> simp [impl_DoublePattern.l0, spec_DoublePattern.l0, w_0, w_1, w_2, w_3, w_4, w_5, w_6, w_7, w_8, w_9, rd, dbl, two, owt]
theorem spec_l (k : Nat) (l : List Int) (h : l.length ≤ 4) (h1 : 1 ≤ l.length) : spec_DoublePattern.l0 (k + 20) l [] l (l.length : Int) 0 = some (dbl l, true) := by
  rcases len4 l h h1 with ⟨a, rfl⟩ | ⟨a, b, rfl⟩ | ⟨a, b, c, rfl⟩ | ⟨a, b, c, d, rfl⟩ <;> simp [impl_DoublePattern.l0, spec_DoublePattern.l0, w_0, w_1, w_2, w_3, w_4, w_5, w_6, w_7, w_8, w_9, rd, dbl, two, owt]
theorem impl_eq (l : List Int) (hl : l.length ≤ 1048576) (k : Nat) (hk : 2000000 ≤ k) : impl_DoublePattern.f k l = some (dblOf l) := by
  obtain ⟨k, rfl⟩ : ∃ m, k = m + 21 := ⟨k - 21, by omega⟩
  unfold impl_DoublePattern.f dblOf
  rw [isPattern l (by omega) _ (by omega)]
  simp only [Option.bind_some]
  by_cases h : IsPat l
  · have h9 := h.2.1
    rw [decide_eq_true h, if_pos rfl, w64 _ (by omega)]
    simp only [impl_DoublePattern.j0]
    by_cases h4 : l.length ≤ 4
    · rw [if_neg (by simp; omega), if_pos ⟨h, h4⟩]
      exact impl_l k l h4 h.1
    · rw [if_pos (by simp; omega), if_neg (fun hh => h4 hh.2)]
  · rw [decide_eq_false h, if_neg (by decide), if_neg (fun hh => h hh.1)]
    simp only [impl_DoublePattern.j0, if_true]
theorem spec_eq (l : List Int) (hl : l.length ≤ 1048576) (k : Nat) (hk : 2000000 ≤ k) : spec_DoublePattern.f k l = some (dblOf l) := by
  obtain ⟨k, rfl⟩ : ∃ m, k = m + 21 := ⟨k - 21, by omega⟩
  unfold spec_DoublePattern.f dblOf
  rw [ptGood l (by omega) _ (by omega)]
  simp only [Option.bind_some]
  by_cases h : IsPat l
  · have h9 := h.2.1
    rw [decide_eq_true h, if_pos rfl, w64 _ (by omega)]
    simp only [spec_DoublePattern.j0]
    by_cases h4 : l.length ≤ 4
    · rw [if_neg (by simp; omega), if_pos ⟨h, h4⟩]
      exact spec_l k l h4 h.1
    · rw [if_pos (by simp; omega), if_neg (fun hh => h4 hh.2)]
  · rw [decide_eq_false h, if_neg (by decide), if_neg (fun hh => h hh.1)]
    simp only [spec_DoublePattern.j0, if_true]
theorem FnExactDoublePattern : laws_FnExactDoublePattern.Pure := by
  intro l0 _ _ _
  refine ⟨2000005, ?_⟩
  unfold laws_FnExactDoublePattern.f
  by_cases hb : (l0.length : Int) > 1048576
  · rw [if_pos hb]
  · have hl : l0.length ≤ 1048576 := by omega
    rcases hv : dblOf l0 with ⟨v, b⟩
    have hv9 : v.length ≤ 1000000 := by have := Nat.le_trans (dblOf_len l0) (show 9 ≤ 1000000 by decide); rw [hv] at this; exact this
    rw [if_neg hb, toIntS l0 (by omega) _ (by omega)]
    simp only [Option.bind_some]
    rw [spec_eq l0 hl _ (by omega), impl_eq l0 hl _ (by omega), hv]
    simp only [Option.bind_some]
    rw [eqIntS_self v (by omega) _ (by omega)]
    simp only [Option.bind_some, if_true, bne_self_eq_false, laws_FnExactDoublePattern.j0]
    rw [if_neg (by decide), toIntS l0 (by omega) _ (by omega)]
    simp only [Option.bind_some]
    rw [eqIntS_self l0 (by omega) _ (by omega)]
    simp only [Option.bind_some, if_true]
    rw [markIntS l0 1 (by omega) (by omega) _ (by omega)]
    simp only [Option.bind_some]
    rw [if_neg (by omega), eqIntS_self v (by omega) _ (by omega)]
    simp only [Option.bind_some, if_true, laws_FnExactDoublePattern.j1]
    rw [if_neg (by decide), markIntS v 1 (by omega) (by omega) _ (by omega)]
    simp only [Option.bind_some]
    rw [heldIntS v.length 1 (by omega) (by omega) _ (by omega)]
    simp only [Option.bind_some]
    rw [if_neg (by omega), if_pos (by trivial), toIntS l0 (by omega) _ (by omega)]
    simp only [Option.bind_some]
    rw [impl_eq l0 hl _ (by omega), hv]
    simp only [Option.bind_some]
    rw [eqIntS_self v (by omega) _ (by omega)]
    simp only [Option.bind_some, if_true, bne_self_eq_false, laws_FnExactDoublePattern.j2]
    rw [if_neg (by decide), heldIntS v.length 1 (by omega) (by omega) _ (by omega)]
    simp only [Option.bind_some]
    rw [if_neg (by omega), if_pos (by trivial)]
end Go.Proofs.Ytgdglnpgfngdoaa.Pure

/- The statement FnExactTurnsOf: for every input the law returns true, and its argument reads afterwards as it read before. -/
import Derived.Test.YtgdglnpgfngdoaaQx12
import Derived.Test.YtgdglnpgfngdoaaQx13
import Derived.Test.YtgdglnpgfngdoaaQx14
import Derived.Test.YtgdglnpgfngdoaaPuPat
set_option linter.unusedVariables false
set_option linter.unusedSimpArgs false
namespace Go.Proofs.Ytgdglnpgfngdoaa.Pure
open Go.RowKit Go.Proofs.Ytgdglnpgfngdoaa.Q Go.Proofs.Ytgdglnpgfngdoaa.Pu Go.Proofs.YtgdglnpgfngdoaaW.PrintWords Go.Proofs.YtgdglnpgfngdoaaW.PrintLast Go.Proofs.YtgdglnpgfngdoaaW.PrintMore

def isTurn (l : List Int) (i : Nat) : Bool := decide (l.getD i 0 > l.getD (i - 1) 0) == decide (l.getD i 0 > l.getD (i + 1) 0)
def turnsL (l : List Int) : Nat → Nat → List Int → List Int
  | 0, _, out => out
  | d + 1, i, out => if isTurn l i = true then turnsL l d (i + 1) (out ++ [(i : Int)]) else turnsL l d (i + 1) out
theorem turnsL_length (l : List Int) : ∀ d i out, (turnsL l d i out).length ≤ out.length + d := by
  intro d
  induction d with
  | zero => intros; simp [turnsL]
  | succ d ih =>
    intro i out
    unfold turnsL
    split
    · have := ih (i + 1) (out ++ [(i : Int)]); simp at this; omega
    · have := ih (i + 1) out; omega
theorem impl_l (l : List Int) (hl : l.length ≤ 9) : ∀ (d k i : Nat) (out : List Int), 1 ≤ i → (i + d + 1 = l.length ∨ d = 0 ∧ l.length ≤ i + 1) → out.length ≤ i → d < k →
    impl_TurnsOf.l0 k l out (i : Int) = some (turnsL l d i out, true) := by
  intro d
  induction d with
  | zero =>
    intro k i out h1 hi ho hk
    obtain ⟨k, rfl⟩ : ∃ m, k = m + 1 := ⟨k - 1, by omega⟩
    simp only [impl_TurnsOf.l0]
    rw [w64 (_ - 1) (by omega), if_neg (by omega)]
    rfl
  | succ d ih =>
    intro k i out h1 hi ho hk
    obtain ⟨k, rfl⟩ : ∃ m, k = m + 1 := ⟨k - 1, by omega⟩
    simp only [impl_TurnsOf.l0]
    rw [w64 ((l.length : Int) - 1) (by omega), w64 ((i : Int) - 1) (by omega), w64 (_ + 1) (by omega), if_pos (by omega), if_pos (by omega), if_pos (by omega), if_pos (by omega), if_pos (by omega), if_pos (by omega), if_pos (by omega)]
    rw [show (i : Int) - 1 = ((i - 1 : Nat) : Int) by omega, show (i : Int) + 1 = ((i + 1 : Nat) : Int) by omega, rd_nat, rd_nat, rd_nat]
    unfold turnsL isTurn
    split
    · rename_i h
      rw [if_pos (by omega)]
      exact ih k (i + 1) _ (by omega) (by omega) (by simp; omega) (by omega)
    · rename_i h
      exact ih k (i + 1) _ (by omega) (by omega) (by omega) (by omega)
theorem spec_l (l : List Int) (hl : l.length ≤ 9) : ∀ (d k i : Nat) (out : List Int), 1 ≤ i → (i + d + 1 = l.length ∨ d = 0 ∧ l.length ≤ i + 1 ∧ i ≤ 9) → out.length ≤ i → d < k →
    spec_ptTurns.l0 k l out (i : Int) = some (turnsL l d i out) := by
  intro d
  induction d with
  | zero =>
    intro k i out h1 hi ho hk
    obtain ⟨k, rfl⟩ : ∃ m, k = m + 1 := ⟨k - 1, by omega⟩
    simp only [spec_ptTurns.l0]
    rw [w64 (_ + 1) (by omega), if_neg (by omega)]
    rfl
  | succ d ih =>
    intro k i out h1 hi ho hk
    obtain ⟨k, rfl⟩ : ∃ m, k = m + 1 := ⟨k - 1, by omega⟩
    simp only [spec_ptTurns.l0]
    rw [w64 ((i : Int) - 1) (by omega), w64 (_ + 1) (by omega), if_pos (by omega), if_pos (by omega), if_pos (by omega), if_pos (by omega), if_pos (by omega), if_pos (by omega)]
    rw [show (i : Int) - 1 = ((i - 1 : Nat) : Int) by omega, show (i : Int) + 1 = ((i + 1 : Nat) : Int) by omega, rd_nat, rd_nat, rd_nat]
    unfold turnsL isTurn
    split
    · rename_i h
      rw [if_pos (by omega)]
      exact ih k (i + 1) _ (by omega) (by omega) (by simp; omega) (by omega)
    · rename_i h
      exact ih k (i + 1) _ (by omega) (by omega) (by omega) (by omega)
def turnsOf (l : List Int) : List Int × Bool := if IsPat l then (turnsL l (l.length - 2) 1 [], true) else ([], false)
theorem turnsOf_len (l : List Int) : (turnsOf l).1.length ≤ 9 := by
  unfold turnsOf
  split
  · rename_i h; have := turnsL_length l (l.length - 2) 1 []; have := h.2.1; simp at *; omega
  · simp
theorem impl_eq (l : List Int) (hl : l.length ≤ 1048576) (k : Nat) (hk : 2000000 ≤ k) : impl_TurnsOf.f k l = some (turnsOf l) := by
  unfold impl_TurnsOf.f turnsOf
  rw [isPattern l (by omega) _ (by omega)]
  simp only [Option.bind_some]
  by_cases h : IsPat l
  · have h9 := h.2.1
    have h1 := h.1
    rw [decide_eq_true h, if_pos rfl, if_pos h]
    exact impl_l l h9 (l.length - 2) k 1 [] (by omega) (by omega) (by simp) (by omega)
  · rw [decide_eq_false h, if_neg (by decide), if_neg h]
theorem spec_eq (l : List Int) (hl : l.length ≤ 1048576) (k : Nat) (hk : 2000000 ≤ k) : spec_TurnsOf.f k l = some (turnsOf l) := by
  unfold spec_TurnsOf.f turnsOf
  rw [ptGood l (by omega) _ (by omega)]
  simp only [Option.bind_some]
  by_cases h : IsPat l
  · have h9 := h.2.1
    have h1 := h.1
    unfold spec_ptTurns.f
    have := spec_l l h9 (l.length - 2) k 1 [] (by omega) (by omega) (by simp) (by omega)
    rw [show ((1 : Nat) : Int) = 1 from rfl] at this
    rw [decide_eq_true h, if_pos rfl, if_pos h, this]
    rfl
  · rw [decide_eq_false h, if_neg (by decide), if_neg h]
theorem FnExactTurnsOf : laws_FnExactTurnsOf.Pure := by
  intro l0 _ _ _
  refine ⟨2000005, ?_⟩
  unfold laws_FnExactTurnsOf.f
  by_cases hb : (l0.length : Int) > 1048576
  · rw [if_pos hb]
  · have hl : l0.length ≤ 1048576 := by omega
    rcases hv : turnsOf l0 with ⟨v, b⟩
    have hv9 : v.length ≤ 1000000 := by have := Nat.le_trans (turnsOf_len l0) (show 9 ≤ 1000000 by decide); rw [hv] at this; exact this
    rw [if_neg hb, toIntS l0 (by omega) _ (by omega)]
    simp only [Option.bind_some]
    rw [spec_eq l0 hl _ (by omega), impl_eq l0 hl _ (by omega), hv]
    simp only [Option.bind_some]
    rw [eqIntS_self v (by omega) _ (by omega)]
    simp only [Option.bind_some, if_true, bne_self_eq_false, laws_FnExactTurnsOf.j0]
    rw [if_neg (by decide), toIntS l0 (by omega) _ (by omega)]
    simp only [Option.bind_some]
    rw [eqIntS_self l0 (by omega) _ (by omega)]
    simp only [Option.bind_some, if_true]
    rw [markIntS l0 1 (by omega) (by omega) _ (by omega)]
    simp only [Option.bind_some]
    rw [if_neg (by omega), eqIntS_self v (by omega) _ (by omega)]
    simp only [Option.bind_some, if_true, laws_FnExactTurnsOf.j1]
    rw [if_neg (by decide), markIntS v 1 (by omega) (by omega) _ (by omega)]
    simp only [Option.bind_some]
    rw [heldIntS v.length 1 (by omega) (by omega) _ (by omega)]
    simp only [Option.bind_some]
    rw [if_neg (by omega), if_pos (by trivial), toIntS l0 (by omega) _ (by omega)]
    simp only [Option.bind_some]
    rw [impl_eq l0 hl _ (by omega), hv]
    simp only [Option.bind_some]
    rw [eqIntS_self v (by omega) _ (by omega)]
    simp only [Option.bind_some, if_true, bne_self_eq_false, laws_FnExactTurnsOf.j2]
    rw [if_neg (by decide), heldIntS v.length 1 (by omega) (by omega) _ (by omega)]
    simp only [Option.bind_some]
    rw [if_neg (by omega), if_pos (by trivial)]
end Go.Proofs.Ytgdglnpgfngdoaa.Pure

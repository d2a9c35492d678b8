/- The statement FnExactLoopLengths: for every input the law returns true, and its argument reads afterwards as it read before. -/
import Derived.Test.YtgdglnpgfngdoaaQx14
import Derived.Test.YtgdglnpgfngdoaaQx15
import Derived.Test.YtgdglnpgfngdoaaQx16
import Derived.Test.YtgdglnpgfngdoaaPuForce
set_option linter.unusedVariables false
set_option linter.unusedSimpArgs false
namespace Go.Proofs.Ytgdglnpgfngdoaa.Pure
open Go.RowKit Go.Proofs.Ytgdglnpgfngdoaa.Q Go.Proofs.Ytgdglnpgfngdoaa.Pu Go.Proofs.YtgdglnpgfngdoaaW.PrintWords Go.Proofs.YtgdglnpgfngdoaaW.PrintLast Go.Proofs.YtgdglnpgfngdoaaW.PrintMore

/-- The lengths from m on, r of them, for which there are such loops. -/
def lens (l : List Int) : Nat → Nat → List Int → List Int
  | 0, _, out => out
  | r + 1, m, out => lens l r (m + 1) (if loopsOf l m > 0 then out ++ [(m : Int)] else out)
theorem lens_length (l : List Int) : ∀ r m out, (lens l r m out).length ≤ out.length + r := by
  intro r
  induction r with
  | zero => intro m out; exact Nat.le_refl _
  | succ r ih =>
    intro m out
    have := ih (m + 1) (if loopsOf l m > 0 then out ++ [(m : Int)] else out)
    rw [lens]
    split at this
    · rw [List.length_append] at this; rename_i h; rw [if_pos h]; simp at this; omega
    · rename_i h; rw [if_neg h]; omega
def llOf (l : List Int) (a : Int) : List Int × Bool := if Force l ∧ 1 ≤ a ∧ a ≤ 12 then (lens l a.toNat 1 [], true) else ([], false)
theorem llOf_len (l : List Int) (a : Int) : (llOf l a).1.length ≤ 12 := by
  unfold llOf
  split
  · rename_i h
    have := lens_length l a.toNat 1 []
    simp at this
    show (lens l a.toNat 1 []).length ≤ 12
    omega
  · simp
theorem impl_l (l : List Int) (h : Force l) (a : Nat) (ha : a ≤ 12) : ∀ (r k m : Nat) (out : List Int), m + r = a + 1 → 1 ≤ m → out.length ≤ m → r + 1000001 ≤ k → impl_LoopLengths.l0 k l (a : Int) out (m : Int) = some (lens l r m out, true) := by
  intro r
  induction r with
  | zero =>
    intro k m out hm h1 ho hk
    obtain ⟨k, rfl⟩ : ∃ q, k = q + 1 := ⟨k - 1, by omega⟩
    rw [impl_LoopLengths.l0, if_neg (by omega)]
    rfl
  | succ r ih =>
    intro k m out hm h1 ho hk
    obtain ⟨k, rfl⟩ : ∃ q, k = q + 1 := ⟨k - 1, by omega⟩
    rw [impl_LoopLengths.l0, if_pos (by omega), graphI l h k (by omega), Option.bind_some, loopCountOf l h m h1 (by omega) k (by omega), Option.bind_some, w64 ((m : Int) + 1) (by omega), lens]
    by_cases hp : loopsOf l m > 0
    · rw [if_pos hp, if_pos hp, if_pos (by omega)]
      exact ih k (m + 1) _ (by omega) (by omega) (by rw [List.length_append]; simp; omega) (by omega)
    · rw [if_neg hp, if_neg hp]
      exact ih k (m + 1) _ (by omega) (by omega) (by omega) (by omega)
theorem spec_l (l : List Int) (h : Force l) (a : Nat) (ha : a ≤ 12) : ∀ (r k m : Nat) (out : List Int), m + r = a + 1 → 1 ≤ m → out.length ≤ m → r + 1000001 ≤ k → spec_LoopLengths.l0 k l (a : Int) out (m : Int) = some (lens l r m out, true) := by
  intro r
  induction r with
  | zero =>
    intro k m out hm h1 ho hk
    obtain ⟨k, rfl⟩ : ∃ q, k = q + 1 := ⟨k - 1, by omega⟩
    rw [spec_LoopLengths.l0, if_neg (by omega)]
    rfl
  | succ r ih =>
    intro k m out hm h1 ho hk
    obtain ⟨k, rfl⟩ : ∃ q, k = q + 1 := ⟨k - 1, by omega⟩
    rw [spec_LoopLengths.l0, if_pos (by omega), graphS l h k (by omega), Option.bind_some, foLoopsOf l h m h1 (by omega) k (by omega), Option.bind_some, w64 ((m : Int) + 1) (by omega), lens]
    by_cases hp : loopsOf l m > 0
    · rw [if_pos hp, if_pos hp, if_pos (by omega)]
      exact ih k (m + 1) _ (by omega) (by omega) (by rw [List.length_append]; simp; omega) (by omega)
    · rw [if_neg hp, if_neg hp]
      exact ih k (m + 1) _ (by omega) (by omega) (by omega) (by omega)
theorem impl_eq (l : List Int) (a : Int) (hl : l.length ≤ 1048576) (k : Nat) (hk : 2000002 ≤ k) : impl_LoopLengths.f k l a = some (llOf l a) := by
  obtain ⟨q, rfl⟩ : ∃ q, k = q + 1 := ⟨k - 1, by omega⟩
  unfold impl_LoopLengths.f llOf
  rw [isForcing l hl _ (by omega), Option.bind_some]
  by_cases h : Force l
  · rw [decide_eq_true h, if_pos rfl, within_b, Option.bind_some]
    by_cases ha : 1 ≤ a ∧ a ≤ 12
    · rw [decide_eq_true ha, impl_LoopLengths.j0, if_neg (by decide)]
      have := impl_l l h a.toNat (by omega) a.toNat q 1 [] (by omega) (by omega) (by simp) (by omega)
      rw [Int.toNat_of_nonneg (by omega), show ((1 : Nat) : Int) = 1 from rfl] at this
      rw [this, if_pos ⟨h, ha⟩]
    · rw [decide_eq_false ha, impl_LoopLengths.j0, if_pos (by decide), if_neg (fun hf => ha hf.2)]
  · rw [decide_eq_false h, if_neg (by decide), impl_LoopLengths.j0, if_pos rfl, if_neg (fun hf => h hf.1)]
theorem spec_eq (l : List Int) (a : Int) (hl : l.length ≤ 1048576) (k : Nat) (hk : 2000002 ≤ k) : spec_LoopLengths.f k l a = some (llOf l a) := by
  obtain ⟨q, rfl⟩ : ∃ q, k = q + 1 := ⟨k - 1, by omega⟩
  unfold spec_LoopLengths.f llOf
  rw [foPattern l hl _ (by omega), Option.bind_some]
  by_cases h : Force l
  · rw [decide_eq_true h, if_pos rfl, foLength, Option.bind_some]
    by_cases ha : 1 ≤ a ∧ a ≤ 12
    · rw [decide_eq_true ha, spec_LoopLengths.j0, if_neg (by decide)]
      have := spec_l l h a.toNat (by omega) a.toNat q 1 [] (by omega) (by omega) (by simp) (by omega)
      rw [Int.toNat_of_nonneg (by omega), show ((1 : Nat) : Int) = 1 from rfl] at this
      rw [this, if_pos ⟨h, ha⟩]
    · rw [decide_eq_false ha, spec_LoopLengths.j0, if_pos (by decide), if_neg (fun hf => ha hf.2)]
  · rw [decide_eq_false h, if_neg (by decide), spec_LoopLengths.j0, if_pos rfl, if_neg (fun hf => h hf.1)]
theorem FnExactLoopLengths : laws_FnExactLoopLengths.Pure := by
  intro l0 a1 _ _ _ _
  refine ⟨2000005, ?_⟩
  unfold laws_FnExactLoopLengths.f
  by_cases hb : (l0.length : Int) > 1048576
  · rw [if_pos hb]
  · have hl : l0.length ≤ 1048576 := by omega
    rcases hv : llOf l0 a1 with ⟨v, b⟩
    have hv9 : v.length ≤ 1000000 := by have := Nat.le_trans (llOf_len l0 a1) (show 12 ≤ 1000000 by decide); rw [hv] at this; exact this
    rw [if_neg hb, toIntS l0 (by omega) _ (by omega)]
    simp only [Option.bind_some]
    rw [spec_eq l0 a1 hl _ (by omega), impl_eq l0 a1 hl _ (by omega), hv]
    simp only [Option.bind_some]
    rw [eqIntS_self v (by omega) _ (by omega)]
    simp only [Option.bind_some, if_true, bne_self_eq_false, laws_FnExactLoopLengths.j0]
    rw [if_neg (by decide), toIntS l0 (by omega) _ (by omega)]
    simp only [Option.bind_some]
    rw [eqIntS_self l0 (by omega) _ (by omega)]
    simp only [Option.bind_some, if_true]
    rw [markIntS l0 1 (by omega) (by omega) _ (by omega)]
    simp only [Option.bind_some]
    rw [if_neg (by omega), eqIntS_self v (by omega) _ (by omega)]
    simp only [Option.bind_some, if_true, laws_FnExactLoopLengths.j1]
    rw [if_neg (by decide), markIntS v 1 (by omega) (by omega) _ (by omega)]
    simp only [Option.bind_some]
    rw [heldIntS v.length 1 (by omega) (by omega) _ (by omega)]
    simp only [Option.bind_some]
    rw [if_neg (by omega), if_pos (by trivial), toIntS l0 (by omega) _ (by omega)]
    simp only [Option.bind_some]
    rw [impl_eq l0 a1 hl _ (by omega), hv]
    simp only [Option.bind_some]
    rw [eqIntS_self v (by omega) _ (by omega)]
    simp only [Option.bind_some, if_true, bne_self_eq_false, laws_FnExactLoopLengths.j2]
    rw [if_neg (by decide), heldIntS v.length 1 (by omega) (by omega) _ (by omega)]
    simp only [Option.bind_some]
    rw [if_neg (by omega), if_pos (by trivial)]
end Go.Proofs.Ytgdglnpgfngdoaa.Pure

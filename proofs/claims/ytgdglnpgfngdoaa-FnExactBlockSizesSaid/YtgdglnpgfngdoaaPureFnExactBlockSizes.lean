/- The statement FnExactBlockSizes: for every input the law returns true, and its argument reads afterwards as it read before. -/
import Derived.Test.YtgdglnpgfngdoaaQx27
import Derived.Test.YtgdglnpgfngdoaaQx28
import Derived.Test.YtgdglnpgfngdoaaQx29
import Derived.Test.YtgdglnpgfngdoaaPuBlk
set_option linter.unusedVariables false
set_option linter.unusedSimpArgs false
namespace Go.Proofs.Ytgdglnpgfngdoaa.Pure
open Go.RowKit Go.Proofs.Ytgdglnpgfngdoaa.Q Go.Proofs.Ytgdglnpgfngdoaa.Pu Go.Proofs.YtgdglnpgfngdoaaW.PrintWords Go.Proofs.YtgdglnpgfngdoaaW.PrintLast Go.Proofs.YtgdglnpgfngdoaaW.PrintMore

theorem numbersTo_l (n : Nat) (hn : n ≤ 1000) : ∀ (d k i : Nat) (x : List Int), i + d = n → x.length = n → (∀ j, j < i → x.getD j 0 = (j : Int)) → d < k → impl_numbersTo.l0 k x (n : Int) (i : Int) = some (marks 0 n) := by
  intro d
  induction d with
  | zero =>
    intro k i x hi hl hj hk
    obtain ⟨k, rfl⟩ : ∃ m, k = m + 1 := ⟨k - 1, by omega⟩
    simp only [impl_numbersTo.l0]
    rw [if_neg (by omega), ext_getD x (marks 0 n) (by rw [marks_length, hl]) (fun j h => by rw [hj j (by omega), marks_getD _ _ _ (by omega)]; omega)]
  | succ d ih =>
    intro k i x hi hl hj hk
    obtain ⟨k, rfl⟩ : ∃ m, k = m + 1 := ⟨k - 1, by omega⟩
    simp only [impl_numbersTo.l0]
    rw [if_pos (by omega), if_pos (by omega), if_pos (by omega), w64 _ (by omega), Int.toNat_natCast]
    refine ih k (i + 1) _ (by omega) (by simpa using hl) (fun j h => ?_) (by omega)
    rw [getD_set _ _ _ _ (by omega)]
    split
    · rename_i e; rw [e]
    · exact hj j (by omega)
theorem numbersTo (n : Nat) (hn : n ≤ 1000) (k : Nat) (hk : n < k) : impl_numbersTo.f k (n : Int) = some (marks 0 n) := by
  unfold impl_numbersTo.f
  rw [if_pos (by omega), if_pos (by omega)]
  simp only [Option.bind_some, List.length_replicate, Int.toNat_natCast]
  exact numbersTo_l n hn n k 0 _ (by omega) (by simp) (fun j h => by omega) hk
def sizesL (l : List Int) : Nat → Int → List Int
  | 0, _ => []
  | d + 1, s => if blocks l s = true then s :: sizesL l d (s + 1) else sizesL l d (s + 1)
theorem sizesL_length (l : List Int) : ∀ d s, (sizesL l d s).length ≤ d := by
  intro d
  induction d with
  | zero => intro s; simp [sizesL]
  | succ d ih =>
    intro s
    unfold sizesL
    split
    · have := ih (s + 1); simp; omega
    · have := ih (s + 1); omega
theorem sel_eq (l : List Int) (hr : InR l) (hl : l.length ≤ 9) (k : Nat) (hk : 20 ≤ k) : ∀ (d : Nat) (s : Int), impl_BlockSizes.sel k l (marks s d) = some (sizesL l d s) := by
  intro d
  induction d with
  | zero => intro s; rfl
  | succ d ih =>
    intro s
    simp only [marks, impl_BlockSizes.sel]
    rw [hasBlocks l hr hl s k hk, ih (s + 1), show sizesL l (d + 1) s = if blocks l s = true then s :: sizesL l d (s + 1) else sizesL l d (s + 1) from rfl]
    rfl
theorem spec_l (l : List Int) (hr : InR l) (h0 : 1 ≤ l.length) (hl : l.length ≤ 9) : ∀ (d k : Nat) (s : Int) (out : List Int), s + d = l.length ∨ d = 0 ∧ l.length ≤ s → 0 ≤ s → s ≤ 10 → out.length ≤ s → d + 30 < k →
    spec_BlockSizes.l0 k l out s = some (out ++ sizesL l d s, true) := by
  intro d
  induction d with
  | zero =>
    intro k s out hs h1 h2 ho hk
    obtain ⟨k, rfl⟩ : ∃ m, k = m + 1 := ⟨k - 1, by omega⟩
    simp only [spec_BlockSizes.l0]
    rw [if_neg (by omega)]
    simp [sizesL]
  | succ d ih =>
    intro k s out hs h1 h2 ho hk
    obtain ⟨k, rfl⟩ : ∃ m, k = m + 1 := ⟨k - 1, by omega⟩
    simp only [spec_BlockSizes.l0]
    rw [if_pos (by omega), ptBlocks l hr h0 hl s k (by omega)]
    simp only [Option.bind_some]
    unfold sizesL
    cases hb : blocks l s with
    | true =>
      rw [if_pos rfl, if_pos (by omega), w64 _ (by omega), if_pos rfl, ih k (s + 1) _ (by omega) (by omega) (by omega) (by simp; omega) (by omega)]
      simp
    | false =>
      rw [if_neg (by decide), w64 _ (by omega), if_neg (by decide)]
      exact ih k (s + 1) _ (by omega) (by omega) (by omega) (by omega) (by omega)
theorem sizes02 (l : List Int) (h0 : 1 ≤ l.length) : sizesL l l.length 0 = sizesL l (l.length - 2) 2 := by
  have b0 : blocks l 0 = false := by unfold blocks; rw [if_neg (by omega)]
  have b1 : blocks l 1 = false := by unfold blocks; rw [if_neg (by omega)]
  obtain ⟨n, hn⟩ : ∃ n, l.length = n + 1 := ⟨l.length - 1, by omega⟩
  rw [hn]
  cases n with
  | zero => simp only [sizesL, b0]; rfl
  | succ n => simp only [sizesL, b0, b1, show (0 : Int) + 1 = 1 from rfl, show (1 : Int) + 1 = 2 from rfl]; rfl
def szOf (l : List Int) : List Int × Bool := if IsPat l then (sizesL l (l.length - 2) 2, true) else ([], false)
theorem szOf_len (l : List Int) : (szOf l).1.length ≤ 9 := by
  unfold szOf
  split
  · rename_i h; have := sizesL_length l (l.length - 2) 2; have := h.2.1; simp only; omega
  · simp
theorem impl_eq (l : List Int) (hl : l.length ≤ 1048576) (k : Nat) (hk : 2000000 ≤ k) : impl_BlockSizes.f k l = some (szOf l) := by
  unfold impl_BlockSizes.f szOf
  rw [isPattern l (by omega) _ (by omega)]
  simp only [Option.bind_some]
  by_cases h : IsPat l
  · have h9 := h.2.1
    have h1 := h.1
    rw [decide_eq_true h, if_pos rfl, if_pos h, numbersTo l.length (by omega) k (by omega)]
    simp only [Option.bind_some]
    rw [sel_eq l h.2.2.1 h9 k (by omega)]
    simp only [Option.bind_some]
    rw [sizes02 l h1]
  · rw [decide_eq_false h, if_neg (by decide), if_neg h]
theorem spec_eq (l : List Int) (hl : l.length ≤ 1048576) (k : Nat) (hk : 2000000 ≤ k) : spec_BlockSizes.f k l = some (szOf l) := by
  unfold spec_BlockSizes.f szOf
  rw [ptGood l (by omega) _ (by omega)]
  simp only [Option.bind_some]
  by_cases h : IsPat l
  · have h9 := h.2.1
    have h1 := h.1
    rw [decide_eq_true h, if_pos rfl, if_pos h, spec_l l h.2.2.1 h1 h9 (l.length - 2) k 2 [] (by omega) (by omega) (by omega) (by simp) (by omega)]
    simp
  · rw [decide_eq_false h, if_neg (by decide), if_neg h]
theorem FnExactBlockSizes : laws_FnExactBlockSizes.Pure := by
  intro l0 _ _ _
  refine ⟨2000005, ?_⟩
  unfold laws_FnExactBlockSizes.f
  by_cases hb : (l0.length : Int) > 1048576
  · rw [if_pos hb]
  · have hl : l0.length ≤ 1048576 := by omega
    rcases hv : szOf l0 with ⟨v, b⟩
    have hv9 : v.length ≤ 1000000 := by have := Nat.le_trans (szOf_len l0) (show 9 ≤ 1000000 by decide); rw [hv] at this; exact this
    rw [if_neg hb, toIntS l0 (by omega) _ (by omega)]
    simp only [Option.bind_some]
    rw [spec_eq l0 hl _ (by omega), impl_eq l0 hl _ (by omega), hv]
    simp only [Option.bind_some]
    rw [eqIntS_self v (by omega) _ (by omega)]
    simp only [Option.bind_some, if_true, bne_self_eq_false, laws_FnExactBlockSizes.j0]
    rw [if_neg (by decide), toIntS l0 (by omega) _ (by omega)]
    simp only [Option.bind_some]
    rw [eqIntS_self l0 (by omega) _ (by omega)]
    simp only [Option.bind_some, if_true]
    rw [markIntS l0 1 (by omega) (by omega) _ (by omega)]
    simp only [Option.bind_some]
    rw [if_neg (by omega), eqIntS_self v (by omega) _ (by omega)]
    simp only [Option.bind_some, if_true, laws_FnExactBlockSizes.j1]
    rw [if_neg (by decide), markIntS v 1 (by omega) (by omega) _ (by omega)]
    simp only [Option.bind_some]
    rw [heldIntS v.length 1 (by omega) (by omega) _ (by omega)]
    simp only [Option.bind_some]
    rw [if_neg (by omega), if_pos (by trivial), toIntS l0 (by omega) _ (by omega)]
    simp only [Option.bind_some]
    rw [impl_eq l0 hl _ (by omega), hv]
    simp only [Option.bind_some]
    rw [eqIntS_self v (by omega) _ (by omega)]
    simp only [Option.bind_some, if_true, bne_self_eq_false, laws_FnExactBlockSizes.j2]
    rw [if_neg (by decide), heldIntS v.length 1 (by omega) (by omega) _ (by omega)]
    simp only [Option.bind_some]
    rw [if_neg (by omega), if_pos (by trivial)]
end Go.Proofs.Ytgdglnpgfngdoaa.Pure

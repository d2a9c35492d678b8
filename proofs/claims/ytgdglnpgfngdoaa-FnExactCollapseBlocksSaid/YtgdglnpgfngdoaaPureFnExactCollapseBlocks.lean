/- The statement FnExactCollapseBlocks: for every input the law returns true, and its arguments read afterwards as they read before. -/
import Derived.Test.YtgdglnpgfngdoaaQx20
import Derived.Test.YtgdglnpgfngdoaaQx22
import Derived.Test.YtgdglnpgfngdoaaQx23
import Derived.Test.YtgdglnpgfngdoaaPuBlk
set_option linter.unusedVariables false
set_option linter.unusedSimpArgs false
namespace Go.Proofs.Ytgdglnpgfngdoaa.Pure
open Go.RowKit Go.Proofs.Ytgdglnpgfngdoaa.Q Go.Proofs.Ytgdglnpgfngdoaa.Pu Go.Proofs.YtgdglnpgfngdoaaW.PrintWords Go.Proofs.YtgdglnpgfngdoaaW.PrintLast Go.Proofs.YtgdglnpgfngdoaaW.PrintMore

theorem same_l (k : Nat) : ∀ (l : List Int) (s : Int) (out : List Int) (i : Int), spec_CollapseBlocks.l0 k l s out i = impl_CollapseBlocks.l0 k l s out i := by
  induction k with
  | zero => intros; simp only [spec_CollapseBlocks.l0, impl_CollapseBlocks.l0]
  | succ k ih => intro l s out i; simp only [spec_CollapseBlocks.l0, impl_CollapseBlocks.l0, ih]
def coll (l : List Int) (s : Int) : Nat → Int → List Int → List Int
  | 0, _, out => out
  | d + 1, i, out => if i < l.length then coll l s d (i + s) (out ++ [rd l i / s]) else out
theorem coll_length (l : List Int) (s : Int) : ∀ d i out, (coll l s d i out).length ≤ out.length + d := by
  intro d
  induction d with
  | zero => intros; simp [coll]
  | succ d ih =>
    intro i out
    unfold coll
    split
    · have := ih (i + s) (out ++ [rd l i / s]); simp at this; omega
    · omega
theorem impl_l (l : List Int) (hr : InR l) (hl : l.length ≤ 9) (s : Int) (hs : 2 ≤ s ∧ s ≤ 8) : ∀ (d k : Nat) (i : Int) (out : List Int), 0 ≤ i → l.length ≤ i + d → i ≤ 100 → out.length ≤ i → d < k →
    impl_CollapseBlocks.l0 k l s out i = some (coll l s d i out, true) := by
  intro d
  induction d with
  | zero =>
    intro k i out h0 hi hb ho hk
    obtain ⟨k, rfl⟩ : ∃ m, k = m + 1 := ⟨k - 1, by omega⟩
    simp only [impl_CollapseBlocks.l0]
    rw [if_neg (by omega)]
    rfl
  | succ d ih =>
    intro k i out h0 hi hb ho hk
    obtain ⟨k, rfl⟩ : ∃ m, k = m + 1 := ⟨k - 1, by omega⟩
    simp only [impl_CollapseBlocks.l0]
    unfold coll
    by_cases h : i < (l.length : Int)
    · have h1 := hr.rd h0 h
      rw [if_pos h, if_pos h0, if_pos h, if_neg (by omega), if_pos (by omega), quo _ _ (by omega) hs, w64 _ (by omega)]
      exact ih k (i + s) _ (by omega) (by omega) (by omega) (by simp; omega) (by omega)
    · rw [if_neg h, if_neg h]
def collOf (l : List Int) (s : Int) : List Int × Bool := if IsPat l ∧ blocks l s = true then (coll l s 9 0 [], true) else ([], false)
theorem collOf_len (l : List Int) (s : Int) : (collOf l s).1.length ≤ 9 := by
  unfold collOf
  split
  · have := coll_length l s 9 0 []; simpa using this
  · simp
theorem blocks_size {l : List Int} {s : Int} (h : blocks l s = true) : 2 ≤ s ∧ s < l.length := by
  unfold blocks at h
  split at h
  · rename_i h1; exact ⟨h1.1, h1.2.1⟩
  · cases h
theorem impl_eq (l : List Int) (s : Int) (hl : l.length ≤ 1048576) (k : Nat) (hk : 2000000 ≤ k) : impl_CollapseBlocks.f k l s = some (collOf l s) := by
  obtain ⟨k, rfl⟩ : ∃ m, k = m + 1 := ⟨k - 1, by omega⟩
  unfold impl_CollapseBlocks.f collOf
  rw [isPattern l (by omega) _ (by omega)]
  simp only [Option.bind_some]
  by_cases h : IsPat l
  · have h9 := h.2.1
    rw [decide_eq_true h, if_pos rfl, hasBlocks l h.2.2.1 h9 s _ (by omega)]
    simp only [Option.bind_some, impl_CollapseBlocks.j0]
    cases hb : blocks l s with
    | true =>
      have := blocks_size hb
      rw [if_neg (by decide), if_pos ⟨h, rfl⟩]
      exact impl_l l h.2.2.1 h9 s (by omega) 9 k 0 [] (by omega) (by omega) (by omega) (by simp) (by omega)
    | false => rw [if_pos (by decide), if_neg (by simp)]
  · rw [decide_eq_false h, if_neg (by decide), if_neg (fun hh => h hh.1)]
    simp only [impl_CollapseBlocks.j0, if_true]
theorem spec_eq (l : List Int) (s : Int) (hl : l.length ≤ 1048576) (k : Nat) (hk : 2000000 ≤ k) : spec_CollapseBlocks.f k l s = some (collOf l s) := by
  obtain ⟨k, rfl⟩ : ∃ m, k = m + 1 := ⟨k - 1, by omega⟩
  unfold spec_CollapseBlocks.f collOf
  rw [ptGood l (by omega) _ (by omega)]
  simp only [Option.bind_some]
  by_cases h : IsPat l
  · have h9 := h.2.1
    rw [decide_eq_true h, if_pos rfl, ptBlocks l h.2.2.1 h.1 h9 s _ (by omega)]
    simp only [Option.bind_some, spec_CollapseBlocks.j0]
    cases hb : blocks l s with
    | true =>
      have := blocks_size hb
      rw [if_neg (by decide), if_pos ⟨h, rfl⟩, same_l]
      exact impl_l l h.2.2.1 h9 s (by omega) 9 k 0 [] (by omega) (by omega) (by omega) (by simp) (by omega)
    | false => rw [if_pos (by decide), if_neg (by simp)]
  · rw [decide_eq_false h, if_neg (by decide), if_neg (fun hh => h hh.1)]
    simp only [spec_CollapseBlocks.j0, if_true]
theorem FnExactCollapseBlocks : laws_FnExactCollapseBlocks.Pure := by
  intro l0 a1 _ _ _ _
  refine ⟨2000005, ?_⟩
  unfold laws_FnExactCollapseBlocks.f
  by_cases hb : (l0.length : Int) > 1048576
  · rw [if_pos hb]
  · have hl : l0.length ≤ 1048576 := by omega
    rcases hv : collOf l0 a1 with ⟨v, b⟩
    have hv9 : v.length ≤ 1000000 := by have := Nat.le_trans (collOf_len l0 a1) (show 9 ≤ 1000000 by decide); rw [hv] at this; exact this
    rw [if_neg hb, toIntS l0 (by omega) _ (by omega)]
    simp only [Option.bind_some]
    rw [spec_eq l0 a1 hl _ (by omega), impl_eq l0 a1 hl _ (by omega), hv]
    simp only [Option.bind_some]
    rw [eqIntS_self v (by omega) _ (by omega)]
    simp only [Option.bind_some, if_true, bne_self_eq_false, laws_FnExactCollapseBlocks.j0]
    rw [if_neg (by decide), toIntS l0 (by omega) _ (by omega)]
    simp only [Option.bind_some]
    rw [eqIntS_self l0 (by omega) _ (by omega)]
    simp only [Option.bind_some, if_true]
    rw [markIntS l0 1 (by omega) (by omega) _ (by omega)]
    simp only [Option.bind_some]
    rw [if_neg (by omega), eqIntS_self v (by omega) _ (by omega)]
    simp only [Option.bind_some, if_true, laws_FnExactCollapseBlocks.j1]
    rw [if_neg (by decide), markIntS v 1 (by omega) (by omega) _ (by omega)]
    simp only [Option.bind_some]
    rw [heldIntS v.length 1 (by omega) (by omega) _ (by omega)]
    simp only [Option.bind_some]
    rw [if_neg (by omega), if_pos (by trivial), toIntS l0 (by omega) _ (by omega)]
    simp only [Option.bind_some]
    rw [impl_eq l0 a1 hl _ (by omega), hv]
    simp only [Option.bind_some]
    rw [eqIntS_self v (by omega) _ (by omega)]
    simp only [Option.bind_some, if_true, bne_self_eq_false, laws_FnExactCollapseBlocks.j2]
    rw [if_neg (by decide), heldIntS v.length 1 (by omega) (by omega) _ (by omega)]
    simp only [Option.bind_some]
    rw [if_neg (by omega), if_pos (by trivial)]
end Go.Proofs.Ytgdglnpgfngdoaa.Pure

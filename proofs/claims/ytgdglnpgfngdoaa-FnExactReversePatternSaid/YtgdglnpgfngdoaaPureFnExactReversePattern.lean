/- The statement FnExactReversePattern: for every input the law returns true, and its argument reads afterwards as it read before. -/
import Derived.Test.YtgdglnpgfngdoaaQx3
import Derived.Test.YtgdglnpgfngdoaaQx6
import Derived.Test.YtgdglnpgfngdoaaQx8
import Derived.Test.YtgdglnpgfngdoaaPuPat
set_option linter.unusedVariables false
set_option linter.unusedSimpArgs false
namespace Go.Proofs.Ytgdglnpgfngdoaa.Pure
open Go.RowKit Go.Proofs.Ytgdglnpgfngdoaa.Q Go.Proofs.Ytgdglnpgfngdoaa.Pu Go.Proofs.YtgdglnpgfngdoaaW.PrintWords Go.Proofs.YtgdglnpgfngdoaaW.PrintLast Go.Proofs.YtgdglnpgfngdoaaW.PrintMore

/-- What both loops make. -/
def rev (l : List Int) : Nat → Nat → List Int → List Int
  | 0, _, out => out
  | d + 1, i, out => rev l d (i + 1) (out.set (l.length - 1 - i) ((l.length : Int) - 1 - l.getD i 0))
theorem rev_length (l : List Int) : ∀ d i out, (rev l d i out).length = out.length := by
  intro d
  induction d with
  | zero => intros; rfl
  | succ d ih => intro i out; simp [rev, ih]
theorem rev_impl (l : List Int) (hr : InR l) (hl : l.length ≤ 9) : ∀ (d k i : Nat) (out : List Int), i + d = l.length → out.length = l.length → d < k →
    impl_ReversePattern.l0 k ((l.length : Int) - 1) out l (l.length : Int) (i : Int) = some (rev l d i out, true) := by
  intro d
  induction d with
  | zero =>
    intro k i out hi ho hk
    obtain ⟨k, rfl⟩ : ∃ m, k = m + 1 := ⟨k - 1, by omega⟩
    simp only [impl_ReversePattern.l0]
    rw [if_neg (by omega)]
    rfl
  | succ d ih =>
    intro k i out hi ho hk
    obtain ⟨k, rfl⟩ : ∃ m, k = m + 1 := ⟨k - 1, by omega⟩
    simp only [impl_ReversePattern.l0]
    have := hr _ (mem_getD l i (by omega))
    rw [if_pos (by omega), if_pos (by omega), if_pos (by omega), rd_nat, w64 (_ - (i : Int)) (by omega), w64 (_ - l.getD i 0) (by omega), w64 (_ + 1) (by omega), if_pos (by omega), if_pos (by omega)]
    rw [show ((l.length : Int) - 1 - (i : Int)).toNat = l.length - 1 - i by omega]
    exact ih k (i + 1) _ (by omega) (by simpa using ho) (by omega)
theorem rev_spec (l : List Int) (hr : InR l) (hl : l.length ≤ 9) : ∀ (d k i : Nat) (out : List Int), i + d = l.length → out.length = l.length → d < k →
    spec_ptBack.l0 k (l.length : Int) out l (l.length : Int) (i : Int) = some (rev l d i out) := by
  intro d
  induction d with
  | zero =>
    intro k i out hi ho hk
    obtain ⟨k, rfl⟩ : ∃ m, k = m + 1 := ⟨k - 1, by omega⟩
    simp only [spec_ptBack.l0]
    rw [if_neg (by omega)]
    rfl
  | succ d ih =>
    intro k i out hi ho hk
    obtain ⟨k, rfl⟩ : ∃ m, k = m + 1 := ⟨k - 1, by omega⟩
    simp only [spec_ptBack.l0]
    have := hr _ (mem_getD l i (by omega))
    rw [if_pos (by omega), if_pos (by omega), if_pos (by omega), rd_nat, w64 ((l.length : Int) - 1) (by omega), w64 (_ - (i : Int)) (by omega), w64 (_ - l.getD i 0) (by omega), w64 (_ + 1) (by omega), if_pos (by omega), if_pos (by omega)]
    rw [show ((l.length : Int) - 1 - (i : Int)).toNat = l.length - 1 - i by omega]
    exact ih k (i + 1) _ (by omega) (by simpa using ho) (by omega)
def revOf (l : List Int) : List Int × Bool := if IsPat l then (rev l l.length 0 (List.replicate l.length 0), true) else ([], false)
theorem revOf_len (l : List Int) : (revOf l).1.length ≤ 9 := by
  unfold revOf
  split
  · rename_i h; simp [rev_length]; exact h.2.1
  · simp
theorem impl_eq (l : List Int) (hl : l.length ≤ 1048576) (k : Nat) (hk : 2000000 ≤ k) : impl_ReversePattern.f k l = some (revOf l) := by
  unfold impl_ReversePattern.f revOf
  rw [isPattern l (by omega) k (by omega)]
  simp only [Option.bind_some]
  by_cases h : IsPat l
  · have h9 := h.2.1
    rw [decide_eq_true h, if_pos rfl, if_pos (by omega), if_pos (by omega), w64 _ (by omega), if_pos h]
    exact rev_impl l h.2.2.1 h9 l.length k 0 _ (by omega) (by simp) (by omega)
  · rw [decide_eq_false h, if_neg (by decide), if_neg h]
theorem spec_eq (l : List Int) (hl : l.length ≤ 1048576) (k : Nat) (hk : 2000000 ≤ k) : spec_ReversePattern.f k l = some (revOf l) := by
  unfold spec_ReversePattern.f revOf
  rw [ptGood l (by omega) k (by omega)]
  simp only [Option.bind_some]
  by_cases h : IsPat l
  · have h9 := h.2.1
    unfold spec_ptBack.f
    rw [decide_eq_true h, if_pos rfl, if_pos (by omega), if_pos (by omega), if_pos h]
    have := rev_spec l h.2.2.1 h9 l.length k 0 (List.replicate l.length 0) (by omega) (by simp) (by omega)
    rw [show ((0 : Nat) : Int) = 0 from rfl] at this
    rw [Int.toNat_natCast, this]
    rfl
  · rw [decide_eq_false h, if_neg (by decide), if_neg h]
theorem FnExactReversePattern : laws_FnExactReversePattern.Pure := by
  intro l0 _ _ _
  refine ⟨2000005, ?_⟩
  unfold laws_FnExactReversePattern.f
  by_cases hb : (l0.length : Int) > 1048576
  · rw [if_pos hb]
  · have hl : l0.length ≤ 1048576 := by omega
    rcases hv : revOf l0 with ⟨v, b⟩
    have hv9 : v.length ≤ 1000000 := by have := Nat.le_trans (revOf_len l0) (show 9 ≤ 1000000 by decide); rw [hv] at this; exact this
    rw [if_neg hb, toIntS l0 (by omega) _ (by omega)]
    simp only [Option.bind_some]
    rw [spec_eq l0 hl _ (by omega), impl_eq l0 hl _ (by omega), hv]
    simp only [Option.bind_some]
    rw [eqIntS_self v (by omega) _ (by omega)]
    simp only [Option.bind_some, if_true, bne_self_eq_false, laws_FnExactReversePattern.j0]
    rw [if_neg (by decide), toIntS l0 (by omega) _ (by omega)]
    simp only [Option.bind_some]
    rw [eqIntS_self l0 (by omega) _ (by omega)]
    simp only [Option.bind_some, if_true]
    rw [markIntS l0 1 (by omega) (by omega) _ (by omega)]
    simp only [Option.bind_some]
    rw [if_neg (by omega), eqIntS_self v (by omega) _ (by omega)]
    simp only [Option.bind_some, if_true, laws_FnExactReversePattern.j1]
    rw [if_neg (by decide), markIntS v 1 (by omega) (by omega) _ (by omega)]
    simp only [Option.bind_some]
    rw [heldIntS v.length 1 (by omega) (by omega) _ (by omega)]
    simp only [Option.bind_some]
    rw [if_neg (by omega), if_pos (by trivial), toIntS l0 (by omega) _ (by omega)]
    simp only [Option.bind_some]
    rw [impl_eq l0 hl _ (by omega), hv]
    simp only [Option.bind_some]
    rw [eqIntS_self v (by omega) _ (by omega)]
    simp only [Option.bind_some, if_true, bne_self_eq_false, laws_FnExactReversePattern.j2]
    rw [if_neg (by decide), heldIntS v.length 1 (by omega) (by omega) _ (by omega)]
    simp only [Option.bind_some]
    rw [if_neg (by omega), if_pos (by trivial)]
end Go.Proofs.Ytgdglnpgfngdoaa.Pure

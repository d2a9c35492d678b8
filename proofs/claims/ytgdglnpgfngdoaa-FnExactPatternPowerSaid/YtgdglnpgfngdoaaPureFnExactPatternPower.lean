/- The statement FnExactPatternPower: for every input the law returns true, and its arguments read afterwards as they read before. -/
import Derived.Test.YtgdglnpgfngdoaaQx15
import Derived.Test.YtgdglnpgfngdoaaQx16
import Derived.Test.YtgdglnpgfngdoaaQx17
import Derived.Test.YtgdglnpgfngdoaaQx18
import Derived.Test.YtgdglnpgfngdoaaPuPow
set_option linter.unusedVariables false
set_option linter.unusedSimpArgs false
namespace Go.Proofs.Ytgdglnpgfngdoaa.Pure
open Go.RowKit Go.Proofs.Ytgdglnpgfngdoaa.Q Go.Proofs.Ytgdglnpgfngdoaa.Pu Go.Proofs.YtgdglnpgfngdoaaW.PrintWords Go.Proofs.YtgdglnpgfngdoaaW.PrintLast Go.Proofs.YtgdglnpgfngdoaaW.PrintMore

theorem step_l (l : List Int) (hr : InR l) (hl : l.length ≤ 9) (n : Nat) (hn : n ≤ 1000) : ∀ (d k i : Nat) (c : Int), i + d = n → 0 ≤ c → c < l.length → d < k →
    impl_PatternStep.l0 k l c (n : Int) (i : Int) = some (it l d c, true) := by
  intro d
  induction d with
  | zero =>
    intro k i c hi h0 h1 hk
    obtain ⟨k, rfl⟩ : ∃ m, k = m + 1 := ⟨k - 1, by omega⟩
    simp only [impl_PatternStep.l0]
    rw [if_neg (by omega)]
    rfl
  | succ d ih =>
    intro k i c hi h0 h1 hk
    obtain ⟨k, rfl⟩ : ∃ m, k = m + 1 := ⟨k - 1, by omega⟩
    simp only [impl_PatternStep.l0]
    have := hr.rd h0 h1
    rw [if_pos (by omega), if_pos h0, if_pos h1, w64 _ (by omega)]
    exact ih k (i + 1) (rd l c) (by omega) this.1 this.2 (by omega)
theorem step_f (l : List Int) (h : IsPat l) (n : Nat) (hn : n ≤ 1000) (i : Nat) (hi : i < l.length) (k : Nat) (hk : 2000 ≤ k) : impl_PatternStep.f k l (i : Int) (n : Int) = some (it l n i, true) := by
  obtain ⟨k, rfl⟩ : ∃ m, k = m + 1 := ⟨k - 1, by omega⟩
  have h9 := h.2.1
  unfold impl_PatternStep.f
  rw [isPattern l (by omega) _ (by omega), decide_eq_true h]
  simp only [Option.bind_some, if_true]
  rw [within_b, w64 _ (by omega), decide_eq_true (by omega)]
  simp only [Option.bind_some, if_true]
  rw [within_b, decide_eq_true (by omega)]
  simp only [Option.bind_some, impl_PatternStep.j0]
  rw [if_neg (by decide)]
  exact step_l l h.2.2.1 h9 n hn n k 0 i (by omega) (by omega) (by omega) (by omega)
def powOf (l : List Int) (n : Nat) : List Int × Bool := if IsPat (pows l n l.length 0 []) then (pows l n l.length 0 [], true) else ([], false)
theorem impl_l (l : List Int) (h : IsPat l) (n : Nat) (hn : n ≤ 1000) : ∀ (d k i : Nat) (out : List Int), i + d = l.length → out.length = i → d + 2000 < k →
    impl_PatternPower.l0 k l (n : Int) out (l.length : Int) (i : Int) = some (if IsPat (pows l n d i out) then (pows l n d i out, true) else ([], false)) := by
  have h9 := h.2.1
  intro d
  induction d with
  | zero =>
    intro k i out hi ho hk
    obtain ⟨k, rfl⟩ : ∃ m, k = m + 1 := ⟨k - 1, by omega⟩
    simp only [impl_PatternPower.l0]
    rw [show pows l n 0 i out = out from rfl, if_neg (by omega), isPattern out (by omega) _ (by omega)]
    simp only [Option.bind_some]
    by_cases hp : IsPat out
    · rw [decide_eq_true hp, if_pos rfl, if_pos hp]
    · rw [decide_eq_false hp, if_neg (by decide), if_neg hp]
  | succ d ih =>
    intro k i out hi ho hk
    obtain ⟨k, rfl⟩ : ∃ m, k = m + 1 := ⟨k - 1, by omega⟩
    simp only [impl_PatternPower.l0]
    rw [if_pos (by omega), step_f l h n hn i (by omega) k (by omega)]
    simp only [Option.bind_some]
    rw [if_pos (by omega), w64 _ (by omega)]
    exact ih k (i + 1) _ (by omega) (by simp; omega) (by omega)
def pwOf (l : List Int) (n : Int) : List Int × Bool := if IsPat l ∧ 1 ≤ n ∧ n ≤ 1000 then powOf l n.toNat else ([], false)
theorem pwOf_len (l : List Int) (n : Int) : (pwOf l n).1.length ≤ 9 := by
  unfold pwOf powOf
  split
  · rename_i h
    split
    · simp [pows_length]; exact h.1.2.1
    · simp
  · simp
theorem impl_eq (l : List Int) (n : Int) (hl : l.length ≤ 1048576) (k : Nat) (hk : 2000000 ≤ k) : impl_PatternPower.f k l n = some (pwOf l n) := by
  obtain ⟨k, rfl⟩ : ∃ m, k = m + 1 := ⟨k - 1, by omega⟩
  unfold impl_PatternPower.f pwOf
  rw [isPattern l (by omega) _ (by omega)]
  simp only [Option.bind_some]
  by_cases h : IsPat l
  · have h9 := h.2.1
    rw [decide_eq_true h, if_pos rfl, within_b]
    simp only [Option.bind_some, impl_PatternPower.j0]
    by_cases hn : 1 ≤ n ∧ n ≤ 1000
    · obtain ⟨m, rfl⟩ := Int.eq_ofNat_of_zero_le (show 0 ≤ n by omega)
      rw [decide_eq_true hn, if_neg (by decide), if_pos ⟨h, hn⟩]
      exact impl_l l h m (by omega) l.length k 0 [] (by omega) rfl (by omega)
    · rw [decide_eq_false hn, if_pos (by decide), if_neg (fun hh => hn hh.2)]
  · rw [decide_eq_false h, if_neg (by decide), if_neg (fun hh => h hh.1)]
    simp only [impl_PatternPower.j0, if_true]
theorem spec_eq (l : List Int) (n : Int) (hl : l.length ≤ 1048576) (k : Nat) (hk : 2000000 ≤ k) : spec_PatternPower.f k l n = some (pwOf l n) := by
  unfold spec_PatternPower.f pwOf
  rw [ptGood l (by omega) _ (by omega)]
  simp only [Option.bind_some]
  by_cases h : IsPat l
  · have h9 := h.2.1
    rw [decide_eq_true h, if_pos rfl, l1In_b]
    simp only [Option.bind_some]
    by_cases hn : 1 ≤ n ∧ n ≤ 1000
    · obtain ⟨m, rfl⟩ := Int.eq_ofNat_of_zero_le (show 0 ≤ n by omega)
      have hm : l.length * (m + 2) ≤ 9 * 1002 := Nat.mul_le_mul h9 (by omega)
      have hs : spec_foPower.f k l (m : Int) = some (pows l m l.length 0 []) := by
        unfold spec_foPower.f
        exact foPower_l l h.2.2.1 h9 m (by omega) l.length k 0 [] (by omega) rfl (by omega)
      rw [decide_eq_true hn, if_pos rfl, if_pos ⟨h, hn⟩, hs]
      simp only [Option.bind_some]
      have hlen : (pows l m l.length 0 []).length ≤ 9 := by simp [pows_length]; exact h9
      rw [ptGood _ (by omega) _ (by omega)]
      simp only [Option.bind_some, powOf, Int.toNat_natCast]
      by_cases hp : IsPat (pows l m l.length 0 [])
      · rw [decide_eq_true hp, if_pos rfl, if_pos hp]
      · rw [decide_eq_false hp, if_neg (by decide), if_neg hp]
    · rw [decide_eq_false hn, if_neg (by decide), if_neg (fun hh => hn hh.2)]
  · rw [decide_eq_false h, if_neg (by decide), if_neg (fun hh => h hh.1)]
theorem FnExactPatternPower : laws_FnExactPatternPower.Pure := by
  intro l0 a1 _ _ _ _
  refine ⟨2000005, ?_⟩
  unfold laws_FnExactPatternPower.f
  by_cases hb : (l0.length : Int) > 1048576
  · rw [if_pos hb]
  · have hl : l0.length ≤ 1048576 := by omega
    rcases hv : pwOf l0 a1 with ⟨v, b⟩
    have hv9 : v.length ≤ 1000000 := by have := Nat.le_trans (pwOf_len l0 a1) (show 9 ≤ 1000000 by decide); rw [hv] at this; exact this
    rw [if_neg hb, toIntS l0 (by omega) _ (by omega)]
    simp only [Option.bind_some]
    rw [spec_eq l0 a1 hl _ (by omega), impl_eq l0 a1 hl _ (by omega), hv]
    simp only [Option.bind_some]
    rw [eqIntS_self v (by omega) _ (by omega)]
    simp only [Option.bind_some, if_true, bne_self_eq_false, laws_FnExactPatternPower.j0]
    rw [if_neg (by decide), toIntS l0 (by omega) _ (by omega)]
    simp only [Option.bind_some]
    rw [eqIntS_self l0 (by omega) _ (by omega)]
    simp only [Option.bind_some, if_true]
    rw [markIntS l0 1 (by omega) (by omega) _ (by omega)]
    simp only [Option.bind_some]
    rw [if_neg (by omega), eqIntS_self v (by omega) _ (by omega)]
    simp only [Option.bind_some, if_true, laws_FnExactPatternPower.j1]
    rw [if_neg (by decide), markIntS v 1 (by omega) (by omega) _ (by omega)]
    simp only [Option.bind_some]
    rw [heldIntS v.length 1 (by omega) (by omega) _ (by omega)]
    simp only [Option.bind_some]
    rw [if_neg (by omega), if_pos (by trivial), toIntS l0 (by omega) _ (by omega)]
    simp only [Option.bind_some]
    rw [impl_eq l0 a1 hl _ (by omega), hv]
    simp only [Option.bind_some]
    rw [eqIntS_self v (by omega) _ (by omega)]
    simp only [Option.bind_some, if_true, bne_self_eq_false, laws_FnExactPatternPower.j2]
    rw [if_neg (by decide), heldIntS v.length 1 (by omega) (by omega) _ (by omega)]
    simp only [Option.bind_some]
    rw [if_neg (by omega), if_pos (by trivial)]
end Go.Proofs.Ytgdglnpgfngdoaa.Pure

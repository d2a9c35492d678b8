/- The statement FnExactPeriodsBehind: for every input the law returns true, and its arguments read afterwards as they read before. -/
import Derived.Test.YtgdglnpgfngdoaaQx32
import Derived.Test.YtgdglnpgfngdoaaQx33
import Derived.Test.YtgdglnpgfngdoaaQx34
import Derived.Test.YtgdglnpgfngdoaaQx35
import Derived.Test.YtgdglnpgfngdoaaQx36
import Derived.Test.YtgdglnpgfngdoaaPuPat
set_option linter.unusedVariables false
set_option linter.unusedSimpArgs false
namespace Go.Proofs.Ytgdglnpgfngdoaa.Pure
open Go.RowKit Go.Proofs.Ytgdglnpgfngdoaa.Q Go.Proofs.Ytgdglnpgfngdoaa.Pu Go.Proofs.YtgdglnpgfngdoaaW.PrintWords Go.Proofs.YtgdglnpgfngdoaaW.PrintLast Go.Proofs.YtgdglnpgfngdoaaW.PrintMore

theorem table : ∀ n : Fin 9, ∀ m : Fin 12, ∃ v, impl_forced.f 60 ((n.val + 1 : Nat) : Int) ((m.val + 1 : Nat) : Int) = some v ∧ spec_skForced.f 60 ((n.val + 1 : Nat) : Int) ((m.val + 1 : Nat) : Int) = some v ∧ v.length ≤ 12 := by
  have h : ∀ n : Fin 9, ∀ m : Fin 12, (impl_forced.f 60 ((n.val + 1 : Nat) : Int) ((m.val + 1 : Nat) : Int)).isSome = true ∧ impl_forced.f 60 ((n.val + 1 : Nat) : Int) ((m.val + 1 : Nat) : Int) = spec_skForced.f 60 ((n.val + 1 : Nat) : Int) ((m.val + 1 : Nat) : Int) ∧ ((impl_forced.f 60 ((n.val + 1 : Nat) : Int) ((m.val + 1 : Nat) : Int)).getD []).length ≤ 12 := by decide +kernel
  intro n m
  obtain ⟨h1, h2, h3⟩ := h n m
  obtain ⟨v, hv⟩ := Option.isSome_iff_exists.1 h1
  rw [hv] at h2 h3
  exact ⟨v, hv, h2.symm, h3⟩
theorem forced (n m : Int) (hn : 1 ≤ n ∧ n ≤ 9) (hm : 1 ≤ m ∧ m ≤ 12) : ∃ v : List Int, (∀ k, 60 ≤ k → impl_forced.f k n m = some v) ∧ (∀ k, 60 ≤ k → spec_skForced.f k n m = some v) ∧ v.length ≤ 12 := by
  obtain ⟨v, h1, h2, h3⟩ := table ⟨(n - 1).toNat, by omega⟩ ⟨(m - 1).toNat, by omega⟩
  rw [show (((n - 1).toNat + 1 : Nat) : Int) = n by omega, show (((m - 1).toNat + 1 : Nat) : Int) = m by omega] at h1 h2
  exact ⟨v, fun k hk => at_rounds (impl_forced.mono n m) hk h1, fun k hk => at_rounds (spec_skForced.mono n m) hk h2, h3⟩
theorem both (l : List Int) (n : Int) (hl : l.length ≤ 1048576) : ∃ p : List Int × Bool, p.1.length ≤ 12 ∧ (∀ k, 2000000 ≤ k → impl_PeriodsBehind.f k l n = some p) ∧ ∀ k, 2000000 ≤ k → spec_PeriodsBehind.f k l n = some p := by
  by_cases h : IsPat l ∧ 1 ≤ n ∧ n ≤ 12
  · have h1 := h.1.1
    have h9 := h.1.2.1
    obtain ⟨v, hi, hs, hv⟩ := forced l.length n (by omega) h.2
    refine ⟨(v, true), hv, fun k hk => ?_, fun k hk => ?_⟩
    · unfold impl_PeriodsBehind.f
      rw [isPattern l (by omega) _ (by omega), decide_eq_true h.1]
      simp only [Option.bind_some, if_true]
      rw [within_b, decide_eq_true h.2]
      simp only [Option.bind_some, if_true]
      rw [hi k (by omega)]
      rfl
    · unfold spec_PeriodsBehind.f spec_foLength.f
      rw [ptGood l (by omega) _ (by omega), decide_eq_true h.1]
      simp only [Option.bind_some, if_true]
      rw [l1In_b, decide_eq_true h.2]
      simp only [Option.bind_some, if_true]
      rw [hs k (by omega)]
      rfl
  · refine ⟨([], false), by simp, fun k hk => ?_, fun k hk => ?_⟩
    · unfold impl_PeriodsBehind.f
      rw [isPattern l (by omega) _ (by omega)]
      simp only [Option.bind_some]
      by_cases hp : IsPat l
      · rw [decide_eq_true hp, if_pos rfl, within_b, decide_eq_false (fun hh => h ⟨hp, hh⟩)]
        rfl
      · rw [decide_eq_false hp, if_neg (by decide)]
    · unfold spec_PeriodsBehind.f spec_foLength.f
      rw [ptGood l (by omega) _ (by omega)]
      simp only [Option.bind_some]
      by_cases hp : IsPat l
      · rw [decide_eq_true hp, if_pos rfl, l1In_b, decide_eq_false (fun hh => h ⟨hp, hh⟩)]
        rfl
      · rw [decide_eq_false hp, if_neg (by decide)]
theorem pb (l : List Int) (n : Int) (hl : l.length ≤ 1048576) : ∃ p : List Int × Bool, p.1.length ≤ 12 ∧ (∀ k, 2000000 ≤ k → impl_PeriodsBehind.f k l n = some p) ∧ ∀ k, 2000000 ≤ k → spec_PeriodsBehind.f k l n = some p := both l n hl
noncomputable def pbOf (l : List Int) (n : Int) : List Int × Bool := if h : l.length ≤ 1048576 then (pb l n h).choose else ([], false)
theorem pbOf_all (l : List Int) (n : Int) (hl : l.length ≤ 1048576) : (pbOf l n).1.length ≤ 12 ∧ (∀ k, 2000000 ≤ k → impl_PeriodsBehind.f k l n = some (pbOf l n)) ∧ ∀ k, 2000000 ≤ k → spec_PeriodsBehind.f k l n = some (pbOf l n) := by
  unfold pbOf
  rw [dif_pos hl]
  exact (pb l n hl).choose_spec
theorem FnExactPeriodsBehind : laws_FnExactPeriodsBehind.Pure := by
  intro l0 a1 _ _ _ _
  refine ⟨2000005, ?_⟩
  unfold laws_FnExactPeriodsBehind.f
  by_cases hb : (l0.length : Int) > 1048576
  · rw [if_pos hb]
  · have hl : l0.length ≤ 1048576 := by omega
    rcases hv : pbOf l0 a1 with ⟨v, b⟩
    have hv9 : v.length ≤ 1000000 := by have := Nat.le_trans (pbOf_all l0 a1 hl).1 (show 12 ≤ 1000000 by decide); rw [hv] at this; exact this
    rw [if_neg hb, toIntS l0 (by omega) _ (by omega)]
    simp only [Option.bind_some]
    rw [(pbOf_all l0 a1 hl).2.2 _ (by omega), (pbOf_all l0 a1 hl).2.1 _ (by omega), hv]
    simp only [Option.bind_some]
    rw [eqIntS_self v (by omega) _ (by omega)]
    simp only [Option.bind_some, if_true, bne_self_eq_false, laws_FnExactPeriodsBehind.j0]
    rw [if_neg (by decide), toIntS l0 (by omega) _ (by omega)]
    simp only [Option.bind_some]
    rw [eqIntS_self l0 (by omega) _ (by omega)]
    simp only [Option.bind_some, if_true]
    rw [markIntS l0 1 (by omega) (by omega) _ (by omega)]
    simp only [Option.bind_some]
    rw [if_neg (by omega), eqIntS_self v (by omega) _ (by omega)]
    simp only [Option.bind_some, if_true, laws_FnExactPeriodsBehind.j1]
    rw [if_neg (by decide), markIntS v 1 (by omega) (by omega) _ (by omega)]
    simp only [Option.bind_some]
    rw [heldIntS v.length 1 (by omega) (by omega) _ (by omega)]
    simp only [Option.bind_some]
    rw [if_neg (by omega), if_pos (by trivial), toIntS l0 (by omega) _ (by omega)]
    simp only [Option.bind_some]
    rw [(pbOf_all l0 a1 hl).2.1 _ (by omega), hv]
    simp only [Option.bind_some]
    rw [eqIntS_self v (by omega) _ (by omega)]
    simp only [Option.bind_some, if_true, bne_self_eq_false, laws_FnExactPeriodsBehind.j2]
    rw [if_neg (by decide), heldIntS v.length 1 (by omega) (by omega) _ (by omega)]
    simp only [Option.bind_some]
    rw [if_neg (by omega), if_pos (by trivial)]
end Go.Proofs.Ytgdglnpgfngdoaa.Pure

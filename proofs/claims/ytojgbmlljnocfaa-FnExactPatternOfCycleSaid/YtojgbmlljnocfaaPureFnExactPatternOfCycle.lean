/- The statement FnExactPatternOfCycle: for every input the law returns true, and its argument reads afterwards as it read before. -/
import Derived.Test.YtojgbmlljnocfaaQx3
import Derived.Test.YtojgbmlljnocfaaQx7
import Derived.Test.YtojgbmlljnocfaaQx8
import Derived.Test.YtojgbmlljnocfaaQx10
import Derived.Test.YtojgbmlljnocfaaPuSort
set_option linter.unusedVariables false
set_option linter.unusedSimpArgs false
namespace Go.Proofs.Ytojgbmlljnocfaa.Pure
open Go.RowKit Go.Proofs.Ytojgbmlljnocfaa.Q Go.Proofs.Ytojgbmlljnocfaa.Pu Go.Proofs.YtojgbmlljnocfaaW.PrintWords Go.Proofs.YtojgbmlljnocfaaW.PrintLast Go.Proofs.YtojgbmlljnocfaaW.PrintMore

def Cyc (l : List Int) : Prop := 1 ≤ l.length ∧ l.length ≤ 9 ∧ (∀ x ∈ l, 0 ≤ x ∧ x < (l.length : Int)) ∧ l.getD 0 0 = 0 ∧ l.Nodup
instance (l : List Int) : Decidable (Cyc l) := by unfold Cyc; exact inferInstance
def pcOf (l : List Int) : List Int × Bool := if Cyc l then (ofc l l.length 0 (List.replicate l.length 0), true) else ([], false)
theorem pcOf_len (l : List Int) : (pcOf l).1.length ≤ 9 := by
  unfold pcOf
  split
  · rename_i h; simp [ofc_length]; exact h.2.1
  · simp
theorem impl_eq (l : List Int) (k : Nat) (hk : 2000000 ≤ k) : impl_PatternOfCycle.f k l = some (pcOf l) := by
  unfold impl_PatternOfCycle.f impl_isCyclic.f pcOf
  by_cases h1 : 1 ≤ l.length ∧ l.length ≤ 9
  · rw [decide_eq_true (show (1 : Int) ≤ (l.length : Int) by omega), decide_eq_true (show (l.length : Int) ≤ 9 by omega), Bool.true_and, if_pos rfl]
    rw [show rd l 0 = l.getD 0 0 from rd_nat l 0]
    by_cases h0 : l.getD 0 0 = 0
    · rw [if_pos h0]
      obtain ⟨r, hr, hp, hs⟩ := sorts l h1.1 h1.2 k (by omega)
      rw [hr, numbers l.length (by omega) k (by omega)]
      simp only [Option.bind_some]
      rw [equal r _ (by rw [hp.length_eq]; omega) k (by rw [hp.length_eq]; omega)]
      simp only [Option.bind_some]
      have hi := sorted_iff l r hp hs
      by_cases hc : r = upto l.length
      · obtain ⟨hn, hrg⟩ := hi.1 hc
        rw [decide_eq_true hc, if_pos rfl, ofCycle l hrg h1.2 k (by omega), if_pos ⟨h1.1, h1.2, hrg, h0, hn⟩]
        rfl
      · rw [decide_eq_false hc, if_neg (by decide), if_neg (fun h => hc (hi.2 ⟨h.2.2.2.2, h.2.2.1⟩))]
    · rw [if_neg h0]
      simp only [Option.bind_some]
      rw [if_neg (by decide), if_neg (fun h => h0 h.2.2.2.1)]
  · rw [if_neg (by simp only [Bool.and_eq_true, decide_eq_true_eq]; omega)]
    simp only [Option.bind_some]
    rw [if_neg (by decide), if_neg (fun h => h1 ⟨h.1, h.2.1⟩)]
theorem spec_l (l : List Int) (h9 : l.length ≤ 9) (hrg : ∀ x ∈ l, 0 ≤ x ∧ x < (l.length : Int)) : ∀ (d k i : Nat), i + d = l.length → (l.take i).Nodup → d + 200 < k →
    spec_PatternOfCycle.l0 k l l (l.length : Int) (i : Int) = some (if l.Nodup then (ofc l l.length 0 (List.replicate l.length 0), true) else ([], false)) := by
  intro d
  induction d with
  | zero =>
    intro k i hi hn hk
    obtain ⟨k, rfl⟩ : ∃ m, k = m + 1 := ⟨k - 1, by omega⟩
    simp only [spec_PatternOfCycle.l0]
    rw [if_neg (by omega), ptOf l hrg h9 k (by omega)]
    rw [show i = l.length by omega, List.take_length] at hn
    rw [if_pos hn]
    rfl
  | succ d ih =>
    intro k i hi hn hk
    obtain ⟨k, rfl⟩ : ∃ m, k = m + 1 := ⟨k - 1, by omega⟩
    simp only [spec_PatternOfCycle.l0]
    rw [if_pos (by omega), if_pos (by omega), if_pos (by omega), if_pos (by omega), w64 _ (by omega), rd_nat, Int.toNat_natCast]
    rw [has _ _ (by rw [List.length_take]; omega) k (by rw [List.length_take]; omega)]
    simp only [Option.bind_some]
    by_cases hm : l.getD i 0 ∈ l.take i
    · rw [decide_eq_true hm, if_pos rfl, if_neg (fun h => ((take_nodup l i (by omega)).1 (nodup_take l h (i + 1))).2 hm)]
    · rw [decide_eq_false hm, if_neg (by decide)]
      exact ih k (i + 1) (by omega) ((take_nodup l i (by omega)).2 ⟨hn, hm⟩) (by omega)
theorem spec_eq (l : List Int) (hl : l.length ≤ 1048576) (k : Nat) (hk : 2000000 ≤ k) : spec_PatternOfCycle.f k l = some (pcOf l) := by
  unfold spec_PatternOfCycle.f pcOf
  rw [l1In_b]
  simp only [Option.bind_some]
  obtain ⟨q, rfl⟩ : ∃ q, k = q + 1 := ⟨k - 1, by omega⟩
  by_cases h1 : 1 ≤ l.length ∧ l.length ≤ 9
  · rw [decide_eq_true (show (1 : Int) ≤ (l.length : Int) ∧ (l.length : Int) ≤ 9 by omega), if_pos rfl, w64 _ (by omega), l1All l _ _ (by omega) _ (by omega)]
    simp only [Option.bind_some]
    by_cases h2 : ∀ x ∈ l, 0 ≤ x ∧ x ≤ (l.length : Int) - 1
    · have h3 : ∀ x ∈ l, 0 ≤ x ∧ x < (l.length : Int) := fun x hx => by have := h2 x hx; omega
      rw [decide_eq_true h2, if_pos rfl, if_pos (by omega)]
      rw [show rd l 0 = l.getD 0 0 from rd_nat l 0]
      simp only [spec_PatternOfCycle.j0]
      by_cases h0 : l.getD 0 0 = 0
      · have := spec_l l h1.2 h3 l.length q 0 (by omega) (by simp) (by omega)
        rw [show ((0 : Nat) : Int) = 0 from rfl] at this
        rw [h0, if_neg (by decide), this]
        by_cases hn : l.Nodup
        · rw [if_pos hn, if_pos ⟨h1.1, h1.2, h3, h0, hn⟩]
        · rw [if_neg hn, if_neg (fun h => hn h.2.2.2.2)]
      · rw [if_pos (by simpa using h0), if_neg (fun h => h0 h.2.2.2.1)]
    · rw [decide_eq_false h2, if_neg (by decide)]
      simp only [spec_PatternOfCycle.j0, if_true]
      rw [if_neg (fun h => h2 (fun x hx => by have := h.2.2.1 x hx; omega))]
  · rw [decide_eq_false (by omega), if_neg (by decide)]
    simp only [spec_PatternOfCycle.j0, if_true]
    rw [if_neg (fun h => h1 ⟨h.1, h.2.1⟩)]
theorem FnExactPatternOfCycle : laws_FnExactPatternOfCycle.Pure := by
  intro l0 _ _ _
  refine ⟨2000005, ?_⟩
  unfold laws_FnExactPatternOfCycle.f
  by_cases hb : (l0.length : Int) > 1048576
  · rw [if_pos hb]
  · have hl : l0.length ≤ 1048576 := by omega
    rcases hv : pcOf l0 with ⟨v, b⟩
    have hv9 : v.length ≤ 1000000 := by have := Nat.le_trans (pcOf_len l0) (show 9 ≤ 1000000 by decide); rw [hv] at this; exact this
    rw [if_neg hb, toIntS l0 (by omega) _ (by omega)]
    simp only [Option.bind_some]
    rw [spec_eq l0 hl _ (by omega), impl_eq l0 _ (by omega), hv]
    simp only [Option.bind_some]
    rw [eqIntS_self v (by omega) _ (by omega)]
    simp only [Option.bind_some, if_true, bne_self_eq_false, laws_FnExactPatternOfCycle.j0]
    rw [if_neg (by decide), toIntS l0 (by omega) _ (by omega)]
    simp only [Option.bind_some]
    rw [eqIntS_self l0 (by omega) _ (by omega)]
    simp only [Option.bind_some, if_true]
    rw [markIntS l0 1 (by omega) (by omega) _ (by omega)]
    simp only [Option.bind_some]
    rw [if_neg (by omega), eqIntS_self v (by omega) _ (by omega)]
    simp only [Option.bind_some, if_true, laws_FnExactPatternOfCycle.j1]
    rw [if_neg (by decide), markIntS v 1 (by omega) (by omega) _ (by omega)]
    simp only [Option.bind_some]
    rw [heldIntS v.length 1 (by omega) (by omega) _ (by omega)]
    simp only [Option.bind_some]
    rw [if_neg (by omega), if_pos (by trivial), toIntS l0 (by omega) _ (by omega)]
    simp only [Option.bind_some]
    rw [impl_eq l0 _ (by omega), hv]
    simp only [Option.bind_some]
    rw [eqIntS_self v (by omega) _ (by omega)]
    simp only [Option.bind_some, if_true, bne_self_eq_false, laws_FnExactPatternOfCycle.j2]
    rw [if_neg (by decide), heldIntS v.length 1 (by omega) (by omega) _ (by omega)]
    simp only [Option.bind_some]
    rw [if_neg (by omega), if_pos (by trivial)]
end Go.Proofs.Ytojgbmlljnocfaa.Pure

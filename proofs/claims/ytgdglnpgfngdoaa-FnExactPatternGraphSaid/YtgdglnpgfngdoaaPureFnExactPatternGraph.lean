/- The statement FnExactPatternGraph: for every input the law returns true, and its argument reads afterwards as it read before. -/
import Derived.Test.YtgdglnpgfngdoaaQx3
import Derived.Test.YtgdglnpgfngdoaaQx4
import Derived.Test.YtgdglnpgfngdoaaQx6
import Derived.Test.YtgdglnpgfngdoaaQx7
import Derived.Test.YtgdglnpgfngdoaaQx8
import Derived.Test.YtgdglnpgfngdoaaQx9
import Derived.Test.YtgdglnpgfngdoaaPuGraph
set_option linter.unusedVariables false
set_option linter.unusedSimpArgs false
namespace Go.Proofs.Ytgdglnpgfngdoaa.Pure
open Go.RowKit Go.Proofs.Ytgdglnpgfngdoaa.Q Go.Proofs.Ytgdglnpgfngdoaa.Pu Go.Proofs.YtgdglnpgfngdoaaW.PrintWords Go.Proofs.YtgdglnpgfngdoaaW.PrintLast Go.Proofs.YtgdglnpgfngdoaaW.PrintMore

def Force (l : List Int) : Prop := IsPat l ∧ 2 ≤ l.length
instance (l : List Int) : Decidable (Force l) := by unfold Force; exact inferInstance
def pgOf (l : List Int) : List (List Int) × Bool := if Force l then (graphOf l, true) else ([], false)
theorem impl_eq (l : List Int) (hl : l.length ≤ 1048576) (k : Nat) (hk : 2000000 ≤ k) : impl_PatternGraph.f k l = some (pgOf l) := by
  unfold impl_PatternGraph.f impl_isForcing.f pgOf
  rw [isPattern l (by omega) k (by omega), Option.bind_some]
  by_cases h : IsPat l
  · rw [decide_eq_true h, if_pos rfl, Option.bind_some]
    by_cases h2 : 2 ≤ l.length
    · rw [decide_eq_true (show (l.length : Int) ≥ 2 by omega), if_pos rfl, patternGraph l h.2.2.1 h2 h.2.1 k (by omega), Option.bind_some, if_pos ⟨h, h2⟩]
    · rw [decide_eq_false (show ¬ (l.length : Int) ≥ 2 by omega), if_neg (by decide), if_neg (fun hf => h2 hf.2)]
  · rw [decide_eq_false h, if_neg (by decide), Option.bind_some, if_neg (by decide), if_neg (fun hf => h hf.1)]
theorem spec_eq (l : List Int) (hl : l.length ≤ 1048576) (k : Nat) (hk : 2000000 ≤ k) : spec_PatternGraph.f k l = some (pgOf l) := by
  unfold spec_PatternGraph.f spec_foPattern.f pgOf
  rw [ptGood l (by omega) k (by omega), Option.bind_some]
  by_cases h : IsPat l
  · rw [decide_eq_true h, if_pos rfl, Option.bind_some]
    by_cases h2 : 2 ≤ l.length
    · rw [decide_eq_true (show (l.length : Int) > 1 by omega), if_pos rfl, foGraph l h.2.2.1 h2 h.2.1 k (by omega), Option.bind_some, if_pos ⟨h, h2⟩]
    · rw [decide_eq_false (show ¬ (l.length : Int) > 1 by omega), if_neg (by decide), if_neg (fun hf => h2 hf.2)]
  · rw [decide_eq_false h, if_neg (by decide), Option.bind_some, if_neg (by decide), if_neg (fun hf => h hf.1)]
theorem pgOf_small (l : List Int) : (pgOf l).1.length ≤ 9 ∧ ∀ r ∈ (pgOf l).1, r.length ≤ 9 := by
  unfold pgOf
  split
  · rename_i h
    have h9 := h.1.2.1
    refine ⟨by simp [graphOf]; omega, fun r hr => ?_⟩
    obtain ⟨i, _, rfl⟩ := List.mem_map.1 hr
    rw [rowOf_length]; omega
  · exact ⟨by simp, fun r hr => by simp at hr⟩
theorem eqSS (v : List (List Int)) (h9 : v.length ≤ 9) (hr : ∀ r ∈ v, r.length ≤ 9) : ∀ (d k i : Nat), i + d = v.length → d + 100 ≤ k → laws_eqIntSS.l0 k v v (i : Int) = some true := by
  intro d
  induction d with
  | zero =>
    intro k i hi hk
    obtain ⟨k, rfl⟩ : ∃ q, k = q + 1 := ⟨k - 1, by omega⟩
    rw [laws_eqIntSS.l0, if_neg (by omega)]
  | succ d ih =>
    intro k i hi hk
    obtain ⟨k, rfl⟩ : ∃ q, k = q + 1 := ⟨k - 1, by omega⟩
    have hx : (rd_L1 v (i : Int)).length ≤ 9 := by
      unfold rd_L1
      rw [Int.toNat_natCast, List.getD_eq_getElem?_getD, List.getElem?_eq_getElem (by omega)]
      exact hr _ (List.getElem_mem _)
    rw [laws_eqIntSS.l0, if_pos (by omega), if_pos (by omega), if_pos (by omega), eqIntS_self _ (by omega) k (by omega), Option.bind_some, if_pos rfl, w64 _ (by omega)]
    exact ih k (i + 1) (by omega) (by omega)
/-- Row by row: marks, and how far they come. -/
def marksS : List (List Int) → Nat → List (List Int)
  | [], _ => []
  | x :: t, q => marks (q : Int) x.length :: marksS t (q + x.length)
def endS : List (List Int) → Nat → Nat
  | [], q => q
  | x :: t, q => endS t (q + x.length)
theorem markSS (k : Nat) (hk : 100 ≤ k) : ∀ (v : List (List Int)) (q : Nat), (∀ r ∈ v, r.length ≤ 9) → q + 9 * v.length ≤ 1000 → laws_markIntSS.f k v (q : Int) = some (((endS v q : Nat) : Int), marksS v q) := by
  intro v
  induction v with
  | nil => intro q _ _; rfl
  | cons x t ih =>
    intro q hr hq
    have hx := hr x (by simp)
    rw [List.length_cons] at hq
    rw [laws_markIntSS.f, markIntS x (q : Int) (by omega) (by omega) k (by omega), Option.bind_some]
    have := ih (q + x.length) (fun r h => hr r (by simp [h])) (by omega)
    rw [show ((q + x.length : Nat) : Int) = (q : Int) + x.length by omega] at this
    rw [this, Option.bind_some]
    rfl
theorem marksS_length : ∀ (v : List (List Int)) (q : Nat), (marksS v q).length = v.length := by
  intro v
  induction v with
  | nil => intro q; rfl
  | cons x t ih => intro q; simp [marksS, ih]
theorem heldSS (w : List (List Int)) : ∀ (v : List (List Int)) (k i q : Nat), w.drop i = marksS v q → i + v.length = w.length → (∀ r ∈ v, r.length ≤ 9) → q + 9 * v.length ≤ 1000 → i + v.length ≤ 1000 → v.length + 100 ≤ k → laws_heldIntSS.l0 k w (q : Int) (i : Int) = some ((endS v q : Nat) : Int) := by
  intro v
  induction v with
  | nil =>
    intro k i q hd hl _ _ _ hk
    obtain ⟨k, rfl⟩ : ∃ m, k = m + 1 := ⟨k - 1, by omega⟩
    rw [laws_heldIntSS.l0, if_neg (by simp at hl; omega)]
    rfl
  | cons x t ih =>
    intro k i q hd hl hr hq hi hk
    obtain ⟨k, rfl⟩ : ∃ m, k = m + 1 := ⟨k - 1, by omega⟩
    have hx := hr x (by simp)
    rw [List.length_cons] at hl hq hk hi
    have h0 : rd_L1 w (i : Int) = marks (q : Int) x.length := by
      unfold rd_L1
      have := congrArg (fun z => z.getD 0 []) hd
      rw [Int.toNat_natCast]
      simpa [List.getD_eq_getElem?_getD, marksS] using this
    have h1 : w.drop (i + 1) = marksS t (q + x.length) := by
      have := congrArg (List.drop 1) hd
      simpa [List.drop_drop, marksS] using this
    rw [laws_heldIntSS.l0, if_pos (by omega), if_pos (by omega), h0, heldIntS x.length (q : Int) (by omega) (by omega) k (by omega), Option.bind_some, if_neg (by omega), w64 _ (by omega)]
    have := ih k (i + 1) (q + x.length) h1 (by omega) (fun r h => hr r (by simp [h])) (by omega) (by omega) (by omega)
    rw [show ((q + x.length : Nat) : Int) = (q : Int) + x.length by omega] at this
    exact this
theorem FnExactPatternGraph : laws_FnExactPatternGraph.Pure := by
  intro l0 _ _ _ hl
  have hl' : l0.length ≤ 1048576 := by omega
  obtain ⟨h9, hr⟩ := pgOf_small l0
  have hm := markSS 2000005 (by omega) (pgOf l0).1 1 hr (by omega)
  have hh := heldSS (marksS (pgOf l0).1 1) (pgOf l0).1 2000005 0 1 rfl (by rw [marksS_length]; omega) hr (by omega) (by omega) (by omega)
  refine ⟨2000005, (pgOf l0).1, (pgOf l0).2, _, _, _, _, toIntS l0 (by omega) _ (by omega), spec_eq l0 hl' _ (by omega), impl_eq l0 hl' _ (by omega), ?_, eqIntS_self l0 (by omega) _ (by omega), markIntS l0 1 (by omega) (by omega) _ (by omega), by omega, hm, hh, by omega⟩
  unfold laws_eqIntSS.f
  rw [if_pos rfl]
  exact eqSS _ h9 hr (pgOf l0).1.length 2000005 0 (by omega) (by omega)
end Go.Proofs.Ytgdglnpgfngdoaa.Pure

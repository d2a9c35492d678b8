/- Lists of whole numbers: membership, ranges, and how many different numbers there can be. -/
import Derived.Test.YtgdglnpgfngdoaaQx1
import Derived.Test.YtgdglnpgfngdoaaQx2
import Derived.Test.YtgdglnpgfngdoaaQx4
import Derived.Test.YtgdglnpgfngdoaaPuA
set_option linter.unusedVariables false
set_option linter.unusedSimpArgs false
namespace Go.Proofs.Ytgdglnpgfngdoaa.Pu
open Go.RowKit Go.Proofs.Ytgdglnpgfngdoaa.Q Go.Proofs.YtgdglnpgfngdoaaW.PrintWords Go.Proofs.YtgdglnpgfngdoaaW.PrintLast Go.Proofs.YtgdglnpgfngdoaaW.PrintMore

theorem within_b (a b c : Int) : impl_within.f a b c = some (decide (b ≤ a ∧ a ≤ c)) := by
  rw [within_eq]; simp
theorem l1In_b (a b c : Int) : spec_l1In.f a b c = some (decide (b ≤ a ∧ a ≤ c)) := by
  unfold spec_l1In.f
  by_cases h : b ≤ a
  · rw [if_pos h]; simp [h]
  · rw [if_neg h]; simp [h]

theorem mem_getD (l : List Int) (j : Nat) (h : j < l.length) : l.getD j 0 ∈ l := by
  rw [List.getD_eq_getElem?_getD, List.getElem?_eq_getElem h]
  simp
theorem mem_index (l : List Int) (x : Int) (h : x ∈ l) : ∃ j, j < l.length ∧ l.getD j 0 = x := by
  obtain ⟨j, hj, e⟩ := List.getElem_of_mem h
  exact ⟨j, hj, by rw [List.getD_eq_getElem?_getD, List.getElem?_eq_getElem hj]; simpa using e⟩

theorem has_l (l : List Int) (x : Int) (hb : l.length ≤ 9000000000000000000) : ∀ (d k : Nat) (i : Nat), i + d = l.length → (∀ j, j < i → l.getD j 0 ≠ x) → d < k →
    spec_l1Has.l0 k x l (l.length : Int) (i : Int) = some (decide (x ∈ l)) := by
  intro d
  induction d with
  | zero =>
    intro k i hi hj hk
    obtain ⟨k, rfl⟩ : ∃ m, k = m + 1 := ⟨k - 1, by omega⟩
    simp only [spec_l1Has.l0]
    rw [if_neg (by omega), decide_eq_false]
    intro h
    obtain ⟨j, h1, h2⟩ := mem_index l x h
    exact absurd h2 (hj j (by omega))
  | succ d ih =>
    intro k i hi hj hk
    obtain ⟨k, rfl⟩ : ∃ m, k = m + 1 := ⟨k - 1, by omega⟩
    simp only [spec_l1Has.l0]
    rw [if_pos (by omega), if_pos (by omega), if_pos (by omega), w64 _ (by omega), rd_nat]
    by_cases e : l.getD i 0 = x
    · rw [if_pos e, decide_eq_true (e ▸ mem_getD l i (by omega))]
    · rw [if_neg e]
      exact ih k (i + 1) (by omega) (fun j h => by
        by_cases e2 : j = i
        · rw [e2]; exact e
        · exact hj j (by omega)) (by omega)
theorem has (l : List Int) (x : Int) (hb : l.length ≤ 9000000000000000000) (k : Nat) (hk : l.length < k) : spec_l1Has.f k l x = some (decide (x ∈ l)) := by
  unfold spec_l1Has.f
  exact has_l l x hb l.length k 0 (by omega) (fun j h => by omega) hk
theorem l1All_l (l : List Int) (a b : Int) (hb : l.length ≤ 9000000000000000000) : ∀ (d k : Nat) (i : Nat), i + d = l.length → (∀ j, j < i → a ≤ l.getD j 0 ∧ l.getD j 0 ≤ b) → d < k →
    spec_l1All.l0 k a b l (l.length : Int) (i : Int) = some (decide (∀ x ∈ l, a ≤ x ∧ x ≤ b)) := by
  intro d
  induction d with
  | zero =>
    intro k i hi hj hk
    obtain ⟨k, rfl⟩ : ∃ m, k = m + 1 := ⟨k - 1, by omega⟩
    simp only [spec_l1All.l0]
    rw [if_neg (by omega), decide_eq_true]
    intro x h
    obtain ⟨j, h1, h2⟩ := mem_index l x h
    rw [← h2]; exact hj j (by omega)
  | succ d ih =>
    intro k i hi hj hk
    obtain ⟨k, rfl⟩ : ∃ m, k = m + 1 := ⟨k - 1, by omega⟩
    simp only [spec_l1All.l0]
    rw [if_pos (by omega), if_pos (by omega), if_pos (by omega), w64 _ (by omega), rd_nat, l1In_b]
    simp only [Option.bind_some]
    by_cases e : a ≤ l.getD i 0 ∧ l.getD i 0 ≤ b
    · rw [decide_eq_true e, if_pos rfl]
      exact ih k (i + 1) (by omega) (fun j h => by
        by_cases e2 : j = i
        · rw [e2]; exact e
        · exact hj j (by omega)) (by omega)
    · rw [decide_eq_false e, if_neg (by decide), decide_eq_false (fun h => e (h _ (mem_getD l i (by omega))))]
theorem l1All (l : List Int) (a b : Int) (hb : l.length ≤ 9000000000000000000) (k : Nat) (hk : l.length < k) : spec_l1All.f k l a b = some (decide (∀ x ∈ l, a ≤ x ∧ x ≤ b)) := by
  unfold spec_l1All.f
  exact l1All_l l a b hb l.length k 0 (by omega) (fun j h => by omega) hk

/-- So many different numbers from 0 to n - 1 are n at the most. -/
theorem few (n : Nat) : ∀ (l : List Int), l.Nodup → (∀ x ∈ l, 0 ≤ x ∧ x < n) → l.length ≤ n := by
  induction n with
  | zero =>
    intro l _ h
    cases l with
    | nil => simp
    | cons x t => have := h x (by simp); omega
  | succ n ih =>
    intro l hn h
    by_cases e : (n : Int) ∈ l
    · have h1 := ih (l.erase n) (hn.erase _) (fun x hx => by
        have hx2 := (List.Nodup.mem_erase_iff hn).1 hx
        have := h x hx2.2
        omega)
      have h2 := List.length_erase_of_mem e
      have : 0 < l.length := List.length_pos_of_mem e
      omega
    · have := ih l hn (fun x hx => by
        have h1 := h x hx
        have h2 : x ≠ n := fun e2 => e (e2 ▸ hx)
        omega)
      omega

def InR (l : List Int) : Prop := ∀ x ∈ l, 0 ≤ x ∧ x ≤ (l.length : Int) - 1
theorem InR.rd {l : List Int} (h : InR l) {i : Int} (h0 : 0 ≤ i) (h1 : i < l.length) : 0 ≤ rd l i ∧ rd l i < l.length := by
  obtain ⟨j, rfl⟩ := Int.eq_ofNat_of_zero_le h0
  rw [rd_nat]
  have := h _ (mem_getD l j (by omega))
  omega
end Go.Proofs.Ytgdglnpgfngdoaa.Pu

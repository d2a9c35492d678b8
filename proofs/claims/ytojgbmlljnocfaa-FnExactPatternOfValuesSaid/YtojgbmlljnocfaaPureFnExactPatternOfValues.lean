/- The statement FnExactPatternOfValues: for every input the law returns true, and its argument reads afterwards as it read before. -/
import Derived.Test.YtojgbmlljnocfaaQx11
import Derived.Test.YtojgbmlljnocfaaQx12
import Derived.Test.YtojgbmlljnocfaaQx13
import Derived.Test.YtojgbmlljnocfaaQx14
import Derived.Test.YtojgbmlljnocfaaPuSort
set_option linter.unusedVariables false
set_option linter.unusedSimpArgs false
namespace Go.Proofs.Ytojgbmlljnocfaa.Pure
open Go.RowKit Go.Proofs.Ytojgbmlljnocfaa.Q Go.Proofs.Ytojgbmlljnocfaa.Pu Go.Proofs.YtojgbmlljnocfaaW.PrintWords Go.Proofs.YtojgbmlljnocfaaW.PrintLast Go.Proofs.YtojgbmlljnocfaaW.PrintMore

theorem rank_le (l : List Int) (a : Int) : 0 ≤ rankOf l a ∧ rankOf l a ≤ l.length := by
  unfold rankOf
  have := List.countP_le_length (p := fun b => decide (b < a)) (l := l)
  omega
theorem count_lt (a b : Int) (hab : a < b) : ∀ l : List Int, (l.countP fun x => decide (x < a)) + (if a ∈ l then 1 else 0) ≤ l.countP fun x => decide (x < b) := by
  intro l
  induction l with
  | nil => simp
  | cons y t ih =>
    rw [List.countP_cons, List.countP_cons]
    simp only [List.mem_cons, decide_eq_true_eq]
    by_cases h1 : y < a
    · rw [if_pos h1, if_pos (show y < b by omega)]
      by_cases h2 : a ∈ t
      · rw [if_pos (Or.inr h2)]; rw [if_pos h2] at ih; omega
      · rw [if_neg (by rintro (h | h); omega; exact h2 h)]; omega
    · rw [if_neg h1]
      by_cases h3 : a = y
      · rw [if_pos (Or.inl h3), if_pos (show y < b by omega)]
        have : (t.countP fun x => decide (x < a)) ≤ t.countP fun x => decide (x < b) := by
          by_cases h2 : a ∈ t
          · rw [if_pos h2] at ih; omega
          · rw [if_neg h2] at ih; omega
        omega
      · by_cases h2 : a ∈ t
        · rw [if_pos (Or.inr h2)]; rw [if_pos h2] at ih; omega
        · rw [if_neg (by rintro (h | h); exact h3 h; exact h2 h)]; rw [if_neg h2] at ih; omega
theorem rank_lt (l : List Int) (a b : Int) (ha : a ∈ l) (hab : a < b) : rankOf l a < rankOf l b := by
  unfold rankOf
  have := count_lt a b hab l
  rw [if_pos ha] at this
  omega
theorem count_top (a : Int) : ∀ l : List Int, (l.countP fun x => decide (x < a)) + (if a ∈ l then 1 else 0) ≤ l.length := by
  intro l
  induction l with
  | nil => simp
  | cons y t ih =>
    rw [List.countP_cons, List.length_cons]
    simp only [List.mem_cons, decide_eq_true_eq]
    by_cases h1 : y < a
    · rw [if_pos h1]
      by_cases h2 : a ∈ t
      · rw [if_pos (Or.inr h2)]; rw [if_pos h2] at ih; omega
      · rw [if_neg (by rintro (h | h); omega; exact h2 h)]; rw [if_neg h2] at ih; omega
    · rw [if_neg h1]
      by_cases h2 : a ∈ t
      · rw [if_pos (Or.inr h2)]; rw [if_pos h2] at ih; omega
      · rw [if_neg h2] at ih
        split <;> omega
theorem rank_top (l : List Int) (a : Int) (ha : a ∈ l) : rankOf l a < l.length := by
  unfold rankOf
  have := count_top a l
  rw [if_pos ha] at this
  omega
theorem ranks_in (l : List Int) : ∀ x ∈ ranksOf l, 0 ≤ x ∧ x < (l.length : Int) := by
  intro x hx
  obtain ⟨a, ha, rfl⟩ := List.mem_map.1 hx
  exact ⟨(rank_le l a).1, rank_top l a ha⟩
theorem nodup_map_iff {f : Int → Int} : ∀ l : List Int, (∀ a ∈ l, ∀ b ∈ l, f a = f b → a = b) → ((l.map f).Nodup ↔ l.Nodup) := by
  intro l hf
  constructor
  · intro h
    exact List.Pairwise.imp (fun h e => h (by rw [e])) (List.pairwise_map.1 h)
  · intro h
    unfold List.Nodup
    rw [List.pairwise_map]
    exact List.Pairwise.imp_of_mem (fun ha hb h e => h (hf _ ha _ hb e)) h
theorem ranks_nodup (l : List Int) : (ranksOf l).Nodup ↔ l.Nodup :=
  nodup_map_iff l (fun a ha b hb e => by
    rcases Int.lt_trichotomy a b with h | h | h
    · have := rank_lt l a b ha h; omega
    · exact h
    · have := rank_lt l b a hb h; omega)
def Vals (l : List Int) : Prop := 1 ≤ l.length ∧ l.length ≤ 9 ∧ (∀ x ∈ l, 0 ≤ x ∧ x ≤ 1000000) ∧ l.Nodup
instance (l : List Int) : Decidable (Vals l) := by unfold Vals; exact inferInstance
def pvOf (l : List Int) : List Int × Bool := if Vals l then (ofc (ranksOf l) l.length 0 (List.replicate l.length 0), true) else ([], false)
theorem pvOf_len (l : List Int) : (pvOf l).1.length ≤ 9 := by
  unfold pvOf
  split
  · rename_i h; simp [ofc_length]; exact h.2.1
  · simp
theorem ranks_length (l : List Int) : (ranksOf l).length = l.length := by simp [ranksOf]
theorem any_iff (l : List Int) : (l.any fun x => !(decide (0 ≤ x) && decide (x ≤ 1000000))) = !decide (∀ x ∈ l, 0 ≤ x ∧ x ≤ 1000000) := by
  by_cases h : ∀ x ∈ l, 0 ≤ x ∧ x ≤ 1000000
  · rw [decide_eq_true h, Bool.not_true, List.any_eq_false]
    intro x hx
    have := h x hx
    simp [this.1, this.2]
  · rw [decide_eq_false h, Bool.not_false, List.any_eq_true]
    apply Classical.byContradiction
    intro hn
    apply h
    intro x hx
    apply Classical.byContradiction
    intro hc
    exact hn ⟨x, hx, by simp only [Bool.not_eq_true', Bool.and_eq_false_iff, decide_eq_false_iff_not]; omega⟩
theorem impl_eq (l : List Int) (k : Nat) (hk : 2000000 ≤ k) : impl_PatternOfValues.f k l = some (pvOf l) := by
  unfold impl_PatternOfValues.f pvOf
  by_cases h1 : 1 ≤ l.length ∧ l.length ≤ 9
  · rw [decide_eq_true (show (1 : Int) ≤ (l.length : Int) by omega), decide_eq_true (show (l.length : Int) ≤ 9 by omega), Bool.true_and, if_pos rfl, any_iff]
    by_cases h2 : ∀ x ∈ l, 0 ≤ x ∧ x ≤ 1000000
    · rw [decide_eq_true h2, if_neg (by decide)]
      have hl := ranks_length l
      obtain ⟨r, hr, hp, hs⟩ := sorts (ranksOf l) (by omega) (by omega) k (by omega)
      rw [hr, Option.bind_some, numbers l.length (by omega) k (by omega), Option.bind_some]
      rw [equal r _ (by rw [hp.length_eq]; omega) k (by rw [hp.length_eq]; omega), Option.bind_some]
      have hi := sorted_iff (ranksOf l) r hp hs
      rw [hl] at hi
      by_cases hc : r = upto l.length
      · obtain ⟨hn, hrg⟩ := hi.1 hc
        rw [decide_eq_true hc, if_pos rfl, ofCycle (ranksOf l) (by rw [hl]; exact hrg) (by omega) k (by omega), Option.bind_some, if_pos ⟨h1.1, h1.2, h2, (ranks_nodup l).1 hn⟩, hl]
      · rw [decide_eq_false hc, if_neg (by decide), if_neg (fun h => hc (hi.2 ⟨(ranks_nodup l).2 h.2.2.2, ranks_in l⟩))]
    · rw [decide_eq_false h2, if_pos (by decide), if_neg (fun h => h2 h.2.2.1)]
  · rw [if_neg (by simp only [Bool.and_eq_true, decide_eq_true_eq]; omega), if_neg (fun h => h1 ⟨h.1, h.2.1⟩)]
theorem spec_in (l : List Int) (h9 : l.length ≤ 9) (pl : List Int) (i : Nat) (hi : i < l.length) (hpl : pl.length ≤ 9) (R : List Int × Bool) (B : Nat)
    (next : ∀ k x, B ≤ k → x = pl ++ [rankOf l (l.getD i 0)] → spec_PatternOfValues.l0 k l x l (l.length : Int) ((i + 1 : Nat) : Int) = some R) :
    ∀ (d k j c : Nat), j + d = l.length → c ≤ j → c = ((l.take j).countP fun b => decide (b < l.getD i 0)) → d + B + 1 ≤ k →
    spec_PatternOfValues.l1 k l pl (l.getD i 0) (c : Int) l (l.length : Int) (i : Int) l (l.length : Int) (j : Int) = some R := by
  intro d
  induction d with
  | zero =>
    intro k j c hj hc he hk
    obtain ⟨k, rfl⟩ : ∃ m, k = m + 1 := ⟨k - 1, by omega⟩
    rw [spec_PatternOfValues.l1]
    rw [if_neg (by omega), if_pos (by omega), w64 _ (by omega)]
    exact next k _ (by omega) (by rw [he, show j = l.length by omega, List.take_length]; rfl)
  | succ d ih =>
    intro k j c hj hc he hk
    obtain ⟨k, rfl⟩ : ∃ m, k = m + 1 := ⟨k - 1, by omega⟩
    rw [spec_PatternOfValues.l1]
    rw [if_pos (by omega), if_pos (by omega), if_pos (by omega), w64 ((c : Int) + 1) (by omega), w64 ((j : Int) + 1) (by omega), rd_nat]
    have ht := take_snoc_getD l j 0 (by omega)
    by_cases h : l.getD j 0 < l.getD i 0
    · rw [if_pos h]
      exact ih k (j + 1) (c + 1) (by omega) (by omega) (by rw [ht, List.countP_append, ← he, List.countP_singleton, decide_eq_true h]; rfl) (by omega)
    · rw [if_neg h]
      exact ih k (j + 1) c (by omega) (by omega) (by rw [ht, List.countP_append, ← he, List.countP_singleton, decide_eq_false h]; rfl) (by omega)
theorem spec_l (l : List Int) (h9 : l.length ≤ 9) : ∀ (d k i : Nat), i + d = l.length → (l.take i).Nodup → d * 400 + 400 ≤ k →
    spec_PatternOfValues.l0 k l ((ranksOf l).take i) l (l.length : Int) (i : Int) = some (if l.Nodup then (ofc (ranksOf l) l.length 0 (List.replicate l.length 0), true) else ([], false)) := by
  intro d
  induction d with
  | zero =>
    intro k i hi hn hk
    obtain ⟨k, rfl⟩ : ∃ m, k = m + 1 := ⟨k - 1, by omega⟩
    rw [spec_PatternOfValues.l0]
    have hl := ranks_length l
    rw [show i = l.length by omega, List.take_length] at hn
    rw [if_neg (by omega), show (ranksOf l).take i = ranksOf l from List.take_of_length_le (by omega), ptOf (ranksOf l) (by rw [hl]; exact ranks_in l) (by omega) k (by omega), Option.bind_some, if_pos hn, hl]
  | succ d ih =>
    intro k i hi hn hk
    obtain ⟨k, rfl⟩ : ∃ m, k = m + 1 := ⟨k - 1, by omega⟩
    rw [spec_PatternOfValues.l0]
    rw [if_pos (by omega), if_pos (by omega), if_pos (by omega), if_pos (by omega), rd_nat, Int.toNat_natCast]
    rw [has _ _ (by rw [List.length_take]; omega) k (by rw [List.length_take]; omega), Option.bind_some]
    by_cases hm : l.getD i 0 ∈ l.take i
    · rw [decide_eq_true hm, if_pos rfl, if_neg (fun h => ((take_nodup l i (by omega)).1 (nodup_take l h (i + 1))).2 hm)]
    · rw [decide_eq_false hm, if_neg (by decide)]
      have h1 : (ranksOf l).take (i + 1) = (ranksOf l).take i ++ [rankOf l (l.getD i 0)] := by
        rw [take_snoc_getD (ranksOf l) i 0 (by rw [ranks_length]; omega)]
        simp [ranksOf, List.getD_eq_getElem?_getD, show i < l.length by omega]
      obtain ⟨B, hB⟩ : ∃ B, B = d * 400 + 400 := ⟨_, rfl⟩
      have hkB : l.length + B + 1 ≤ k := by omega
      have := spec_in l h9 ((ranksOf l).take i) i (by omega) (by rw [List.length_take]; omega) _ B (fun k2 x hk2 hx => by
        rw [hx, ← h1]
        have hk3 : d * 400 + 400 ≤ k2 := by rw [← hB]; exact hk2
        have hi3 : i + 1 + d = l.length := by omega
        exact ih k2 (i + 1) hi3 ((take_nodup l i (by omega)).2 ⟨hn, hm⟩) hk3) l.length k 0 0 (by omega) (Nat.le_refl _) (by simp) hkB
      exact this
theorem spec_eq (l : List Int) (hl : l.length ≤ 1048576) (k : Nat) (hk : 2000000 ≤ k) : spec_PatternOfValues.f k l = some (pvOf l) := by
  unfold spec_PatternOfValues.f pvOf
  rw [l1In_b, Option.bind_some]
  obtain ⟨q, rfl⟩ : ∃ q, k = q + 1 := ⟨k - 1, by omega⟩
  by_cases h1 : 1 ≤ l.length ∧ l.length ≤ 9
  · rw [decide_eq_true (show (1 : Int) ≤ (l.length : Int) ∧ (l.length : Int) ≤ 9 by omega), if_pos rfl, l1All l 0 1000000 (by omega) (q + 1) (by omega), Option.bind_some]
    by_cases h2 : ∀ x ∈ l, 0 ≤ x ∧ x ≤ 1000000
    · have := spec_l l h1.2 l.length q 0 (by omega) (by simp) (by omega)
      rw [show ((0 : Nat) : Int) = 0 from rfl, List.take_zero] at this
      rw [decide_eq_true h2, spec_PatternOfValues.j0, if_neg (by decide), this]
      by_cases hn : l.Nodup
      · rw [if_pos hn, if_pos ⟨h1.1, h1.2, h2, hn⟩]
      · rw [if_neg hn, if_neg (fun h => hn h.2.2.2)]
    · rw [decide_eq_false h2, spec_PatternOfValues.j0, if_pos (by decide), if_neg (fun h => h2 h.2.2.1)]
  · rw [decide_eq_false (by omega), if_neg (by decide), spec_PatternOfValues.j0, if_pos rfl, if_neg (fun h => h1 ⟨h.1, h.2.1⟩)]
theorem FnExactPatternOfValues : laws_FnExactPatternOfValues.Pure := by
  intro l0 _ _ _
  refine ⟨2000005, ?_⟩
  unfold laws_FnExactPatternOfValues.f
  by_cases hb : (l0.length : Int) > 1048576
  · rw [if_pos hb]
  · have hl : l0.length ≤ 1048576 := by omega
    rcases hv : pvOf l0 with ⟨v, b⟩
    have hv9 : v.length ≤ 1000000 := by have := Nat.le_trans (pvOf_len l0) (show 9 ≤ 1000000 by decide); rw [hv] at this; exact this
    rw [if_neg hb, toIntS l0 (by omega) _ (by omega)]
    simp only [Option.bind_some]
    rw [spec_eq l0 hl _ (by omega), impl_eq l0 _ (by omega), hv]
    simp only [Option.bind_some]
    rw [eqIntS_self v (by omega) _ (by omega)]
    simp only [Option.bind_some, if_true, bne_self_eq_false, laws_FnExactPatternOfValues.j0]
    rw [if_neg (by decide), toIntS l0 (by omega) _ (by omega)]
    simp only [Option.bind_some]
    rw [eqIntS_self l0 (by omega) _ (by omega)]
    simp only [Option.bind_some, if_true]
    rw [markIntS l0 1 (by omega) (by omega) _ (by omega)]
    simp only [Option.bind_some]
    rw [if_neg (by omega), eqIntS_self v (by omega) _ (by omega)]
    simp only [Option.bind_some, if_true, laws_FnExactPatternOfValues.j1]
    rw [if_neg (by decide), markIntS v 1 (by omega) (by omega) _ (by omega)]
    simp only [Option.bind_some]
    rw [heldIntS v.length 1 (by omega) (by omega) _ (by omega)]
    simp only [Option.bind_some]
    rw [if_neg (by omega), if_pos (by trivial), toIntS l0 (by omega) _ (by omega)]
    simp only [Option.bind_some]
    rw [impl_eq l0 _ (by omega), hv]
    simp only [Option.bind_some]
    rw [eqIntS_self v (by omega) _ (by omega)]
    simp only [Option.bind_some, if_true, bne_self_eq_false, laws_FnExactPatternOfValues.j2]
    rw [if_neg (by decide), heldIntS v.length 1 (by omega) (by omega) _ (by omega)]
    simp only [Option.bind_some]
    rw [if_neg (by omega), if_pos (by trivial)]
end Go.Proofs.Ytojgbmlljnocfaa.Pure

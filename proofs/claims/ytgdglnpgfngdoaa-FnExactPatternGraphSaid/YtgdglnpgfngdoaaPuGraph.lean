/- The graph of a pattern: the program's and the reference's come to one table. -/
import Derived.Test.YtgdglnpgfngdoaaQx3
import Derived.Test.YtgdglnpgfngdoaaQx4
import Derived.Test.YtgdglnpgfngdoaaQx6
import Derived.Test.YtgdglnpgfngdoaaQx7
import Derived.Test.YtgdglnpgfngdoaaQx13
import Derived.Test.YtgdglnpgfngdoaaPuPat
set_option linter.unusedVariables false
set_option linter.unusedSimpArgs false
namespace Go.Proofs.Ytgdglnpgfngdoaa.Pu
open Go.RowKit Go.Proofs.Ytgdglnpgfngdoaa.Q Go.Proofs.YtgdglnpgfngdoaaW.PrintWords Go.Proofs.YtgdglnpgfngdoaaW.PrintLast Go.Proofs.YtgdglnpgfngdoaaW.PrintMore

theorem empty_l (m : Nat) (hm : m ≤ 1000) : ∀ (d k i : Nat) (xs : List (List Int)), i + d = m → xs.length = m → (∀ j, j < i → xs.getD j [] = List.replicate m 0) → d < k →
    impl_emptyGraph.l0 k (m : Int) xs (m : Int) (i : Int) = some (zeroG m) := by
  intro d
  induction d with
  | zero =>
    intro k i xs hi hl hj hk
    obtain ⟨k, rfl⟩ : ∃ q, k = q + 1 := ⟨k - 1, by omega⟩
    rw [impl_emptyGraph.l0, if_neg (by omega)]
    have : xs = zeroG m := by
      apply List.ext_getElem (by simp [zeroG, hl])
      intro j h1 h2
      have := hj j (by omega)
      rw [List.getD_eq_getElem?_getD, List.getElem?_eq_getElem h1] at this
      simpa [zeroG] using this
    rw [this]
  | succ d ih =>
    intro k i xs hi hl hj hk
    obtain ⟨k, rfl⟩ : ∃ q, k = q + 1 := ⟨k - 1, by omega⟩
    rw [impl_emptyGraph.l0, if_pos (by omega), if_pos (by omega), if_pos (by omega), if_pos (by omega), if_pos (by omega), w64 _ (by omega), Int.toNat_natCast, Int.toNat_natCast]
    refine ih k (i + 1) _ (by omega) (by rw [List.length_set]; exact hl) (fun j h => ?_) (by omega)
    rw [getD_setL _ _ _ _ (by omega)]
    split
    · rfl
    · exact hj j (by omega)
theorem empty (m : Nat) (hm : m ≤ 1000) (k : Nat) (hk : m < k) : impl_emptyGraph.f k (m : Int) = some (zeroG m) := by
  unfold impl_emptyGraph.f
  rw [if_pos (by omega), if_pos (by omega), Option.bind_some, List.length_replicate, Int.toNat_natCast]
  exact empty_l m hm m k 0 _ (by omega) (by simp) (fun j h => by omega) hk

/-- Ones from c on, d of them. -/
def fill : Nat → Nat → List Int → List Int
  | 0, _, row => row
  | d + 1, c, row => fill d (c + 1) (row.set c 1)
theorem fill_length : ∀ d c row, (fill d c row).length = row.length := by
  intro d
  induction d with
  | zero => intros; rfl
  | succ d ih => intro c row; simp [fill, ih]
def lo (l : List Int) (i : Nat) : Nat := (mn (l.getD i 0) (l.getD (i + 1) 0)).toNat
def hi (l : List Int) (i : Nat) : Nat := (mx (l.getD i 0) (l.getD (i + 1) 0)).toNat
def rowOf (l : List Int) (i : Nat) : List Int := fill (hi l i - lo l i) (lo l i) (List.replicate (l.length - 1) 0)
theorem rowOf_length (l : List Int) (i : Nat) : (rowOf l i).length = l.length - 1 := by simp [rowOf, fill_length]
def graphOf (l : List Int) : List (List Int) := (List.range (l.length - 1)).map (rowOf l)
theorem bounds (l : List Int) (hr : InR l) (i : Nat) (h : i + 1 < l.length) :
    mn (l.getD i 0) (l.getD (i + 1) 0) = (lo l i : Int) ∧ mx (l.getD i 0) (l.getD (i + 1) 0) = (hi l i : Int) ∧ lo l i ≤ hi l i ∧ hi l i ≤ l.length - 1 := by
  have h1 := hr _ (mem_getD l i (by omega))
  have h2 := hr _ (mem_getD l (i + 1) h)
  unfold lo hi mn mx
  split <;> split <;> omega
theorem pg1 (l : List Int) (hr : InR l) (h9 : l.length ≤ 9) (i : Nat) (hi1 : i + 1 < l.length) (B : Nat) (R : List (List Int))
    (x11 : Int) (xs0 : List (List Int)) (hx0 : xs0.length = l.length - 1)
    (next : ∀ k, B ≤ k → impl_patternGraph.l0 k l (xs0.set i (fill (hi l i - lo l i) (lo l i) (xs0.getD i []))) x11 ((i + 1 : Nat) : Int) = some R) :
    (xs0.getD i []).length = l.length - 1 → ∀ (d k c : Nat) (row : List Int), c + d = hi l i → row.length = l.length - 1 → fill d c row = fill (hi l i - lo l i) (lo l i) (xs0.getD i []) → d + B + 1 ≤ k →
    impl_patternGraph.l1 k l (xs0.set i row) (i : Int) (c : Int) x11 (i : Int) = some R := by
  intro hrow d
  obtain ⟨e1, e2, e3, e4⟩ := bounds l hr i hi1
  induction d with
  | zero =>
    intro k c row hc hl hf hk
    obtain ⟨k, rfl⟩ : ∃ q, k = q + 1 := ⟨k - 1, by omega⟩
    rw [impl_patternGraph.l1, w64 ((i : Int) + 1) (by omega), if_pos (by omega), if_pos (by omega), if_pos (by omega), if_pos (by omega), rd_nat, show (i : Int) + 1 = ((i + 1 : Nat) : Int) by omega, rd_nat, e2, if_neg (by omega)]
    rw [show row = fill (hi l i - lo l i) (lo l i) (xs0.getD i []) from hf]
    exact next k (by omega)
  | succ d ih =>
    intro k c row hc hl hf hk
    obtain ⟨k, rfl⟩ : ∃ q, k = q + 1 := ⟨k - 1, by omega⟩
    have hg : rd_L1 (xs0.set i row) (i : Int) = row := by unfold rd_L1; rw [Int.toNat_natCast, getD_setL _ _ _ _ (by omega), if_pos rfl]
    rw [impl_patternGraph.l1, w64 ((i : Int) + 1) (by omega), if_pos (by omega), if_pos (by omega), if_pos (by omega), if_pos (by omega), rd_nat, show (i : Int) + 1 = ((i + 1 : Nat) : Int) by omega, rd_nat, e2, if_pos (by omega), if_pos (by rw [List.length_set]; omega), if_pos (by omega), hg, if_pos (by omega), w64 _ (by omega), Int.toNat_natCast, Int.toNat_natCast, List.set_set]
    exact ih k (c + 1) (row.set c 1) (by omega) (by rw [List.length_set]; exact hl) hf (by omega)
theorem pg0 (l : List Int) (hr : InR l) (h9 : l.length ≤ 9) : ∀ (d k i : Nat) (xs : List (List Int)), i + d = l.length - 1 → xs.length = l.length - 1 →
    (∀ j, j < i → xs.getD j [] = rowOf l j) → (∀ j, i ≤ j → j < l.length - 1 → xs.getD j [] = List.replicate (l.length - 1) 0) → d * 20 + 1 ≤ k →
    impl_patternGraph.l0 k l xs ((l.length - 1 : Nat) : Int) (i : Int) = some (graphOf l) := by
  intro d
  induction d with
  | zero =>
    intro k i xs hi hl hj hz hk
    obtain ⟨k, rfl⟩ : ∃ q, k = q + 1 := ⟨k - 1, by omega⟩
    rw [impl_patternGraph.l0, if_neg (by omega)]
    have : xs = graphOf l := by
      apply List.ext_getElem (by simp [graphOf, hl])
      intro j h1 h2
      have := hj j (by omega)
      rw [List.getD_eq_getElem?_getD, List.getElem?_eq_getElem h1] at this
      simpa [graphOf] using this
    rw [this]
  | succ d ih =>
    intro k i xs hi' hl hj hz hk
    obtain ⟨k, rfl⟩ : ∃ q, k = q + 1 := ⟨k - 1, by omega⟩
    have hi1 : i + 1 < l.length := by omega
    obtain ⟨e1, e2, e3, e4⟩ := bounds l hr i hi1
    rw [impl_patternGraph.l0, w64 ((i : Int) + 1) (by omega), if_pos (by omega), if_pos (by omega), if_pos (by omega), if_pos (by omega), if_pos (by omega), rd_nat, show (i : Int) + 1 = ((i + 1 : Nat) : Int) by omega, rd_nat, e1]
    have hzi := hz i (Nat.le_refl _) (by omega)
    have h1 := pg1 l hr h9 i hi1 (d * 20 + 1) (graphOf l) ((l.length - 1 : Nat) : Int) xs hl (fun k hk => by
      refine ih k (i + 1) _ (by omega) (by rw [List.length_set]; exact hl) (fun j h => ?_) (fun j h1 h2 => ?_) hk
      · rw [getD_setL _ _ _ _ (by omega)]
        split
        · rename_i e; subst e; rw [hzi]; rfl
        · exact hj j (by omega)
      · rw [getD_setL _ _ _ _ (by omega), if_neg (by omega)]
        exact hz j (by omega) h2) (by rw [hzi]; simp) (hi l i - lo l i) k (lo l i) (xs.getD i []) (by omega) (by rw [hzi]; simp) rfl (by omega)
    rw [set_self xs i (by omega)] at h1
    exact h1
theorem patternGraph (l : List Int) (hr : InR l) (h2 : 2 ≤ l.length) (h9 : l.length ≤ 9) (k : Nat) (hk : 1000 ≤ k) : impl_patternGraph.f k l = some (graphOf l) := by
  unfold impl_patternGraph.f
  rw [w64 _ (by omega), show (l.length : Int) - 1 = ((l.length - 1 : Nat) : Int) by omega, empty (l.length - 1) (by omega) k (by omega), Option.bind_some, (zeroG_sq _).1]
  exact pg0 l hr h9 (l.length - 1) k 0 _ (by omega) (zeroG_sq _).1 (fun j h => by omega) (fun j _ h => by simp [zeroG, List.getD_eq_getElem?_getD, h]) (by omega)
theorem least (a b : Int) : spec_l1Least.f a b = some (mn a b) := by
  unfold spec_l1Least.f mn
  repeat' split
  all_goals first | rfl | (congr 1; omega) | omega
theorem greatest (a b : Int) : spec_l1Most.f a b = some (mx a b) := by
  unfold spec_l1Most.f mx
  repeat' split
  all_goals first | rfl | (congr 1; omega) | omega
theorem sg1 (l : List Int) (hr : InR l) (h9 : l.length ≤ 9) (i : Nat) (hi1 : i + 1 < l.length) (B : Nat) (R : List (List Int)) (xs : List (List Int)) (hx : xs.length ≤ 9)
    (next : ∀ k, B ≤ k → spec_foGraph.l0 k l (xs ++ [rowOf l i]) ((i + 2 : Nat) : Int) = some R) :
    ∀ (d k c : Nat) (row : List Int), c + d = hi l i → row.length = l.length - 1 → fill d c row = rowOf l i → d + B + 1 ≤ k →
    spec_foGraph.l1 k l xs ((i + 1 : Nat) : Int) row (c : Int) = some R := by
  obtain ⟨e1, e2, e3, e4⟩ := bounds l hr i hi1
  intro d
  induction d with
  | zero =>
    intro k c row hc hl hf hk
    obtain ⟨k, rfl⟩ : ∃ q, k = q + 1 := ⟨k - 1, by omega⟩
    rw [spec_foGraph.l1, w64 (((i + 1 : Nat) : Int) - 1) (by omega), show ((i + 1 : Nat) : Int) - 1 = (i : Int) by omega, if_pos (by omega), if_pos (by omega), if_pos (by omega), if_pos (by omega), rd_nat, rd_nat, greatest, e2, Option.bind_some, if_neg (by omega), if_pos (by omega), w64 _ (by omega)]
    rw [show row = rowOf l i from hf]
    exact next k (by omega)
  | succ d ih =>
    intro k c row hc hl hf hk
    obtain ⟨k, rfl⟩ : ∃ q, k = q + 1 := ⟨k - 1, by omega⟩
    rw [spec_foGraph.l1, w64 (((i + 1 : Nat) : Int) - 1) (by omega), show ((i + 1 : Nat) : Int) - 1 = (i : Int) by omega, if_pos (by omega), if_pos (by omega), if_pos (by omega), if_pos (by omega), rd_nat, rd_nat, greatest, e2, Option.bind_some, if_pos (by omega), if_pos (by omega), if_pos (by omega), w64 _ (by omega), Int.toNat_natCast]
    exact ih k (c + 1) (row.set c 1) (by omega) (by rw [List.length_set]; exact hl) hf (by omega)
theorem sg0 (l : List Int) (hr : InR l) (h2 : 2 ≤ l.length) (h9 : l.length ≤ 9) : ∀ (d k i : Nat), i + d = l.length - 1 → d * 20 + 1 ≤ k →
    spec_foGraph.l0 k l ((List.range i).map (rowOf l)) ((i + 1 : Nat) : Int) = some (graphOf l) := by
  intro d
  induction d with
  | zero =>
    intro k i hi hk
    obtain ⟨k, rfl⟩ : ∃ q, k = q + 1 := ⟨k - 1, by omega⟩
    rw [spec_foGraph.l0, if_neg (by omega), show i = l.length - 1 by omega]
    rfl
  | succ d ih =>
    intro k i hi' hk
    obtain ⟨k, rfl⟩ : ∃ q, k = q + 1 := ⟨k - 1, by omega⟩
    have hi1 : i + 1 < l.length := by omega
    obtain ⟨e1, e2, e3, e4⟩ := bounds l hr i hi1
    rw [spec_foGraph.l0, w64 ((l.length : Int) - 1) (by omega), w64 (((i + 1 : Nat) : Int) - 1) (by omega), show ((i + 1 : Nat) : Int) - 1 = (i : Int) by omega, if_pos (by omega), if_pos (by omega), if_pos (by omega), if_pos (by omega), if_pos (by omega), if_pos (by omega), rd_nat, rd_nat, least, e1, Option.bind_some]
    rw [show ((l.length : Int) - 1).toNat = l.length - 1 by omega]
    refine sg1 l hr h9 i hi1 (d * 20 + 1) (graphOf l) _ (by simp; omega) (fun k hk => ?_) (hi l i - lo l i) k (lo l i) _ (by omega) (by simp) rfl (by omega)
    have := ih k (i + 1) (by omega) hk
    rw [List.range_succ, List.map_append] at this
    exact this
theorem foGraph (l : List Int) (hr : InR l) (h2 : 2 ≤ l.length) (h9 : l.length ≤ 9) (k : Nat) (hk : 1000 ≤ k) : spec_foGraph.f k l = some (graphOf l) := by
  unfold spec_foGraph.f
  exact sg0 l hr h2 h9 (l.length - 1) k 0 (by omega) (by omega)
end Go.Proofs.Ytgdglnpgfngdoaa.Pu

/- Sorting of up to twelve whole numbers; the numbers from 0 on; two lists that are compared. -/
import Derived.Test.YtojgbmlljnocfaaQx2
import Derived.Test.YtojgbmlljnocfaaQx4
import Derived.Test.YtojgbmlljnocfaaQx5
import Derived.Test.YtojgbmlljnocfaaQx6
import Derived.Test.YtojgbmlljnocfaaQx7
import Derived.Test.YtojgbmlljnocfaaQx8
import Derived.Test.YtojgbmlljnocfaaPuList
set_option linter.unusedVariables false
set_option linter.unusedSimpArgs false
namespace Go.Proofs.Ytojgbmlljnocfaa.Pu
open Go.RowKit Go.Proofs.Ytojgbmlljnocfaa.Q Go.Proofs.YtojgbmlljnocfaaW.PrintWords Go.Proofs.YtojgbmlljnocfaaW.PrintLast Go.Proofs.YtojgbmlljnocfaaW.PrintMore

theorem less_eq (a b : Int) : cmp_Less_int.f a b = some (decide (a < b)) := by
  unfold cmp_Less_int.f
  have h : ∀ z, cmp_isNaN_int.f z = some false := by intro z; unfold cmp_isNaN_int.f; simp
  rw [h]
  simp
def Srt (x : List Int) (m : Nat) : Prop := ∀ p q, p < q → q < m → x.getD p 0 ≤ x.getD q 0
def Inv (x : List Int) (i j : Nat) : Prop := ∀ p q, p < q → q ≤ i → q ≠ j → x.getD p 0 ≤ x.getD q 0
theorem count_set2 (x : List Int) (j : Nat) (v c : Int) (hj : j < x.length) : (x.set j v).count c + (if x.getD j 0 = c then 1 else 0) = x.count c + (if v = c then 1 else 0) := by
  rw [List.count_set hj]
  have e : x[j] = x.getD j 0 := by simp [List.getD_eq_getElem?_getD, hj]
  rw [e]
  have hm : x.getD j 0 = c → 1 ≤ x.count c := fun h => List.one_le_count_iff.2 (h ▸ mem_getD x j hj)
  generalize x.getD j 0 = a at hm
  have e1 : ∀ z : Int, (if (z == c) = true then 1 else 0 : Nat) = if z = c then 1 else 0 := by intro z; by_cases h : z = c <;> simp [h]
  rw [e1, e1]
  by_cases h1 : a = c
  · have := hm h1
    rw [if_pos h1]
    split <;> omega
  · rw [if_neg h1]
    split <;> omega
theorem swap_perm (x : List Int) (j : Nat) (hj : j + 1 < x.length) : ((x.set (j + 1) (x.getD j 0)).set j (x.getD (j + 1) 0)).Perm x := by
  rw [List.perm_iff_count]
  intro c
  have h1 := count_set2 x (j + 1) (x.getD j 0) c hj
  have h2 := count_set2 (x.set (j + 1) (x.getD j 0)) j (x.getD (j + 1) 0) c (by simp; omega)
  rw [getD_set _ _ _ _ hj, if_neg (show ¬ (j + 1 = j) by omega)] at h2
  omega
theorem ins1 (n i : Nat) (hn : n ≤ 12) (hi : i < n) (B : Nat)
    (next : ∀ k x, B ≤ k → x.length = n → Srt x (i + 1) → ∃ r, slices_insertionSortOrdered_int.l0 k x 0 (n : Int) ((i + 1 : Nat) : Int) = some r ∧ r.Perm x ∧ Srt r n) :
    ∀ j k x, j ≤ i → B + j + 1 ≤ k → x.length = n → Inv x i j → ∃ r, slices_insertionSortOrdered_int.l1 k x 0 (n : Int) (i : Int) (j : Int) = some r ∧ r.Perm x ∧ Srt r n := by
  intro j
  induction j with
  | zero =>
    intro k x hj hk hl hv
    obtain ⟨k, rfl⟩ : ∃ m, k = m + 1 := ⟨k - 1, by omega⟩
    simp only [slices_insertionSortOrdered_int.l1]
    rw [if_neg (by omega), w64 _ (by omega)]
    exact next k x (by omega) hl (fun p q hpq hq => hv p q hpq (by omega) (by omega))
  | succ j ih =>
    intro k x hj hk hl hv
    obtain ⟨k, rfl⟩ : ∃ m, k = m + 1 := ⟨k - 1, by omega⟩
    simp only [slices_insertionSortOrdered_int.l1]
    rw [w64 (((j + 1 : Nat) : Int) - 1) (by omega), w64 ((i : Int) + 1) (by omega)]
    rw [show ((j + 1 : Nat) : Int) - 1 = (j : Int) by omega]
    rw [if_pos (by omega), if_pos (by omega), if_pos (by omega), if_pos (by omega), if_pos (by omega), less_eq]
    simp only [Option.bind_some, rd_nat, Int.toNat_natCast]
    by_cases hlt : x.getD (j + 1) 0 < x.getD j 0
    · rw [decide_eq_true hlt, if_pos rfl]
      obtain ⟨r, h1, h2, h3⟩ := ih k ((x.set (j + 1) (x.getD j 0)).set j (x.getD (j + 1) 0)) (by omega) (by omega) (by simpa using hl) (by
        intro p q hpq hq hne
        have g : ∀ t, ((x.set (j + 1) (x.getD j 0)).set j (x.getD (j + 1) 0)).getD t 0 = if j = t then x.getD (j + 1) 0 else if j + 1 = t then x.getD j 0 else x.getD t 0 := by
          intro t
          rw [getD_set _ _ _ _ (by simp; omega), getD_set _ _ _ _ (by omega)]
        rw [g, g]
        have a1 := hv p q hpq hq
        have a2 := hv p j
        have a3 := hv j q
        have a4 := hv (j + 1) q
        by_cases e1 : j = p <;> by_cases e2 : j + 1 = p <;> by_cases e3 : j = q <;> by_cases e4 : j + 1 = q <;> simp only [e1, e2, e3, e4, if_true, if_false] <;> first | omega | (simp_all; omega) | simp_all)
      exact ⟨r, h1, h2.trans (swap_perm x j (by omega)), h3⟩
    · rw [decide_eq_false hlt, if_neg (by decide)]
      exact next k x (by omega) hl (fun p q hpq hq => by
        by_cases e : q = j + 1
        · subst e
          by_cases e2 : p = j
          · subst e2; omega
          · have := hv p j (by omega) (by omega) (by omega)
            omega
        · exact hv p q hpq (by omega) e)
theorem ins0 (n : Nat) (hn : n ≤ 12) : ∀ d i k x, i + d = n → d * (n + 2) + 1 ≤ k → x.length = n → Srt x i → ∃ r, slices_insertionSortOrdered_int.l0 k x 0 (n : Int) (i : Int) = some r ∧ r.Perm x ∧ Srt r n := by
  intro d
  induction d with
  | zero =>
    intro i k x hi hk hl hs
    obtain ⟨k, rfl⟩ : ∃ m, k = m + 1 := ⟨k - 1, by omega⟩
    simp only [slices_insertionSortOrdered_int.l0]
    rw [if_neg (by omega)]
    exact ⟨x, rfl, List.Perm.refl _, by rw [← hi]; exact hs⟩
  | succ d ih =>
    intro i k x hi hk hl hs
    obtain ⟨k, rfl⟩ : ∃ m, k = m + 1 := ⟨k - 1, by omega⟩
    have hk2 : d * (n + 2) + (n + 2) + 1 ≤ k + 1 := by rw [← Nat.succ_mul]; exact hk
    simp only [slices_insertionSortOrdered_int.l0]
    rw [if_pos (by omega)]
    exact ins1 n i hn (by omega) (d * (n + 2) + 1) (fun k x h1 h2 h3 => ih (i + 1) k x (by omega) h1 h2 h3) i k x (Nat.le_refl _) (by omega) hl (fun p q hpq hq hne => hs p q hpq (by omega))
theorem wrap_small (n : Nat) (h : n < 10) : IntKind.u64.wrap (n : Int) = (n : Int) := Go.IntWalk.u64_in _ (by omega)
theorem bits_some (a : Int) (h0 : 0 ≤ a) (h1 : a < 10) (k : Nat) (hk : 1 ≤ k) : ∃ t, bits_Len.f k a = some t := by
  obtain ⟨k, rfl⟩ : ∃ m, k = m + 1 := ⟨k - 1, by omega⟩
  unfold bits_Len.f bits_Len64.f
  rw [if_neg (by omega)]
  rw [bits_Len64.j0]
  rw [if_neg (by omega), if_neg (by omega), if_pos (by omega), if_pos (by omega)]
  exact ⟨_, rfl⟩
theorem sorts (l : List Int) (h1 : 1 ≤ l.length) (h9 : l.length ≤ 9) (k : Nat) (hk : 1000 ≤ k) : ∃ r, slices_Sort_int_int.f k l = some r ∧ r.Perm l ∧ Srt r l.length := by
  unfold slices_Sort_int_int.f
  rw [wrap_small l.length (by omega)]
  obtain ⟨t, ht⟩ := bits_some (l.length : Int) (by omega) (by omega) k (by omega)
  rw [ht, Option.bind_some]
  unfold slices_pdqsortOrdered_int.f slices_insertionSortOrdered_int.f
  rw [w64 ((l.length : Int) - 0) (by omega), if_pos (by omega), w64 (0 + 1) (by omega)]
  have hx : (l.length - 1) * (l.length + 2) + 1 ≤ 1000 := by
    have : (l.length - 1) * (l.length + 2) ≤ 8 * 11 := Nat.mul_le_mul (by omega) (by omega)
    omega
  obtain ⟨r, e, h2, h3⟩ := ins0 l.length (by omega) (l.length - 1) 1 k l (by omega) (by omega) rfl (fun p q hpq hq => by omega)
  rw [show ((1 : Nat) : Int) = 0 + 1 from rfl] at e
  rw [e, Option.bind_some]
  exact ⟨r, rfl, h2, h3⟩

/-- 0, 1, .., n - 1. -/
def upto (n : Nat) : List Int := (List.range n).map fun i : Nat => (i : Int)
theorem upto_length (n : Nat) : (upto n).length = n := by simp [upto]
theorem upto_getD (n j : Nat) (h : j < n) : (upto n).getD j 0 = j := by simp [upto, List.getD_eq_getElem?_getD, h]
theorem upto_mem (n : Nat) (x : Int) : x ∈ upto n ↔ 0 ≤ x ∧ x < n := by
  unfold upto
  rw [List.mem_map]
  constructor
  · rintro ⟨i, hi, rfl⟩
    have := List.mem_range.1 hi
    omega
  · rintro ⟨h0, h1⟩
    exact ⟨x.toNat, List.mem_range.2 (by omega), by omega⟩
theorem upto_lt (n : Nat) : (upto n).Pairwise (fun a b => a < b) := by
  unfold upto
  rw [List.pairwise_map]
  exact (List.pairwise_lt_range (n := n)).imp (fun h => by omega)
theorem upto_nodup (n : Nat) : (upto n).Nodup := (upto_lt n).imp (fun h => by omega)
theorem numbers_l (n : Nat) (hn : n ≤ 1000000) : ∀ (d k i : Nat) (x : List Int), i + d = n → x.length = n → (∀ j, j < i → x.getD j 0 = j) → d < k → impl_numbersTo.l0 k x (n : Int) (i : Int) = some (upto n) := by
  intro d
  induction d with
  | zero =>
    intro k i x hi hl hj hk
    obtain ⟨k, rfl⟩ : ∃ m, k = m + 1 := ⟨k - 1, by omega⟩
    simp only [impl_numbersTo.l0]
    rw [if_neg (by omega), ext_getD x (upto n) (by rw [upto_length, hl]) (fun j h => by rw [hj j (by omega), upto_getD _ _ (by omega)])]
  | succ d ih =>
    intro k i x hi hl hj hk
    obtain ⟨k, rfl⟩ : ∃ m, k = m + 1 := ⟨k - 1, by omega⟩
    simp only [impl_numbersTo.l0]
    rw [if_pos (by omega), if_pos (by omega), if_pos (by omega), w64 _ (by omega), Int.toNat_natCast]
    refine ih k (i + 1) _ (by omega) (by simpa using hl) (fun j h => ?_) (by omega)
    rw [getD_set _ _ _ _ (by omega)]
    split
    · rename_i e; rw [e]
    · exact hj j (by omega)
theorem numbers (n : Nat) (hn : n ≤ 1000000) (k : Nat) (hk : n < k) : impl_numbersTo.f k (n : Int) = some (upto n) := by
  unfold impl_numbersTo.f
  rw [if_pos (by omega), if_pos (by omega)]
  simp only [Option.bind_some, List.length_replicate, Int.toNat_natCast]
  exact numbers_l n hn n k 0 _ (by omega) (by simp) (fun j h => by omega) hk
theorem equal_l (a b : List Int) (hl : a.length = b.length) (hb : a.length ≤ 9000000000000000000) : ∀ (d k i : Nat), i + d = a.length → (∀ j, j < i → a.getD j 0 = b.getD j 0) → d < k → slices_Equal_int_int.l0 k a b (a.length : Int) (i : Int) = some (decide (a = b)) := by
  intro d
  induction d with
  | zero =>
    intro k i hi hj hk
    obtain ⟨k, rfl⟩ : ∃ m, k = m + 1 := ⟨k - 1, by omega⟩
    simp only [slices_Equal_int_int.l0]
    have e : a = b := ext_getD a b hl (fun j h => hj j (by omega))
    rw [if_neg (by omega), decide_eq_true e]
  | succ d ih =>
    intro k i hi hj hk
    obtain ⟨k, rfl⟩ : ∃ m, k = m + 1 := ⟨k - 1, by omega⟩
    simp only [slices_Equal_int_int.l0]
    rw [if_pos (by omega), if_pos (by omega), if_pos (by omega), if_pos (by omega), w64 _ (by omega), rd_nat, rd_nat]
    by_cases e : a.getD i 0 = b.getD i 0
    · rw [if_pos e]
      refine ih k (i + 1) (by omega) (fun j h => ?_) (by omega)
      by_cases e2 : j = i
      · rw [e2]; exact e
      · exact hj j (by omega)
    · rw [if_neg e, decide_eq_false (fun h => e (by rw [h]))]
theorem equal (a b : List Int) (hb : a.length ≤ 9000000000000000000) (k : Nat) (hk : a.length < k) : slices_Equal_int_int.f k a b = some (decide (a = b)) := by
  unfold slices_Equal_int_int.f
  by_cases hl : a.length = b.length
  · rw [if_pos (by omega)]
    exact equal_l a b hl hb a.length k 0 (by omega) (fun j h => by omega) hk
  · rw [if_neg (by omega), decide_eq_false (fun h => hl (by rw [h]))]
theorem sorted_iff (l r : List Int) (hp : r.Perm l) (hs : Srt r l.length) : (r = upto l.length) ↔ (l.Nodup ∧ ∀ x ∈ l, 0 ≤ x ∧ x < (l.length : Int)) := by
  constructor
  · intro e
    rw [e] at hp
    exact ⟨hp.nodup_iff.1 (upto_nodup _), fun x hx => (upto_mem _ x).1 (hp.mem_iff.2 hx)⟩
  · rintro ⟨hn, hr⟩
    refine List.Perm.eq_of_pairwise (le := fun a b => a ≤ b) (fun a b _ _ h1 h2 => by omega) ?_ ((upto_lt _).imp (fun h => by omega)) (hp.trans ?_)
    · rw [List.pairwise_iff_getElem]
      intro i j hi hj hij
      have := hs i j hij (by rw [← hp.length_eq]; exact hj)
      simpa [List.getD_eq_getElem?_getD, hi, hj] using this
    · rw [List.perm_iff_count]
      intro a
      rw [hn.count, (upto_nodup _).count]
      have : a ∈ l ↔ a ∈ upto l.length := by
        rw [upto_mem]
        refine ⟨hr a, fun h => ?_⟩
        apply Classical.byContradiction
        intro hm
        have := few l.length (a :: l) (List.nodup_cons.2 ⟨hm, hn⟩) (fun x hx => by
          rcases List.mem_cons.1 hx with rfl | hx
          · exact h
          · exact hr x hx)
        simp at this
        omega
      by_cases h : a ∈ l
      · rw [if_pos h, if_pos (this.1 h)]
      · rw [if_neg h, if_neg (fun h2 => h (this.2 h2))]

/-- The list in which each number of a cycle goes to the next one. -/
def ofc (l : List Int) : Nat → Nat → List Int → List Int
  | 0, _, out => out
  | d + 1, i, out => ofc l d (i + 1) (out.set (l.getD i 0).toNat (l.getD ((i + 1) % l.length) 0))
theorem ofc_length (l : List Int) : ∀ d i out, (ofc l d i out).length = out.length := by
  intro d
  induction d with
  | zero => intros; rfl
  | succ d ih => intro i out; simp [ofc, ih]
theorem tmod_nat (a b : Nat) : Int.tmod (a : Int) (b : Int) = ((a % b : Nat) : Int) := by
  rw [Int.tmod_eq_emod_of_nonneg (by omega)]
  exact (Int.natCast_emod a b).symm
theorem ptOf_l (l : List Int) (hr : ∀ x ∈ l, 0 ≤ x ∧ x < (l.length : Int)) (hl : l.length ≤ 9) : ∀ (d k i : Nat) (out : List Int), i + d = l.length → out.length = l.length → d < k →
    spec_ptOf.l0 k l out l (l.length : Int) (i : Int) = some (ofc l d i out) := by
  intro d
  induction d with
  | zero =>
    intro k i out hi ho hk
    obtain ⟨k, rfl⟩ : ∃ m, k = m + 1 := ⟨k - 1, by omega⟩
    simp only [spec_ptOf.l0]
    rw [if_neg (by omega)]
    rfl
  | succ d ih =>
    intro k i out hi ho hk
    obtain ⟨k, rfl⟩ : ∃ m, k = m + 1 := ⟨k - 1, by omega⟩
    have hx := hr _ (mem_getD l i (by omega))
    simp only [spec_ptOf.l0]
    rw [w64 ((i : Int) + 1) (by omega), show (i : Int) + 1 = ((i + 1 : Nat) : Int) by omega, tmod_nat]
    have hm := Nat.mod_lt (i + 1) (show 0 < l.length by omega)
    rw [if_pos (by omega), if_pos (by omega), if_pos (by omega), if_neg (by omega), if_pos (by omega), if_pos (by omega), rd_nat, rd_nat, if_pos (by omega), if_pos (by omega)]
    exact ih k (i + 1) _ (by omega) (by simpa using ho) (by omega)
theorem ptOf (l : List Int) (hr : ∀ x ∈ l, 0 ≤ x ∧ x < (l.length : Int)) (hl : l.length ≤ 9) (k : Nat) (hk : 100 ≤ k) : spec_ptOf.f k l = some (ofc l l.length 0 (List.replicate l.length 0)) := by
  unfold spec_ptOf.f
  rw [if_pos (by omega), if_pos (by omega), Int.toNat_natCast]
  exact ptOf_l l hr hl l.length k 0 _ (by omega) (by simp) (by omega)
theorem ofCycle_l (l : List Int) (hr : ∀ x ∈ l, 0 ≤ x ∧ x < (l.length : Int)) (hl : l.length ≤ 9) : ∀ (d k i : Nat) (out : List Int), i + d = l.length → out.length = l.length → d < k →
    impl_ofCycle.l0 k l out l (l.length : Int) (i : Int) = some (ofc l d i out) := by
  intro d
  induction d with
  | zero =>
    intro k i out hi ho hk
    obtain ⟨k, rfl⟩ : ∃ m, k = m + 1 := ⟨k - 1, by omega⟩
    simp only [impl_ofCycle.l0]
    rw [if_neg (by omega)]
    rfl
  | succ d ih =>
    intro k i out hi ho hk
    obtain ⟨k, rfl⟩ : ∃ m, k = m + 1 := ⟨k - 1, by omega⟩
    have hx := hr _ (mem_getD l i (by omega))
    simp only [impl_ofCycle.l0]
    rw [w64 ((i : Int) + 1) (by omega), show (i : Int) + 1 = ((i + 1 : Nat) : Int) by omega, tmod_nat]
    have hm := Nat.mod_lt (i + 1) (show 0 < l.length by omega)
    rw [if_pos (by omega), if_pos (by omega), if_pos (by omega), if_neg (by omega), if_pos (by omega), if_pos (by omega), rd_nat, rd_nat, if_pos (by omega), if_pos (by omega)]
    exact ih k (i + 1) _ (by omega) (by simpa using ho) (by omega)
theorem ofCycle (l : List Int) (hr : ∀ x ∈ l, 0 ≤ x ∧ x < (l.length : Int)) (hl : l.length ≤ 9) (k : Nat) (hk : 100 ≤ k) : impl_ofCycle.f k l = some (ofc l l.length 0 (List.replicate l.length 0)) := by
  unfold impl_ofCycle.f
  rw [if_pos (by omega), if_pos (by omega), Int.toNat_natCast]
  exact ofCycle_l l hr hl l.length k 0 _ (by omega) (by simp) (by omega)
/-- The first i + 1 numbers differ just where the first i differ and the next one is none of them. -/
theorem take_nodup (l : List Int) (i : Nat) (hi : i < l.length) : (l.take (i + 1)).Nodup ↔ (l.take i).Nodup ∧ l.getD i 0 ∉ l.take i := by
  rw [List.take_succ_eq_append_getElem hi]
  have e : l[i] = l.getD i 0 := by simp [List.getD_eq_getElem?_getD, hi]
  rw [e, List.nodup_append]
  constructor
  · rintro ⟨h1, _, h3⟩
    exact ⟨h1, fun h => h3 _ h _ (by simp) rfl⟩
  · rintro ⟨h1, h2⟩
    refine ⟨h1, by simp, fun a ha b hb => ?_⟩
    rw [List.mem_singleton] at hb
    subst hb
    exact fun e => h2 (e ▸ ha)
theorem nodup_take (l : List Int) (h : l.Nodup) (i : Nat) : (l.take i).Nodup := h.sublist (List.take_sublist i l)
end Go.Proofs.Ytojgbmlljnocfaa.Pu

/- The reference's count of closed walks comes to 'walks'. -/
import Derived.Test.YtgdglnpgfngdoaaQx5
import Derived.Test.YtgdglnpgfngdoaaQx10
import Derived.Test.YtgdglnpgfngdoaaPuTrace
set_option linter.unusedVariables false
set_option linter.unusedSimpArgs false
namespace Go.Proofs.Ytgdglnpgfngdoaa.Pu
open Go.RowKit Go.Proofs.Ytgdglnpgfngdoaa.Q Go.Proofs.YtgdglnpgfngdoaaW.PrintWords Go.Proofs.YtgdglnpgfngdoaaW.PrintLast Go.Proofs.YtgdglnpgfngdoaaW.PrintMore

theorem fc3 (g : List (List Int)) (n : Nat) (G : Gr g n) (M s x6 x8 x15 x16 x34 : Int) (now : List Int) (kk : Nat) (a : Int) (gw row : List Int) (B : Int) (hB : B ≤ 100000000000000) (ha : 0 ≤ a ∧ a ≤ B) (hg : ∀ j, gw.getD j 0 = 0 ∨ gw.getD j 0 = 1) (hgl : gw.length = n) (hl : row.length = n)
    (hr : ∀ j, 0 ≤ row.getD j 0 ∧ row.getD j 0 ≤ 8 * B) (C : Nat) (R : Int)
    (next : ∀ k, C ≤ k → spec_foClosed.l2 k g M s x6 x8 (addRow big a gw row n) x15 x16 now x34 ((kk + 1 : Nat) : Int) = some R) (hkk : kk ≤ 1000) :
    ∀ (d k j : Nat), j + d = n → d + C + 1 ≤ k → spec_foClosed.l3 k g M s x6 x8 (addRow big a gw row j) a x15 x16 now x34 (kk : Int) gw (n : Int) (j : Int) = some R := by
  have n8 := G.n8
  intro d
  induction d with
  | zero =>
    intro k j hj hk
    obtain ⟨k, rfl⟩ : ∃ q, k = q + 1 := ⟨k - 1, by omega⟩
    rw [spec_foClosed.l3, if_neg (by omega), w64 _ (by omega), show j = n by omega]
    exact next k (by omega)
  | succ d ih =>
    intro k j hj hk
    obtain ⟨k, rfl⟩ : ∃ q, k = q + 1 := ⟨k - 1, by omega⟩
    have hal : (addRow big a gw row j).length = n := by rw [addRow_length, hl]
    obtain ⟨h1, _⟩ := addRow_at n a gw row B hB ha hg hl hr j (by omega)
    obtain ⟨_, h2⟩ := addRow_at n a gw row B hB ha hg hl hr (j + 1) (by omega)
    have h3 := h2 j (by omega)
    have e : (addRow big a gw row j).set j (wrap64 ((addRow big a gw row j).getD j 0 + wrap64 (a * gw.getD j 0))) = addRow big a gw row (j + 1) := by
      show _ = (addRow big a gw row j).set j (mn (wrap64 ((addRow big a gw row j).getD j 0 + wrap64 (a * gw.getD j 0))) big)
      rw [h1 j, if_neg (show ¬ j < j by omega), h3.1, h3.2]
    rw [spec_foClosed.l3, if_pos (by omega), if_pos (by omega), if_pos (by omega), if_pos (by omega), w64 ((j : Int) + 1) (by omega), rd_nat, rd_nat, Int.toNat_natCast, e]
    exact ih k (j + 1) (by omega) (by omega)
theorem rd_L1_nat (g : List (List Int)) (i : Nat) : rd_L1 g (i : Int) = g.getD i [] := by unfold rd_L1; rw [Int.toNat_natCast]
theorem fc2 (g : List (List Int)) (n : Nat) (G : Gr g n) (M s x6 x8 x15 x16 : Int) (hx8 : 0 ≤ x8 ∧ x8 ≤ 1000) (now : List Int) (hnl : now.length = n) (B : Int) (hB : 0 ≤ B ∧ B ≤ 100000000000000) (hx : ∀ j, 0 ≤ now.getD j 0 ∧ now.getD j 0 ≤ B) (C : Nat) (R : Int)
    (next : ∀ k, C ≤ k → spec_foClosed.l1 k g M s x6 (mulRow big g n now (zeros n) n) (x8 + 1) x15 x16 = some R) :
    ∀ (d k kk : Nat), kk + d = n → d * 20 + C + 1 ≤ k → spec_foClosed.l2 k g M s x6 x8 (mulRow big g n now (zeros n) kk) x15 x16 now (n : Int) (kk : Int) = some R := by
  have n8 := G.n8
  intro d
  induction d with
  | zero =>
    intro k kk hj hk
    obtain ⟨k, rfl⟩ : ∃ q, k = q + 1 := ⟨k - 1, by omega⟩
    rw [spec_foClosed.l2, if_neg (by omega), w64 _ (by omega), show kk = n by omega]
    exact next k (by omega)
  | succ d ih =>
    intro k kk hj hk
    obtain ⟨k, rfl⟩ : ∃ q, k = q + 1 := ⟨k - 1, by omega⟩
    have hg1 := G.sq.1
    have hgl := G.sq.2 kk (by omega)
    rw [spec_foClosed.l2, if_pos (by omega), if_pos (by omega), if_pos (by omega), if_pos (by omega), rd_nat, rd_L1_nat, hgl]
    have hm := (mulRow_at g n G now B hB hx kk (by omega)).2
    have hkB : (kk : Int) * B ≤ 8 * B := Int.mul_le_mul_of_nonneg_right (by omega) hB.1
    have hml : (mulRow big g n now (zeros n) kk).length = n := by rw [mulRow_length]; simp [zeros]
    exact fc3 g n G M s x6 x8 x15 x16 (n : Int) now kk (now.getD kk 0) (g.getD kk []) (mulRow big g n now (zeros n) kk) B hB.2 (hx kk) (fun j => G.e kk j) hgl hml (fun j => by have := hm j; omega) (d * 20 + C + 1) R
      (fun k hk => ih k (kk + 1) (by omega) hk) (by omega) n k 0 (by omega) (by omega)
theorem fc1 (g : List (List Int)) (n : Nat) (G : Gr g n) (M i : Nat) (hM : M ≤ 12) (hi : i < n) (s x15 : Int) (C : Nat) (R : Int)
    (next : ∀ k, C ≤ k → spec_foClosed.l0 k g (M : Int) (wrap64 (s + (rowPow g n i M).getD i 0)) x15 ((i + 1 : Nat) : Int) = some R) :
    ∀ (d k st : Nat), st + d = M → d * 300 + C + 1 ≤ k → spec_foClosed.l1 k g (M : Int) s (i : Int) (rowPow g n i st) (st : Int) x15 (i : Int) = some R := by
  have n8 := G.n8
  intro d
  induction d with
  | zero =>
    intro k st hj hk
    obtain ⟨k, rfl⟩ : ∃ q, k = q + 1 := ⟨k - 1, by omega⟩
    have hl := rowPow_length g n i st
    rw [spec_foClosed.l1, if_neg (by omega), if_pos (by omega), if_pos (by omega), rd_nat, w64 ((i : Int) + 1) (by omega), show st = M by omega]
    exact next k (by omega)
  | succ d ih =>
    intro k st hj hk
    obtain ⟨k, rfl⟩ : ∃ q, k = q + 1 := ⟨k - 1, by omega⟩
    have hl := rowPow_length g n i st
    have hp := pow8 st (by omega)
    have hg1 := G.sq.1
    rw [spec_foClosed.l1, if_pos (by omega), if_pos (by omega), if_pos (by omega), hl, hg1, Int.toNat_natCast]
    exact fc2 g n G (M : Int) s (i : Int) (st : Int) x15 (i : Int) (by omega) (rowPow g n i st) hl (8 ^ st) ⟨Int.pow_nonneg (by omega), by omega⟩ (rowPow_bound g n G i st (by omega)) (d * 300 + C + 1) R
      (fun k hk => ih k (st + 1) (by omega) hk) n k 0 (by omega) (by omega)
theorem S_bound (m : Nat) (f : Nat → Int) (B : Int) (h : ∀ i, i < m → 0 ≤ f i ∧ f i ≤ B) : 0 ≤ Gauss.S m f ∧ Gauss.S m f ≤ m * B := by
  induction m with
  | zero => simp [Gauss.S]
  | succ m ih =>
    have h1 := ih (fun i hi => h i (by omega))
    have h2 := h m (by omega)
    have e : ((m + 1 : Nat) : Int) * B = m * B + B := by rw [show ((m + 1 : Nat) : Int) = (m : Int) + 1 by omega, Int.add_mul, Int.one_mul]
    rw [Gauss.S, e]
    omega
theorem cell_bound (g : List (List Int)) (n : Nat) (G : Gr g n) (M : Nat) (hM : M ≤ 12) (i : Nat) : 0 ≤ (rowPow g n i M).getD i 0 ∧ (rowPow g n i M).getD i 0 ≤ 68719476736 := by
  have h := rowPow_bound g n G i M hM i
  have hp := pow8 M hM
  exact ⟨h.1, Int.le_trans h.2 hp⟩
theorem fc0 (g : List (List Int)) (n : Nat) (G : Gr g n) (M : Nat) (hM : M ≤ 12) : ∀ (d k i : Nat), i + d = n → d * 5000 + 1 ≤ k →
    spec_foClosed.l0 k g (M : Int) (Gauss.S i (fun i => (rowPow g n i M).getD i 0)) (n : Int) (i : Int) = some (walks g n M) := by
  have n8 := G.n8
  intro d
  induction d with
  | zero =>
    intro k i hi hk
    obtain ⟨k, rfl⟩ : ∃ q, k = q + 1 := ⟨k - 1, by omega⟩
    rw [spec_foClosed.l0, if_neg (by omega), show i = n by omega]
    rfl
  | succ d ih =>
    intro k i hi hk
    obtain ⟨k, rfl⟩ : ∃ q, k = q + 1 := ⟨k - 1, by omega⟩
    have hg1 := G.sq.1
    rw [spec_foClosed.l0, if_pos (by omega), if_pos (by omega), if_pos (by omega), Option.bind_some, hg1, Int.toNat_natCast, if_pos (by omega), if_pos (by rw [List.length_replicate]; omega), Int.toNat_natCast]
    have hb := S_bound i (fun i => (rowPow g n i M).getD i 0) 68719476736 (fun i _ => cell_bound g n G M hM i)
    have hc := cell_bound g n G M hM i
    refine fc1 g n G M i hM (by omega) _ (n : Int) (d * 5000 + 1) _ (fun k hk => ?_) M k 0 (by omega) (by omega)
    have := ih k (i + 1) (by omega) hk
    rw [Gauss.S] at this
    rw [w64 _ (by omega)]
    exact this
theorem foClosed (g : List (List Int)) (n : Nat) (G : Gr g n) (M : Nat) (hM : M ≤ 12) (k : Nat) (hk : 50000 ≤ k) : spec_foClosed.f k g (M : Int) = some (walks g n M) := by
  unfold spec_foClosed.f
  have n8 := G.n8
  rw [G.sq.1]
  exact fc0 g n G M hM n k 0 (by omega) (by omega)
theorem walks_bound (g : List (List Int)) (n : Nat) (G : Gr g n) (M : Nat) (hM : M ≤ 12) : 0 ≤ walks g n M ∧ walks g n M ≤ 549755813888 := by
  have h := S_bound n (fun i => (rowPow g n i M).getD i 0) 68719476736 (fun i _ => cell_bound g n G M hM i)
  have n8 := G.n8
  unfold walks
  omega
end Go.Proofs.Ytgdglnpgfngdoaa.Pu

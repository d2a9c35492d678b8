/- Closed walks: the program's powers of a graph and the reference's walks come to one number for each length. -/
import Derived.Test.YtgdglnpgfngdoaaQx10
import Derived.Test.YtgdglnpgfngdoaaPuGraph
import Derived.Test.YtgdglnpgfngdoaaPuGauss
set_option linter.unusedVariables false
set_option linter.unusedSimpArgs false
namespace Go.Proofs.Ytgdglnpgfngdoaa.Pu
open Go.RowKit Go.Proofs.Ytgdglnpgfngdoaa.Q Go.Proofs.YtgdglnpgfngdoaaW.PrintWords Go.Proofs.YtgdglnpgfngdoaaW.PrintLast Go.Proofs.YtgdglnpgfngdoaaW.PrintMore

/-- A graph of at most eight states whose arrows are single. -/
structure Gr (g : List (List Int)) (n : Nat) : Prop where
  sq : Sq n g
  n1 : 1 ≤ n
  n8 : n ≤ 8
  e : ∀ i j, (g.getD i []).getD j 0 = 0 ∨ (g.getD i []).getD j 0 = 1
def big : Int := 1000000000000000000
theorem addRow_at (n : Nat) (a : Int) (gw row : List Int) (B : Int) (hB : B ≤ 100000000000000) (ha : 0 ≤ a ∧ a ≤ B) (hg : ∀ j, gw.getD j 0 = 0 ∨ gw.getD j 0 = 1) (hl : row.length = n)
    (hr : ∀ j, 0 ≤ row.getD j 0 ∧ row.getD j 0 ≤ 8 * B) : ∀ jj, jj ≤ n →
    (∀ c, (addRow big a gw row jj).getD c 0 = if c < jj then row.getD c 0 + a * gw.getD c 0 else row.getD c 0) ∧
    (∀ j, j < jj → mn (wrap64 (row.getD j 0 + wrap64 (a * gw.getD j 0))) big = row.getD j 0 + a * gw.getD j 0 ∧ wrap64 (row.getD j 0 + wrap64 (a * gw.getD j 0)) = row.getD j 0 + a * gw.getD j 0) := by
  intro jj
  have hv : ∀ j, mn (wrap64 (row.getD j 0 + wrap64 (a * gw.getD j 0))) big = row.getD j 0 + a * gw.getD j 0 ∧ wrap64 (row.getD j 0 + wrap64 (a * gw.getD j 0)) = row.getD j 0 + a * gw.getD j 0 := by
    intro j
    have h1 := hr j
    have h2 : 0 ≤ a * gw.getD j 0 ∧ a * gw.getD j 0 ≤ B := by
      rcases hg j with h | h
      · rw [h, Int.mul_zero]; omega
      · rw [h, Int.mul_one]; exact ha
    generalize a * gw.getD j 0 = p at h2
    generalize row.getD j 0 = q at h1
    rw [w64 p (by omega), w64 (q + p) (by omega)]
    unfold mn big
    exact ⟨if_neg (by omega), rfl⟩
  induction jj with
  | zero => exact fun _ => ⟨fun c => by rw [if_neg (by omega)]; rfl, fun j hj => by omega⟩
  | succ jj ih =>
    intro hj
    obtain ⟨i1, i2⟩ := ih (by omega)
    refine ⟨fun c => ?_, fun j _ => hv j⟩
    show ((addRow big a gw row jj).set jj (mn (wrap64 ((addRow big a gw row jj).getD jj 0 + wrap64 (a * gw.getD jj 0))) big)).getD c 0 = _
    rw [getD_set _ _ _ _ (by rw [addRow_length, hl]; omega), i1 jj, if_neg (show ¬ jj < jj by omega), (hv jj).1]
    by_cases e : jj = c
    · subst e; rw [if_pos rfl, if_pos (by omega)]
    · rw [if_neg e, i1 c]
      by_cases e2 : c < jj
      · rw [if_pos e2, if_pos (by omega)]
      · rw [if_neg e2, if_neg (by omega)]
def ent (g : List (List Int)) : Gauss.Mat := fun i j => (g.getD i []).getD j 0
theorem getD_out (l : List Int) (j : Nat) (h : l.length ≤ j) : l.getD j 0 = 0 := by
  rw [List.getD_eq_getElem?_getD, List.getElem?_eq_none h]; rfl
def zeros (n : Nat) : List Int := List.replicate n 0
theorem zeros_at (n j : Nat) : (zeros n).getD j 0 = 0 := by
  unfold zeros
  rw [List.getD_eq_getElem?_getD, List.getElem?_replicate]
  split <;> rfl
theorem mulRow_at (g : List (List Int)) (n : Nat) (G : Gr g n) (x : List Int) (B : Int) (hB : 0 ≤ B ∧ B ≤ 100000000000000) (hx : ∀ j, 0 ≤ x.getD j 0 ∧ x.getD j 0 ≤ B) : ∀ k, k ≤ n →
    (∀ c, c < n → (mulRow big g n x (zeros n) k).getD c 0 = Gauss.S k (fun q => x.getD q 0 * ent g q c)) ∧ (∀ c, 0 ≤ (mulRow big g n x (zeros n) k).getD c 0 ∧ (mulRow big g n x (zeros n) k).getD c 0 ≤ k * B) := by
  intro k
  induction k with
  | zero => exact fun _ => ⟨fun c _ => zeros_at n c, fun c => by rw [show mulRow big g n x (zeros n) 0 = zeros n from rfl, zeros_at]; omega⟩
  | succ k ih =>
    intro hk
    obtain ⟨i1, i2⟩ := ih (by omega)
    have n8 := G.n8
    have hkB : (k : Int) * B ≤ 7 * B := Int.mul_le_mul_of_nonneg_right (by omega) hB.1
    have hl : (mulRow big g n x (zeros n) k).length = n := by rw [mulRow_length]; simp [zeros]
    have ha := (addRow_at n (x.getD k 0) (g.getD k []) (mulRow big g n x (zeros n) k) B hB.2 (hx k) (fun j => G.e k j) hl (fun j => by have := i2 j; omega) n (Nat.le_refl _)).1
    have hs : ∀ c, (mulRow big g n x (zeros n) (k + 1)).getD c 0 = if c < n then (mulRow big g n x (zeros n) k).getD c 0 + x.getD k 0 * ent g k c else (mulRow big g n x (zeros n) k).getD c 0 := ha
    refine ⟨fun c hc => by rw [hs, if_pos hc, i1 c hc]; rfl, fun c => ?_⟩
    have h2 := i2 c
    have h3 : 0 ≤ x.getD k 0 * ent g k c ∧ x.getD k 0 * ent g k c ≤ B := by
      have := hx k
      unfold ent
      rcases G.e k c with h | h
      · rw [h, Int.mul_zero]; omega
      · rw [h, Int.mul_one]; exact this
    have h4 : ((k + 1 : Nat) : Int) * B = k * B + B := by rw [show ((k + 1 : Nat) : Int) = (k : Int) + 1 by omega, Int.add_mul, Int.one_mul]
    rw [hs, h4]
    split <;> omega
/-- Where one walks in m steps from i. -/
def rowPow (g : List (List Int)) (n i : Nat) : Nat → List Int
  | 0 => (zeros n).set i 1
  | m + 1 => mulRow big g n (rowPow g n i m) (zeros n) n
theorem rowPow_length (g : List (List Int)) (n i m : Nat) : (rowPow g n i m).length = n := by
  cases m with
  | zero => simp [rowPow, zeros]
  | succ m => rw [rowPow, mulRow_length]; simp [zeros]
theorem pow8 : ∀ m : Nat, m ≤ 12 → (8 : Int) ^ m ≤ 68719476736 := by decide +kernel
theorem rowPow_bound (g : List (List Int)) (n : Nat) (G : Gr g n) (i : Nat) : ∀ m, m ≤ 12 → ∀ j, 0 ≤ (rowPow g n i m).getD j 0 ∧ (rowPow g n i m).getD j 0 ≤ 8 ^ m := by
  intro m
  induction m with
  | zero =>
    intro _ j
    show 0 ≤ ((zeros n).set i 1).getD j 0 ∧ ((zeros n).set i 1).getD j 0 ≤ 1
    by_cases h : i < (zeros n).length
    · rw [getD_set _ _ _ _ h, zeros_at]
      split <;> omega
    · rw [List.set_eq_of_length_le (by omega), zeros_at]; omega
  | succ m ih =>
    intro hm j
    have hp := pow8 m (by omega)
    have h0 : (0 : Int) ≤ 8 ^ m := Int.pow_nonneg (by omega)
    have h := (mulRow_at g n G (rowPow g n i m) (8 ^ m) ⟨h0, by omega⟩ (ih (by omega)) n (Nat.le_refl _)).2 j
    have n8 := G.n8
    have hk : (n : Int) * 8 ^ m ≤ 8 * 8 ^ m := Int.mul_le_mul_of_nonneg_right (by omega) h0
    have e : (8 : Int) ^ (m + 1) = 8 * 8 ^ m := by rw [Int.pow_succ, Int.mul_comm]
    rw [e]
    exact ⟨h.1, by have := h.2; exact Int.le_trans this hk⟩
theorem rowPow_at (g : List (List Int)) (n : Nat) (G : Gr g n) (i : Nat) (hi : i < n) : ∀ m, m + 1 ≤ 12 → ∀ c, c < n → (rowPow g n i (m + 1)).getD c 0 = Gauss.pow n (ent g) m i c := by
  intro m
  have step : ∀ m, m ≤ 11 → ∀ c, c < n → (rowPow g n i (m + 1)).getD c 0 = Gauss.S n (fun q => (rowPow g n i m).getD q 0 * ent g q c) := by
    intro m hm c hc
    have hp := pow8 m (by omega)
    exact (mulRow_at g n G (rowPow g n i m) (8 ^ m) ⟨Int.pow_nonneg (by omega), by omega⟩ (rowPow_bound g n G i m (by omega)) n (Nat.le_refl _)).1 c hc
  induction m with
  | zero =>
    intro _ c hc
    rw [step 0 (by omega) c hc]
    rw [Gauss.S_congr n _ (fun q => if q = i then ent g q c else 0) (fun q hq => ?_), Gauss.S_pick n i _ hi]
    · rfl
    · show ((zeros n).set i 1).getD q 0 * _ = _
      rw [getD_set _ _ _ _ (by simp [zeros]; exact hi), zeros_at]
      by_cases e : i = q
      · subst e; rw [if_pos rfl, if_pos rfl, Int.one_mul]
      · rw [if_neg e, if_neg (fun h => e h.symm), Int.zero_mul]
  | succ m ih =>
    intro hm c hc
    rw [step (m + 1) (by omega) c hc, show Gauss.pow n (ent g) (m + 1) = Gauss.mul n (Gauss.pow n (ent g) m) (ent g) from (Gauss.pow_add n (ent g) m 0).symm]
    exact Gauss.S_congr n _ _ (fun q hq => by rw [ih (by omega) q hq])
/-- The number of closed walks of d steps. -/
def walks (g : List (List Int)) (n d : Nat) : Int := Gauss.S n (fun i => (rowPow g n i d).getD i 0)
theorem walks_tr (g : List (List Int)) (n : Nat) (G : Gr g n) (m : Nat) (hm : m + 1 ≤ 12) : walks g n (m + 1) = Gauss.tr n (Gauss.pow n (ent g) m) :=
  Gauss.S_congr n _ _ (fun i hi => rowPow_at g n G i hi m hm i hi)
/-- The program's powers, row by row. -/
theorem diag_row (n : Nat) : ∀ i, i ≤ n → ∀ c, c < n → (diagG n i).getD c [] = if c < i then (zeros n).set c 1 else zeros n := by
  intro i
  induction i with
  | zero => intro _ c hc; rw [if_neg (by omega)]; simp [diagG, zeroG, zeros, List.getD_eq_getElem?_getD, hc]
  | succ i ih =>
    intro hi c hc
    show ((diagG n i).set i _).getD c [] = _
    rw [getD_setL _ _ _ _ (by rw [(diagG_sq n i (by omega)).1]; omega), ih (by omega) i (by omega), if_neg (show ¬ i < i by omega)]
    by_cases e : i = c
    · subst e; rw [if_pos rfl, if_pos (by omega)]
    · rw [if_neg e, ih (by omega) c hc]
      by_cases e2 : c < i
      · rw [if_pos e2, if_pos (by omega)]
      · rw [if_neg e2, if_neg (by omega)]
theorem next_row (g : List (List Int)) (n : Nat) (xs : List (List Int)) : ∀ i, i ≤ n → ∀ c, c < n → (nextG big g n xs i).getD c [] = if c < i then mulRow big g n (xs.getD c []) (zeros n) n else zeros n := by
  intro i
  induction i with
  | zero => intro _ c hc; rw [if_neg (by omega)]; simp [nextG, zeroG, zeros, List.getD_eq_getElem?_getD, hc]
  | succ i ih =>
    intro hi c hc
    show ((nextG big g n xs i).set i _).getD c [] = _
    rw [getD_setL _ _ _ _ (by rw [(nextG_sq big g n xs i (by omega)).1]; omega), ih (by omega) i (by omega), if_neg (show ¬ i < i by omega)]
    by_cases e : i = c
    · subst e; rw [if_pos rfl, if_pos (by omega)]
    · rw [if_neg e, ih (by omega) c hc]
      by_cases e2 : c < i
      · rw [if_pos e2, if_pos (by omega)]
      · rw [if_neg e2, if_neg (by omega)]
theorem pow_row (g : List (List Int)) (n : Nat) : ∀ m c, c < n → (powG big g n m).getD c [] = rowPow g n c m := by
  intro m
  induction m with
  | zero => intro c hc; rw [powG, diag_row n n (Nat.le_refl _) c hc, if_pos hc]; rfl
  | succ m ih => intro c hc; rw [powG, next_row g n _ n (Nat.le_refl _) c hc, if_pos hc, ih c hc]; rfl
end Go.Proofs.Ytgdglnpgfngdoaa.Pu

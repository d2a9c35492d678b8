/- Loops that are no repetitions: the program's sum and the reference's recursion come to one number, for lengths up to twelve. -/
import Derived.Test.YtgdglnpgfngdoaaQx6
import Derived.Test.YtgdglnpgfngdoaaQx10
import Derived.Test.YtgdglnpgfngdoaaQx11
import Derived.Test.YtgdglnpgfngdoaaPuWalks
set_option linter.unusedVariables false
set_option linter.unusedSimpArgs false
namespace Go.Proofs.Ytgdglnpgfngdoaa.Pu
open Go.RowKit Go.Proofs.Ytgdglnpgfngdoaa.Q Go.Proofs.YtgdglnpgfngdoaaW.PrintWords Go.Proofs.YtgdglnpgfngdoaaW.PrintLast Go.Proofs.YtgdglnpgfngdoaaW.PrintMore

theorem fill_01 : ∀ d c row, (∀ j, row.getD j 0 = (0 : Int) ∨ row.getD j 0 = 1) → ∀ j, (fill d c row).getD j 0 = 0 ∨ (fill d c row).getD j 0 = 1 := by
  intro d
  induction d with
  | zero => intro c row h; exact h
  | succ d ih =>
    intro c row h
    refine ih (c + 1) (row.set c 1) (fun j => ?_)
    by_cases hc : c < row.length
    · rw [getD_set _ _ _ _ hc]
      split
      · exact .inr rfl
      · exact h j
    · rw [List.set_eq_of_length_le (by omega)]; exact h j
theorem graph_gr (l : List Int) (h2 : 2 ≤ l.length) (h9 : l.length ≤ 9) : Gr (graphOf l) (l.length - 1) := by
  have hrow : ∀ i, i < l.length - 1 → (graphOf l).getD i [] = rowOf l i := by
    intro i hi
    simp [graphOf, List.getD_eq_getElem?_getD, hi]
  refine ⟨⟨by simp [graphOf], fun i hi => by rw [hrow i hi, rowOf_length]⟩, by omega, by omega, fun i j => ?_⟩
  by_cases hi : i < l.length - 1
  · rw [hrow i hi]
    exact fill_01 _ _ _ (fun j => .inl (by have := zeros_at (l.length - 1) j; exact this)) j
  · have : (graphOf l).getD i [] = [] := by
      rw [List.getD_eq_getElem?_getD, List.getElem?_eq_none (by simp [graphOf]; omega)]; rfl
    rw [this]; exact .inl rfl
theorem power (g : List (List Int)) (n : Nat) (G : Gr g n) (d : Nat) (hd : d ≤ 12) (k : Nat) (hk : 1000 ≤ k) : impl_powerUpTo.f k g (d : Int) 1000000000000000000 = some (powG big g n d) := by
  have n1 := G.n1
  have n8 := G.n8
  have hg := G.sq.1
  have hs : sqB g = true := by
    unfold sqB
    rw [Bool.and_eq_true, Bool.and_eq_true, decide_eq_true_iff, decide_eq_true_iff, List.all_eq_true]
    refine ⟨⟨by omega, by omega⟩, fun r hr => ?_⟩
    obtain ⟨i, hi, e⟩ := List.getElem_of_mem hr
    have := G.sq.2 i (by omega)
    rw [List.getD_eq_getElem?_getD, List.getElem?_eq_getElem hi] at this
    rw [decide_eq_true_iff, ← e, hg]
    exact this
  unfold impl_powerUpTo.f
  rw [hs, decide_eq_true (show (d : Int) ≤ 1000000 by omega), Bool.and_self, if_pos rfl, hg, empty n (by omega) k (by omega), Option.bind_some, if_pos rfl, Int.toNat_natCast]
  rfl
def mu (q : Nat) : Int := [0, 1, -1, -1, 0, -1, 1, -1, 0, 0, 1, -1, 0].getD q 0
theorem moebius_20 : ∀ q : Nat, q < 13 → 1 ≤ q → impl_moebius.f 20 (q : Int) = some (mu q) := by decide +kernel
theorem moebius (q : Nat) (h : q < 13) (h1 : 1 ≤ q) (k : Nat) (hk : 20 ≤ k) : impl_moebius.f k (q : Int) = some (mu q) := by
  have : ∀ m, impl_moebius.f (20 + m) (q : Int) = some (mu q) := by
    intro m
    induction m with
    | zero => exact moebius_20 q h h1
    | succ m ih => exact impl_moebius.mono (q : Int) (20 + m) _ ih
  have h2 := this (k - 20)
  rwa [show 20 + (k - 20) = k by omega] at h2
theorem mu_01 : ∀ q : Nat, q < 13 → mu q = 0 ∨ mu q = 1 ∨ mu q = -1 := by decide +kernel
theorem tdiv_nat (a b : Nat) : Int.tdiv (a : Int) (b : Int) = ((a / b : Nat) : Int) := by
  rw [Int.tdiv_eq_ediv_of_nonneg (by omega)]
  exact (Int.natCast_ediv a b).symm
theorem tmod_nat' (a b : Nat) : Int.tmod (a : Int) (b : Int) = ((a % b : Nat) : Int) := by
  rw [Int.tmod_eq_emod_of_nonneg (by omega)]
  exact (Int.natCast_emod a b).symm
theorem tdiv_bound (x B : Int) (m : Nat) (h : -B ≤ x ∧ x ≤ B) : -B ≤ Int.tdiv x (m : Int) ∧ Int.tdiv x (m : Int) ≤ B := by
  have e : (Int.tdiv x (m : Int)).natAbs = x.natAbs / m := by rw [Int.natAbs_tdiv]; rfl
  have := Nat.div_le_self x.natAbs m
  omega
theorem lc1 (g : List (List Int)) (n : Nat) (G : Gr g n) (m d : Nat) (hm : m ≤ 12) (hd : 1 ≤ d) (hdm : d ≤ m) (s : Int) (hs : -100000000000000 ≤ s ∧ s ≤ 100000000000000) (C : Nat) (hC : 100 ≤ C) (R : Int)
    (next : ∀ k, C ≤ k → impl_loopCount.l0 k g (m : Int) (s + mu (m / d) * walks g n d) ((d + 1 : Nat) : Int) = some R) :
    ∀ (r k i : Nat), i + r = n → r + C + 1 ≤ k → impl_loopCount.l1 k g (m : Int) (s + mu (m / d) * Gauss.S i (fun i => (rowPow g n i d).getD i 0)) (d : Int) (powG big g n d) (n : Int) (i : Int) = some R := by
  have n8 := G.n8
  have hq : m / d < 13 := by have := Nat.div_le_self m d; omega
  have hq1 : 1 ≤ m / d := Nat.div_pos hdm hd
  have hmu := mu_01 (m / d) hq
  intro r
  induction r with
  | zero =>
    intro k i hi hk
    obtain ⟨k, rfl⟩ : ∃ q, k = q + 1 := ⟨k - 1, by omega⟩
    rw [impl_loopCount.l1, if_neg (by omega), w64 _ (by omega), show i = n by omega]
    exact next k (by omega)
  | succ r ih =>
    intro k i hi hk
    obtain ⟨k, rfl⟩ : ∃ q, k = q + 1 := ⟨k - 1, by omega⟩
    have hp := powG_sq big g n d
    have hpl := hp.1
    have hrl := rowPow_length g n i d
    have hb := S_bound i (fun i => (rowPow g n i d).getD i 0) 68719476736 (fun i _ => cell_bound g n G d (by omega) i)
    have hc := cell_bound g n G d (by omega) i
    rw [impl_loopCount.l1, if_pos (by omega), if_pos (by omega), if_pos (by omega), if_neg (by omega), tdiv_nat, w64 ((m / d : Nat) : Int) (by omega), moebius (m / d) hq hq1 k (by omega), Option.bind_some, rd_L1_nat, pow_row g n d i (by omega), if_pos (by omega), rd_nat, w64 ((i : Int) + 1) (by omega)]
    have h := ih k (i + 1) (by omega) (by omega)
    rw [Gauss.S, Int.mul_add, ← Int.add_assoc] at h
    generalize Gauss.S i (fun i => (rowPow g n i d).getD i 0) = a at hb h
    generalize (rowPow g n i d).getD i 0 = b at hc h
    have h1 : wrap64 (mu (m / d) * b) = mu (m / d) * b := w64 _ (by rcases hmu with e | e | e <;> rw [e] <;> omega)
    have h2 : wrap64 (s + mu (m / d) * a + mu (m / d) * b) = s + mu (m / d) * a + mu (m / d) * b := w64 _ (by rcases hmu with e | e | e <;> rw [e] <;> omega)
    rw [h1, h2]
    exact h
def implSum (t : Nat → Int) (m : Nat) : Nat → Nat → Int → Int
  | 0, _, s => s
  | r + 1, d, s => implSum t m r (d + 1) (if m % d = 0 then s + mu (m / d) * t d else s)
theorem lc0 (g : List (List Int)) (n : Nat) (G : Gr g n) (m : Nat) (hm : m ≤ 12) (h1 : 1 ≤ m) : ∀ (r k d : Nat) (s : Int), d + r = m + 1 → 1 ≤ d → -(1000000000000 * (d : Int)) ≤ s ∧ s ≤ 1000000000000 * (d : Int) → r * 20 + 2001 ≤ k →
    impl_loopCount.l0 k g (m : Int) s (d : Int) = some (wrap64 (Int.tdiv (implSum (walks g n) m r d s) (m : Int))) := by
  have n8 := G.n8
  intro r
  induction r with
  | zero =>
    intro k d s hd _ hs hk
    obtain ⟨k, rfl⟩ : ∃ q, k = q + 1 := ⟨k - 1, by omega⟩
    rw [impl_loopCount.l0, if_neg (by omega), if_neg (by omega)]
    rfl
  | succ r ih =>
    intro k d s hd hd1 hs hk
    obtain ⟨k, rfl⟩ : ∃ q, k = q + 1 := ⟨k - 1, by omega⟩
    rw [impl_loopCount.l0, if_pos (by omega), if_neg (by omega), tmod_nat']
    rw [implSum]
    by_cases e : m % d = 0
    · rw [if_pos (by omega), if_pos e, power g n G d (by omega) k (by omega), Option.bind_some, (powG_sq big g n d).1]
      have hw := walks_bound g n G d (by omega)
      have hq : m / d < 13 := by have := Nat.div_le_self m d; omega
      have hmu := mu_01 (m / d) hq
      obtain ⟨C, hC⟩ : ∃ C, C = r * 20 + 2001 := ⟨_, rfl⟩
      have hkC : n + C + 1 ≤ k := by omega
      have hC1 : 100 ≤ C := by omega
      have hdr : d + 1 + r = m + 1 := by omega
      have hbd : -(1000000000000 * ((d + 1 : Nat) : Int)) ≤ s + mu (m / d) * walks g n d ∧ s + mu (m / d) * walks g n d ≤ 1000000000000 * ((d + 1 : Nat) : Int) := by rcases hmu with e | e | e <;> rw [e] <;> omega
      have h := lc1 g n G m d hm hd1 (by omega) s (by omega) C hC1 _ (fun k hk => ih k (d + 1) (s + mu (m / d) * walks g n d) hdr (by omega) hbd (by rw [← hC]; exact hk)) n k 0 (by omega) hkC
      rw [Gauss.S, Int.mul_zero, Int.add_zero] at h
      exact h
    · rw [if_neg (by omega), if_neg e, w64 _ (by omega)]
      exact ih k (d + 1) s (by omega) (by omega) (by omega) (by omega)
def Lsum (L : Nat → Int) (m : Nat) : Nat → Nat → Int → Int
  | 0, _, s => s
  | r + 1, d, s => Lsum L m r (d + 1) (if m % d = 0 then s - d * L d else s)
theorem fl0 (g : List (List Int)) (m : Nat) (hm : m ≤ 12) (h1 : 1 ≤ m) (K : Nat) (L : Nat → Int) (hL : ∀ e, 1 ≤ e → e < m → m % e = 0 → (∀ k, K ≤ k → spec_foLoops.f k g (e : Int) = some (L e)) ∧ -4000000000000 ≤ (e : Int) * L e ∧ (e : Int) * L e ≤ 4000000000000) :
    ∀ (r k d : Nat) (s : Int), d + r = m → 1 ≤ d → -(5000000000000 * (d : Int)) ≤ s ∧ s ≤ 5000000000000 * (d : Int) → r + K + 1 ≤ k →
    spec_foLoops.l0 k g (m : Int) s (d : Int) = some (wrap64 (Int.tdiv (Lsum L m r d s) (m : Int))) := by
  intro r
  induction r with
  | zero =>
    intro k d s hd _ hs hk
    obtain ⟨k, rfl⟩ : ∃ q, k = q + 1 := ⟨k - 1, by omega⟩
    rw [spec_foLoops.l0, if_neg (by omega), if_neg (by omega)]
    rfl
  | succ r ih =>
    intro k d s hd hd1 hs hk
    obtain ⟨k, rfl⟩ : ∃ q, k = q + 1 := ⟨k - 1, by omega⟩
    rw [spec_foLoops.l0, if_pos (by omega), if_neg (by omega), tmod_nat', Lsum]
    by_cases e : m % d = 0
    · obtain ⟨h2, h3⟩ := hL d hd1 (by omega) e
      rw [if_pos (by omega), if_pos e, h2 k (by omega), Option.bind_some]
      generalize (d : Int) * L d = p at h3
      rw [w64 p (by omega), w64 (s - p) (by omega), w64 _ (by omega)]
      exact ih k (d + 1) (s - p) (by omega) (by omega) (by omega) (by omega)
    · rw [if_neg (by omega), if_neg e, w64 _ (by omega)]
      exact ih k (d + 1) s (by omega) (by omega) (by omega) (by omega)
/-- The sum over a length's divisors. -/
def E (t : Nat → Int) (m : Nat) : Int := implSum t m m 1 0
def Lp (t : Nat → Int) (m : Nat) : Int := Int.tdiv (E t m) (m : Int)
theorem tdiv_exact (x z : Int) (m : Nat) (hm : 1 ≤ m) (h : x = (m : Int) * z) : (m : Int) * Int.tdiv x (m : Int) = x := by
  rw [h, Int.mul_tdiv_cancel_left _ (by omega)]
theorem exact_ (g : List (List Int)) (n : Nat) (G : Gr g n) : ∀ e : Nat, 1 ≤ e → e ≤ 6 → (e : Int) * Lp (walks g n) e = E (walks g n) e := by
  have hA : ∀ i j, 0 ≤ ent g i j := fun i j => by unfold ent; rcases G.e i j with h | h <;> rw [h] <;> omega
  have hz : ∀ i j, n ≤ i ∨ n ≤ j → ent g i j = 0 := by
    intro i j h
    unfold ent
    by_cases hi : i < n
    · exact getD_out _ j (by rw [G.sq.2 i hi]; omega)
    · have : g.getD i [] = [] := by rw [List.getD_eq_getElem?_getD, List.getElem?_eq_none (by rw [G.sq.1]; omega)]; rfl
      rw [this]; rfl
  obtain ⟨z2, h2⟩ := Gauss.gauss2 n (ent g) hA hz
  obtain ⟨z3, h3⟩ := Gauss.gauss3 n (ent g) hA hz
  obtain ⟨z4, h4⟩ := Gauss.gauss4 n (ent g) hA hz
  obtain ⟨z5, h5⟩ := Gauss.gauss5 n (ent g) hA hz
  obtain ⟨z6, h6⟩ := Gauss.gauss6 n (ent g) hA hz
  have t1 : walks g n 1 = Gauss.tr n (Gauss.pow n (ent g) 0) := walks_tr g n G 0 (by omega)
  have t2 : walks g n 2 = Gauss.tr n (Gauss.pow n (ent g) 1) := walks_tr g n G 1 (by omega)
  have t3 : walks g n 3 = Gauss.tr n (Gauss.pow n (ent g) 2) := walks_tr g n G 2 (by omega)
  have t4 : walks g n 4 = Gauss.tr n (Gauss.pow n (ent g) 3) := walks_tr g n G 3 (by omega)
  have t5 : walks g n 5 = Gauss.tr n (Gauss.pow n (ent g) 4) := walks_tr g n G 4 (by omega)
  have t6 : walks g n 6 = Gauss.tr n (Gauss.pow n (ent g) 5) := walks_tr g n G 5 (by omega)
  rw [show Gauss.pow n (ent g) 0 = ent g from rfl] at t1
  intro e he1 he6
  unfold Lp
  have hc : e = 1 ∨ e = 2 ∨ e = 3 ∨ e = 4 ∨ e = 5 ∨ e = 6 := by omega
  rcases hc with rfl | rfl | rfl | rfl | rfl | rfl
  · exact tdiv_exact _ (E (walks g n) 1) 1 (by omega) (by omega)
  · exact tdiv_exact _ z2 2 (by omega) (by simp [E, implSum, mu]; omega)
  · exact tdiv_exact _ z3 3 (by omega) (by simp [E, implSum, mu]; omega)
  · exact tdiv_exact _ z4 4 (by omega) (by simp [E, implSum, mu]; omega)
  · exact tdiv_exact _ z5 5 (by omega) (by simp [E, implSum, mu]; omega)
  · exact tdiv_exact _ z6 6 (by omega) (by simp [E, implSum, mu]; omega)
theorem sums_same (t : Nat → Int) (h : ∀ e : Nat, 1 ≤ e → e ≤ 6 → (e : Int) * Lp t e = E t e) (m : Nat) (h1 : 1 ≤ m) (h12 : m ≤ 12) : Lsum (Lp t) m (m - 1) 1 (t m) = E t m := by
  have a1 := h 1 (by omega) (by omega)
  have a2 := h 2 (by omega) (by omega)
  have a3 := h 3 (by omega) (by omega)
  have a4 := h 4 (by omega) (by omega)
  have a5 := h 5 (by omega) (by omega)
  have a6 := h 6 (by omega) (by omega)
  simp [E, implSum, mu] at a1 a2 a3 a4 a5 a6
  have hc : m = 1 ∨ m = 2 ∨ m = 3 ∨ m = 4 ∨ m = 5 ∨ m = 6 ∨ m = 7 ∨ m = 8 ∨ m = 9 ∨ m = 10 ∨ m = 11 ∨ m = 12 := by omega
  rcases hc with rfl | rfl | rfl | rfl | rfl | rfl | rfl | rfl | rfl | rfl | rfl | rfl <;> simp [Lsum, E, implSum, mu] <;> omega
theorem E_bound (g : List (List Int)) (n : Nat) (G : Gr g n) (m : Nat) (h1 : 1 ≤ m) (h12 : m ≤ 12) : -4000000000000 ≤ E (walks g n) m ∧ E (walks g n) m ≤ 4000000000000 := by
  have hw := walks_bound g n G
  have b1 := hw 1 (by omega)
  have b2 := hw 2 (by omega)
  have b3 := hw 3 (by omega)
  have b4 := hw 4 (by omega)
  have b5 := hw 5 (by omega)
  have b6 := hw 6 (by omega)
  have b7 := hw 7 (by omega)
  have b8 := hw 8 (by omega)
  have b9 := hw 9 (by omega)
  have b10 := hw 10 (by omega)
  have b11 := hw 11 (by omega)
  have b12 := hw 12 (by omega)
  have hc : m = 1 ∨ m = 2 ∨ m = 3 ∨ m = 4 ∨ m = 5 ∨ m = 6 ∨ m = 7 ∨ m = 8 ∨ m = 9 ∨ m = 10 ∨ m = 11 ∨ m = 12 := by omega
  rcases hc with rfl | rfl | rfl | rfl | rfl | rfl | rfl | rfl | rfl | rfl | rfl | rfl <;> simp [E, implSum, mu] <;> omega
theorem loopCount (g : List (List Int)) (n : Nat) (G : Gr g n) (m : Nat) (h1 : 1 ≤ m) (h12 : m ≤ 12) (k : Nat) (hk : 100000 ≤ k) : impl_loopCount.f k g (m : Int) = some (Lp (walks g n) m) := by
  unfold impl_loopCount.f
  have := lc0 g n G m h12 h1 m k 1 0 (by omega) (by omega) (by omega) (by omega)
  rw [show ((1 : Nat) : Int) = 1 from rfl] at this
  rw [this]
  have hb := E_bound g n G m h1 h12
  have := tdiv_bound (E (walks g n) m) 4000000000000 m hb
  rw [w64 _ (by unfold E at this; omega)]
  rfl
theorem half (m e : Nat) (h1 : 1 ≤ e) (h : e < m) (hm : m ≤ 12) (hd : m % e = 0) : e ≤ 6 := by
  obtain ⟨q, hq⟩ := Nat.dvd_of_mod_eq_zero hd
  have : 2 ≤ q := by
    rcases Nat.lt_or_ge q 2 with h2 | h2
    · have : q = 0 ∨ q = 1 := by omega
      rcases this with e | e <;> subst e <;> omega
    · exact h2
  have := Nat.mul_le_mul_left e this
  omega
theorem foLoops (g : List (List Int)) (n : Nat) (G : Gr g n) : ∀ (f m : Nat), m ≤ f → 1 ≤ m → m ≤ 12 → ∀ k, 100000 + f * 1000 ≤ k → spec_foLoops.f k g (m : Int) = some (Lp (walks g n) m) := by
  intro f
  induction f with
  | zero => intro m hm h1; omega
  | succ f ih =>
    intro m hm h1 h12 k hk
    obtain ⟨k, rfl⟩ : ∃ q, k = q + 1 := ⟨k - 1, by omega⟩
    have hx := exact_ g n G
    obtain ⟨K, hK⟩ : ∃ K, K = 100000 + f * 1000 := ⟨_, rfl⟩
    have hw := walks_bound g n G m h12
    have := fl0 g m h12 h1 K (Lp (walks g n)) (fun e e1 em ed => by
      have e6 := half m e e1 em h12 ed
      have hb := E_bound g n G e e1 (by omega)
      have hxe := hx e e1 e6
      exact ⟨fun k hk => ih e (by omega) e1 (by omega) k (by rw [← hK]; exact hk), by omega, by omega⟩) (m - 1) k 1 (walks g n m) (by omega) (by omega) (by omega) (by omega)
    rw [spec_foLoops.f, foClosed g n G m h12 k (by omega), Option.bind_some, show (1 : Int) = ((1 : Nat) : Int) from rfl, this, sums_same (walks g n) hx m h1 h12]
    have hb := E_bound g n G m h1 h12
    have := tdiv_bound (E (walks g n) m) 4000000000000 m hb
    rw [w64 _ (by omega)]
    rfl
end Go.Proofs.Ytgdglnpgfngdoaa.Pu

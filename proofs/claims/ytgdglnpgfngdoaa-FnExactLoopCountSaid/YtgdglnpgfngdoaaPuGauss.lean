/- Traces of powers of tables of whole numbers: what divides their differences. Plain Lean, of no program. -/
import Derived.Test.YtgdglnpgfngdoaaOwn
set_option linter.unusedVariables false
set_option linter.unusedSimpArgs false
namespace Go.Proofs.Ytgdglnpgfngdoaa.Pu.Gauss

/-- f 0 + .. + f (n - 1). -/
def S : Nat → (Nat → Int) → Int
  | 0, _ => 0
  | n + 1, f => S n f + f n
theorem S_congr (n : Nat) (f g : Nat → Int) (h : ∀ i, i < n → f i = g i) : S n f = S n g := by
  induction n with
  | zero => rfl
  | succ n ih => rw [S, S, ih (fun i hi => h i (by omega)), h n (by omega)]
theorem S_add (n : Nat) (f g : Nat → Int) : S n (fun i => f i + g i) = S n f + S n g := by
  induction n with
  | zero => rfl
  | succ n ih => rw [S, S, S, ih]; omega
theorem S_zero (n : Nat) : S n (fun _ => 0) = 0 := by
  induction n with
  | zero => rfl
  | succ n ih => rw [S, ih]; rfl
theorem S_mul (n : Nat) (c : Int) (f : Nat → Int) : S n (fun i => c * f i) = c * S n f := by
  induction n with
  | zero => simp [S]
  | succ n ih => rw [S, S, ih, Int.mul_add]
theorem S_mul' (n : Nat) (c : Int) (f : Nat → Int) : S n (fun i => f i * c) = S n f * c := by
  rw [Int.mul_comm, ← S_mul]
  exact S_congr n _ _ (fun i _ => Int.mul_comm _ _)
theorem S_swap (n m : Nat) (f : Nat → Nat → Int) : S n (fun i => S m (f i)) = S m (fun j => S n (fun i => f i j)) := by
  induction n with
  | zero => rw [S]; exact (S_zero m).symm
  | succ n ih => rw [S, ih, ← S_add]; rfl
theorem S_pick (n j : Nat) (f : Nat → Int) (hj : j < n) : S n (fun i => if i = j then f i else 0) = f j := by
  induction n with
  | zero => omega
  | succ n ih =>
    rw [S]
    by_cases e : j = n
    · subst e
      rw [if_pos rfl, S_congr j _ (fun _ => 0) (fun i hi => by rw [if_neg (by omega)]), S_zero]; omega
    · rw [ih (by omega), if_neg (by omega)]; omega
theorem S_pick0 (n j : Nat) (f : Nat → Int) (hj : n ≤ j) : S n (fun i => if i = j then f i else 0) = 0 := by
  rw [S_congr n _ (fun _ => 0) (fun i hi => by rw [if_neg (by omega)]), S_zero]

abbrev Mat := Nat → Nat → Int
def mul (n : Nat) (A B : Mat) : Mat := fun i j => S n (fun k => A i k * B k j)
def tr (n : Nat) (A : Mat) : Int := S n (fun i => A i i)
def add (A B : Mat) : Mat := fun i j => A i j + B i j
def zero : Mat := fun _ _ => 0
theorem mul_assoc (n : Nat) (A B C : Mat) : mul n (mul n A B) C = mul n A (mul n B C) := by
  funext i j
  show S n (fun k => S n (fun q => A i q * B q k) * C k j) = S n (fun q => A i q * S n (fun k => B q k * C k j))
  rw [S_congr n _ (fun k => S n (fun q => A i q * B q k * C k j)) (fun k _ => (S_mul' n _ _).symm), S_swap]
  refine S_congr n _ _ (fun q _ => ?_)
  rw [← S_mul]
  exact S_congr n _ _ (fun k _ => Int.mul_assoc _ _ _)
theorem add_mul (n : Nat) (A B C : Mat) : mul n (add A B) C = add (mul n A C) (mul n B C) := by
  funext i j
  show S n (fun k => (A i k + B i k) * C k j) = S n (fun k => A i k * C k j) + S n (fun k => B i k * C k j)
  rw [← S_add]
  exact S_congr n _ _ (fun k _ => Int.add_mul _ _ _)
theorem mul_add (n : Nat) (A B C : Mat) : mul n A (add B C) = add (mul n A B) (mul n A C) := by
  funext i j
  show S n (fun k => A i k * (B k j + C k j)) = S n (fun k => A i k * B k j) + S n (fun k => A i k * C k j)
  rw [← S_add]
  exact S_congr n _ _ (fun k _ => Int.mul_add _ _ _)
theorem tr_add (n : Nat) (A B : Mat) : tr n (add A B) = tr n A + tr n B := S_add n _ _
theorem tr_comm (n : Nat) (A B : Mat) : tr n (mul n A B) = tr n (mul n B A) := by
  show S n (fun i => S n (fun k => A i k * B k i)) = S n (fun i => S n (fun k => B i k * A k i))
  rw [S_swap]
  exact S_congr n _ _ (fun k _ => S_congr n _ _ (fun i _ => Int.mul_comm _ _))
/-- The d-th power, d at least 1: pow A 0 is A. -/
def pow (n : Nat) (A : Mat) : Nat → Mat
  | 0 => A
  | d + 1 => mul n A (pow n A d)
theorem tr_zero (n : Nat) : tr n zero = 0 := S_zero n
theorem mul_zero (n : Nat) (A : Mat) : mul n A zero = zero := by
  funext i j
  show S n (fun k => A i k * 0) = 0
  rw [S_congr n _ (fun _ => 0) (fun k _ => Int.mul_zero _), S_zero]
theorem zero_mul (n : Nat) (A : Mat) : mul n zero A = zero := by
  funext i j
  show S n (fun k => 0 * A k j) = 0
  rw [S_congr n _ (fun _ => 0) (fun k _ => Int.zero_mul _), S_zero]
theorem add_zero (A : Mat) : add A zero = A := by funext i j; exact Int.add_zero _
theorem zero_add (A : Mat) : add zero A = A := by funext i j; exact Int.zero_add _

/-! The traces of powers of a sum. -/
section
variable (n : Nat) (X Y : Mat)
theorem tr2 : tr n (pow n (add X Y) 1) = tr n (pow n X 1) + tr n (pow n Y 1) + 2 * tr n (mul n X Y) := by
  have c := tr_comm n Y X
  simp only [pow, add_mul, mul_add, tr_add]
  omega
theorem cyc3 (A B C : Mat) : tr n (mul n A (mul n B C)) = tr n (mul n B (mul n C A)) := by
  rw [tr_comm, mul_assoc]
theorem tr3 : ∃ z, tr n (pow n (add X Y) 2) = tr n (pow n X 2) + tr n (pow n Y 2) + 3 * z := by
  refine ⟨tr n (mul n X (mul n X Y)) + tr n (mul n X (mul n Y Y)), ?_⟩
  have a1 := cyc3 n X X Y
  have a2 := cyc3 n X Y X
  have b1 := cyc3 n X Y Y
  have b2 := cyc3 n Y Y X
  simp only [pow, add_mul, mul_add, tr_add]
  omega
theorem cyc4 (A B C D : Mat) : tr n (mul n A (mul n B (mul n C D))) = tr n (mul n B (mul n C (mul n D A))) := by
  rw [tr_comm, mul_assoc, mul_assoc]
theorem tr4 : ∃ z, tr n (pow n (add X Y) 3) = tr n (pow n X 3) + tr n (pow n Y 3) + 4 * z + 2 * tr n (pow n (mul n X Y) 1) := by
  refine ⟨tr n (mul n X (mul n X (mul n X Y))) + tr n (mul n X (mul n X (mul n Y Y))) + tr n (mul n X (mul n Y (mul n Y Y))), ?_⟩
  have a1 := cyc4 n X X X Y
  have a2 := cyc4 n X X Y X
  have a3 := cyc4 n X Y X X
  have b1 := cyc4 n X X Y Y
  have b2 := cyc4 n X Y Y X
  have b3 := cyc4 n Y Y X X
  have c1 := cyc4 n X Y Y Y
  have c2 := cyc4 n Y Y Y X
  have c3 := cyc4 n Y Y X Y
  have d1 := cyc4 n X Y X Y
  simp only [pow, add_mul, mul_add, tr_add, mul_assoc]
  omega
theorem cyc5 (A B C D E : Mat) : tr n (mul n A (mul n B (mul n C (mul n D E)))) = tr n (mul n B (mul n C (mul n D (mul n E A)))) := by
  rw [tr_comm, mul_assoc, mul_assoc, mul_assoc]
theorem tr5 : ∃ z, tr n (pow n (add X Y) 4) = tr n (pow n X 4) + tr n (pow n Y 4) + 5 * z := by
  refine ⟨tr n (mul n X (mul n X (mul n X (mul n X Y)))) + tr n (mul n X (mul n X (mul n X (mul n Y Y)))) + tr n (mul n X (mul n X (mul n Y (mul n X Y)))) + tr n (mul n X (mul n X (mul n Y (mul n Y Y)))) + tr n (mul n X (mul n Y (mul n X (mul n Y Y)))) + tr n (mul n X (mul n Y (mul n Y (mul n Y Y)))), ?_⟩
  have a1 := cyc5 n X X X X Y
  have a2 := cyc5 n X X X Y X
  have a3 := cyc5 n X X Y X X
  have a4 := cyc5 n X Y X X X
  have b1 := cyc5 n X X X Y Y
  have b2 := cyc5 n X X Y Y X
  have b3 := cyc5 n X Y Y X X
  have b4 := cyc5 n Y Y X X X
  have c1 := cyc5 n X X Y X Y
  have c2 := cyc5 n X Y X Y X
  have c3 := cyc5 n Y X Y X X
  have c4 := cyc5 n X Y X X Y
  have d1 := cyc5 n X X Y Y Y
  have d2 := cyc5 n X Y Y Y X
  have d3 := cyc5 n Y Y Y X X
  have d4 := cyc5 n Y Y X X Y
  have e1 := cyc5 n X Y X Y Y
  have e2 := cyc5 n Y X Y Y X
  have e3 := cyc5 n X Y Y X Y
  have e4 := cyc5 n Y Y X Y X
  have f1 := cyc5 n X Y Y Y Y
  have f2 := cyc5 n Y Y Y Y X
  have f3 := cyc5 n Y Y Y X Y
  have f4 := cyc5 n Y Y X Y Y
  simp only [pow, add_mul, mul_add, tr_add]
  omega
end

/-! Tables that are sums of single ones. -/
def one (a b : Nat) : Mat := fun i j => if i = a then (if j = b then 1 else 0) else 0
theorem one_mul (n a b : Nat) (A : Mat) (hb : b < n) : mul n (one a b) A = fun i j => if i = a then A b j else 0 := by
  funext i j
  show S n (fun k => one a b i k * A k j) = _
  by_cases e : i = a
  · rw [if_pos e, S_congr n _ (fun k => if k = b then A k j else 0) (fun k _ => by unfold one; rw [if_pos e]; split <;> simp), S_pick n b _ hb]
  · rw [if_neg e, S_congr n _ (fun _ => 0) (fun k _ => by unfold one; rw [if_neg e]; simp), S_zero]
theorem one_sq (n a b : Nat) (hb : b < n) : mul n (one a b) (one a b) = if a = b then one a b else zero := by
  rw [one_mul n a b _ hb]
  funext i j
  by_cases e : a = b
  · subst e
    rw [if_pos rfl]
    unfold one
    split <;> simp
  · rw [if_neg e]
    unfold one zero
    split
    · rw [if_neg (fun h => e h.symm)]
    · rfl
theorem tr_one (n a b : Nat) (ha : a < n) : tr n (one a b) = if a = b then 1 else 0 := by
  show S n (fun i => one a b i i) = _
  rw [S_congr n _ (fun i => if i = a then (if a = b then 1 else 0) else 0) (fun i _ => by unfold one; split <;> simp_all), S_pick n a _ ha]
theorem pow_one (n a b : Nat) (ha : a < n) (hb : b < n) (d : Nat) : tr n (pow n (one a b) (d + 1)) = tr n (one a b) := by
  by_cases e : a = b
  · have : ∀ d, pow n (one a b) d = one a b := by
      intro d
      induction d with
      | zero => rfl
      | succ d ih => rw [pow, ih, one_sq n a b hb, if_pos e]
    rw [this]
  · have : ∀ d, pow n (one a b) (d + 1) = zero := by
      intro d
      induction d with
      | zero => rw [pow, pow, one_sq n a b hb, if_neg e]
      | succ d ih => rw [pow, ih, mul_zero]
    rw [this, tr_zero, tr_one n a b ha, if_neg e]
theorem row_pick (A : Mat) (a b j : Nat) : A a b * one a b a j = if b = j then A a b else 0 := by
  unfold one
  rw [if_pos rfl]
  by_cases eb : b = j
  · subst eb; simp
  · rw [if_neg (fun h => eb h.symm), if_neg eb, Int.mul_zero]
/-- What every sum of single ones has. -/
theorem sums (n : Nat) (P : Mat → Prop) (h0 : P zero) (h1 : ∀ a b, a < n → b < n → P (one a b)) (hs : ∀ A B, P A → P B → P (add A B)) :
    ∀ A : Mat, (∀ i j, 0 ≤ A i j) → (∀ i j, n ≤ i ∨ n ≤ j → A i j = 0) → P A := by
  have hc : ∀ (c : Nat) a b, a < n → b < n → P (fun i j => (c : Int) * one a b i j) := by
    intro c a b ha hb
    induction c with
    | zero => have : (fun i j => ((0 : Nat) : Int) * one a b i j) = zero := by funext i j; simp [zero]
              rw [this]; exact h0
    | succ c ih =>
      have : (fun i j => ((c + 1 : Nat) : Int) * one a b i j) = add (fun i j => (c : Int) * one a b i j) (one a b) := by
        funext i j; show ((c + 1 : Nat) : Int) * one a b i j = (c : Int) * one a b i j + one a b i j
        rw [show ((c + 1 : Nat) : Int) = (c : Int) + 1 by omega, Int.add_mul, Int.one_mul]
      rw [this]; exact hs _ _ ih (h1 a b ha hb)
  have hS : ∀ (m : Nat) (F : Nat → Mat), (∀ k, k < m → P (F k)) → P (fun i j => S m (fun k => F k i j)) := by
    intro m F hF
    induction m with
    | zero => exact h0
    | succ m ih => exact hs _ _ (ih (fun k hk => hF k (by omega))) (hF m (by omega))
  intro A hA hz
  have e : A = fun i j => S n (fun a => S n (fun b => A a b * one a b i j)) := by
    funext i j
    have e1 : ∀ a, S n (fun b => A a b * one a b i j) = if a = i then (if j < n then A a j else 0) else 0 := by
      intro a
      by_cases ea : a = i
      · subst ea
        rw [if_pos rfl, S_congr n _ (fun b => if b = j then A a b else 0) (fun b _ => row_pick A a b j)]
        by_cases hj : j < n
        · rw [S_pick n j _ hj, if_pos hj]
        · rw [S_pick0 n j _ (by omega), if_neg hj]
      · rw [if_neg ea, S_congr n _ (fun _ => 0) (fun b _ => by unfold one; rw [if_neg (fun h => ea h.symm)]; simp), S_zero]
    show A i j = S n (fun a => S n (fun b => A a b * one a b i j))
    rw [S_congr n _ _ (fun a _ => e1 a)]
    by_cases hi : i < n
    · rw [S_pick n i _ hi]
      split
      · rfl
      · exact hz i j (by omega)
    · rw [S_pick0 n i _ (by omega)]
      exact hz i j (by omega)
  rw [e]
  refine hS n _ (fun a ha => hS n _ (fun b hb => ?_))
  have hn : ((A a b).toNat : Int) = A a b := Int.toNat_of_nonneg (hA a b)
  rw [← hn]
  exact hc _ a b ha hb
theorem gauss2 (n : Nat) : ∀ A : Mat, (∀ i j, 0 ≤ A i j) → (∀ i j, n ≤ i ∨ n ≤ j → A i j = 0) → ∃ z, tr n (pow n A 1) = tr n A + 2 * z := by
  refine sums n _ ⟨0, by rw [pow, pow, mul_zero]; omega⟩ (fun a b ha hb => ⟨0, by rw [pow_one n a b ha hb]; omega⟩) ?_
  rintro A B ⟨x, hx⟩ ⟨y, hy⟩
  exact ⟨x + y + tr n (mul n A B), by rw [tr2, tr_add, hx, hy]; omega⟩
theorem gauss3 (n : Nat) : ∀ A : Mat, (∀ i j, 0 ≤ A i j) → (∀ i j, n ≤ i ∨ n ≤ j → A i j = 0) → ∃ z, tr n (pow n A 2) = tr n A + 3 * z := by
  refine sums n _ ⟨0, by rw [pow, pow, pow, mul_zero, mul_zero]; omega⟩ (fun a b ha hb => ⟨0, by rw [pow_one n a b ha hb]; omega⟩) ?_
  rintro A B ⟨x, hx⟩ ⟨y, hy⟩
  obtain ⟨z, hz⟩ := tr3 n A B
  exact ⟨x + y + z, by rw [hz, tr_add, hx, hy]; omega⟩
theorem gauss5 (n : Nat) : ∀ A : Mat, (∀ i j, 0 ≤ A i j) → (∀ i j, n ≤ i ∨ n ≤ j → A i j = 0) → ∃ z, tr n (pow n A 4) = tr n A + 5 * z := by
  refine sums n _ ⟨0, by rw [pow, pow, pow, pow, pow, mul_zero, mul_zero, mul_zero, mul_zero]; omega⟩ (fun a b ha hb => ⟨0, by rw [pow_one n a b ha hb]; omega⟩) ?_
  rintro A B ⟨x, hx⟩ ⟨y, hy⟩
  obtain ⟨z, hz⟩ := tr5 n A B
  exact ⟨x + y + z, by rw [hz, tr_add, hx, hy]; omega⟩
theorem mul_nonneg (n : Nat) (A B : Mat) (ha : ∀ i j, 0 ≤ A i j) (hb : ∀ i j, 0 ≤ B i j) : ∀ i j, 0 ≤ mul n A B i j := by
  have : ∀ m (f : Nat → Int), (∀ k, 0 ≤ f k) → 0 ≤ S m f := by
    intro m f hf
    induction m with
    | zero => exact Int.le_refl _
    | succ m ih => rw [S]; have := hf m; omega
  exact fun i j => this n _ (fun k => Int.mul_nonneg (ha i k) (hb k j))
theorem mul_out (n : Nat) (A B : Mat) (ha : ∀ i j, n ≤ i ∨ n ≤ j → A i j = 0) (hb : ∀ i j, n ≤ i ∨ n ≤ j → B i j = 0) : ∀ i j, n ≤ i ∨ n ≤ j → mul n A B i j = 0 := by
  intro i j h
  show S n (fun k => A i k * B k j) = 0
  rw [S_congr n _ (fun _ => 0) (fun k hk => ?_), S_zero]
  rcases h with h | h
  · rw [ha i k (.inl h)]; exact Int.zero_mul _
  · rw [hb k j (.inr h)]; exact Int.mul_zero _
theorem gauss4 (n : Nat) (A : Mat) (hA : ∀ i j, 0 ≤ A i j) (hz : ∀ i j, n ≤ i ∨ n ≤ j → A i j = 0) : ∃ z, tr n (pow n A 3) = tr n (pow n A 1) + 4 * z := by
  have := sums n (fun A => ((∀ i j, 0 ≤ A i j) ∧ (∀ i j, n ≤ i ∨ n ≤ j → A i j = 0)) ∧ ∃ z, tr n (pow n A 3) = tr n (pow n A 1) + 4 * z)
    ⟨⟨fun _ _ => Int.le_refl _, fun _ _ _ => rfl⟩, 0, by rw [pow, pow, pow, pow, mul_zero, mul_zero, mul_zero]; omega⟩
    (fun a b ha hb => ⟨⟨fun i j => by unfold one; split; split; omega; omega; omega, fun i j h => by unfold one; split; split; omega; rfl; rfl⟩, 0, by rw [pow_one n a b ha hb, pow_one n a b ha hb 0]; omega⟩)
    (by
      rintro A B ⟨⟨a1, a2⟩, x, hx⟩ ⟨⟨b1, b2⟩, y, hy⟩
      refine ⟨⟨fun i j => Int.add_nonneg (a1 i j) (b1 i j), fun i j h => by show A i j + B i j = 0; rw [a2 i j h, b2 i j h]; rfl⟩, ?_⟩
      obtain ⟨z, hz⟩ := tr4 n A B
      obtain ⟨u, hu⟩ := gauss2 n (mul n A B) (mul_nonneg n A B a1 b1) (mul_out n A B a2 b2)
      exact ⟨x + y + z + u, by rw [hz, tr2, hx, hy, hu]; omega⟩)
    A hA hz
  exact this.2
theorem pow_add (n : Nat) (A : Mat) (d e : Nat) : mul n (pow n A d) (pow n A e) = pow n A (d + e + 1) := by
  induction d with
  | zero => rw [Nat.zero_add]; rfl
  | succ d ih => rw [pow, mul_assoc, ih, show d + 1 + e + 1 = (d + e + 1) + 1 by omega]; rfl
theorem gauss6 (n : Nat) (A : Mat) (hA : ∀ i j, 0 ≤ A i j) (hz : ∀ i j, n ≤ i ∨ n ≤ j → A i j = 0) : ∃ z, tr n (pow n A 5) - tr n (pow n A 2) - tr n (pow n A 1) + tr n A = 6 * z := by
  have n2 := mul_nonneg n A A hA hA
  have z2 := mul_out n A A hz hz
  have n3 := mul_nonneg n A _ hA n2
  have z3 := mul_out n A _ hz z2
  obtain ⟨x, hx⟩ := gauss2 n A hA hz
  obtain ⟨y, hy⟩ := gauss2 n (pow n A 2) n3 z3
  obtain ⟨u, hu⟩ := gauss3 n A hA hz
  obtain ⟨v, hv⟩ := gauss3 n (pow n A 1) n2 z2
  have e1 : pow n (pow n A 2) 1 = pow n A 5 := pow_add n A 2 2
  have e2 : pow n (pow n A 1) 2 = pow n A 5 := by
    show mul n (pow n A 1) (mul n (pow n A 1) (pow n A 1)) = _
    rw [pow_add n A 1 1, pow_add n A 1 3]
  rw [e1] at hy
  rw [e2] at hv
  exact ⟨(tr n (pow n A 5) - tr n (pow n A 2) - tr n (pow n A 1) + tr n A) / 6, by omega⟩
end Go.Proofs.Ytgdglnpgfngdoaa.Pu.Gauss

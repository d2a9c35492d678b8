/- The helpers of the laws over lists of whole numbers: what each comes to. -/
import Derived.Test.YtgdglnpgfngdoaaQx1
import Derived.Test.YtgdglnpgfngdoaaQx8
import Derived.Test.YtgdglnpgfngdoaaQx9
import Derived.Test.YtgdglnpgfngdoaaOwn
set_option linter.unusedVariables false
set_option linter.unusedSimpArgs false
namespace Go.Proofs.Ytgdglnpgfngdoaa.Pu
open Go.RowKit Go.Proofs.Ytgdglnpgfngdoaa.Q Go.Proofs.YtgdglnpgfngdoaaW.PrintWords Go.Proofs.YtgdglnpgfngdoaaW.PrintLast Go.Proofs.YtgdglnpgfngdoaaW.PrintMore

theorem w64 (x : Int) (h : -9223372036854775808 ≤ x ∧ x ≤ 9223372036854775807) : wrap64 x = x := by unfold wrap64; omega
theorem rd_nat (l : List Int) (i : Nat) : rd l (i : Int) = l.getD i 0 := by simp [rd]
theorem getD_set (l : List Int) (i j : Nat) (v : Int) (hi : i < l.length) : (l.set i v).getD j 0 = if i = j then v else l.getD j 0 := by
  simp only [List.getD_eq_getElem?_getD, List.getElem?_set]
  by_cases e : i = j
  · subst e; simp [hi]
  · simp [e]
theorem ext_getD (a b : List Int) (hl : a.length = b.length) (h : ∀ j, j < a.length → a.getD j 0 = b.getD j 0) : a = b := by
  apply List.ext_getElem hl
  intro j h1 h2
  have := h j h1
  simpa [List.getD_eq_getElem?_getD, h1, h2] using this

theorem toIntS_l (x0 : List Int) (hb : x0.length ≤ 9000000000000000000) : ∀ (d k : Nat) (x3 : List Int) (i : Nat), i + d = x0.length → x3.length = x0.length → (∀ j, j < i → x3.getD j 0 = x0.getD j 0) → d < k → laws_toIntS.l0 k x0 x3 (i : Int) = some x0 := by
  intro d
  induction d with
  | zero =>
    intro k x3 i hi hl hj hk
    obtain ⟨k, rfl⟩ : ∃ m, k = m + 1 := ⟨k - 1, by omega⟩
    simp only [laws_toIntS.l0]
    rw [if_neg (by omega), ext_getD x3 x0 hl (fun j h => hj j (by omega))]
  | succ d ih =>
    intro k x3 i hi hl hj hk
    obtain ⟨k, rfl⟩ : ∃ m, k = m + 1 := ⟨k - 1, by omega⟩
    simp only [laws_toIntS.l0]
    rw [if_pos (by omega), if_pos (by omega), if_pos (by omega), w64 _ (by omega), Int.toNat_natCast, rd_nat]
    refine ih k _ (i + 1) (by omega) (by simpa using hl) (fun j h => ?_) (by omega)
    rw [getD_set _ _ _ _ (by omega)]
    split
    · rename_i e; rw [e]
    · exact hj j (by omega)
theorem toIntS (l : List Int) (hb : l.length ≤ 35184372088832) (k : Nat) (hk : l.length < k) : laws_toIntS.f k l = some l := by
  unfold laws_toIntS.f
  rw [if_pos (by omega), if_pos (by omega)]
  exact toIntS_l l (by omega) l.length k _ 0 (by omega) (by simp) (fun j h => by omega) hk

theorem eqIntS_l (a b : List Int) (hl : a.length = b.length) (hb : a.length ≤ 9000000000000000000) : ∀ (d k : Nat) (i : Nat), i + d = a.length → (∀ j, j < i → a.getD j 0 = b.getD j 0) → d < k → laws_eqIntS.l0 k a b (i : Int) = some (decide (a = b)) := by
  intro d
  induction d with
  | zero =>
    intro k i hi hj hk
    obtain ⟨k, rfl⟩ : ∃ m, k = m + 1 := ⟨k - 1, by omega⟩
    simp only [laws_eqIntS.l0]
    have e : a = b := ext_getD a b hl (fun j h => hj j (by omega))
    rw [if_neg (by omega), decide_eq_true e]
  | succ d ih =>
    intro k i hi hj hk
    obtain ⟨k, rfl⟩ : ∃ m, k = m + 1 := ⟨k - 1, by omega⟩
    simp only [laws_eqIntS.l0]
    rw [if_pos (by omega), if_pos (by omega), if_pos (by omega), w64 _ (by omega), rd_nat, rd_nat]
    by_cases e : a.getD i 0 = b.getD i 0
    · rw [if_pos e]
      refine ih k (i + 1) (by omega) (fun j h => ?_) (by omega)
      by_cases e2 : j = i
      · rw [e2]; exact e
      · exact hj j (by omega)
    · rw [if_neg e, decide_eq_false (fun h => e (by rw [h]))]
theorem eqIntS (a b : List Int) (hb : a.length ≤ 9000000000000000000) (k : Nat) (hk : a.length < k) : laws_eqIntS.f k a b = some (decide (a = b)) := by
  unfold laws_eqIntS.f
  by_cases hl : a.length = b.length
  · rw [if_pos (by omega)]
    exact eqIntS_l a b hl hb a.length k 0 (by omega) (fun j h => by omega) hk
  · rw [if_neg (by omega), decide_eq_false (fun h => hl (by rw [h]))]
theorem eqIntS_self (a : List Int) (hb : a.length ≤ 9000000000000000000) (k : Nat) (hk : a.length < k) : laws_eqIntS.f k a a = some true := by
  rw [eqIntS a a hb k hk]; simp

/-- q, q + 1, .., n of them. -/
def marks (q : Int) : Nat → List Int
  | 0 => []
  | n + 1 => q :: marks (q + 1) n
theorem marks_length (q : Int) (n : Nat) : (marks q n).length = n := by
  induction n generalizing q with
  | zero => rfl
  | succ n ih => simp [marks, ih]
theorem marks_getD (q : Int) (n j : Nat) (h : j < n) : (marks q n).getD j 0 = q + j := by
  induction n generalizing q j with
  | zero => omega
  | succ n ih =>
    cases j with
    | zero => simp [marks]
    | succ j =>
      have := ih (q + 1) j (by omega)
      simp only [marks, List.getD_cons_succ, this]
      omega
theorem markIntS_l (n : Nat) (q : Int) (hq : -4000000000000000000 ≤ q ∧ q ≤ 4000000000000000000) (hb : n ≤ 4000000000000000000) : ∀ (d k : Nat) (x : List Int) (i : Nat), i + d = n → x.length = n → (∀ j, j < i → x.getD j 0 = q + j) → d < k → laws_markIntS.l0 k x (q + i) (i : Int) = some (q + n, marks q n) := by
  intro d
  induction d with
  | zero =>
    intro k x i hi hl hj hk
    obtain ⟨k, rfl⟩ : ∃ m, k = m + 1 := ⟨k - 1, by omega⟩
    simp only [laws_markIntS.l0]
    rw [if_neg (by omega), ext_getD x (marks q n) (by rw [marks_length, hl]) (fun j h => by rw [hj j (by omega), marks_getD _ _ _ (by omega)])]
    rw [show i = n by omega]
  | succ d ih =>
    intro k x i hi hl hj hk
    obtain ⟨k, rfl⟩ : ∃ m, k = m + 1 := ⟨k - 1, by omega⟩
    simp only [laws_markIntS.l0]
    rw [if_pos (by omega), if_pos (by omega), w64 _ (by omega), w64 _ (by omega), Int.toNat_natCast]
    have := ih k (x.set i (q + i)) (i + 1) (by omega) (by simpa using hl) (fun j h => by
      rw [getD_set _ _ _ _ (by omega)]
      split
      · rename_i e; rw [e]
      · exact hj j (by omega)) (by omega)
    rw [show q + ((i + 1 : Nat) : Int) = q + (i : Int) + 1 by omega] at this
    exact this
theorem markIntS (l : List Int) (q : Int) (hq : -4000000000000000000 ≤ q ∧ q ≤ 4000000000000000000) (hb : l.length ≤ 4000000000000000000) (k : Nat) (hk : l.length < k) : laws_markIntS.f k l q = some (q + l.length, marks q l.length) := by
  unfold laws_markIntS.f
  have := markIntS_l l.length q hq hb l.length k l 0 (by omega) rfl (fun j h => by omega) hk
  simpa using this
theorem heldIntS_l (n : Nat) (q : Int) (hq : -4000000000000000000 ≤ q ∧ q ≤ 4000000000000000000) (hb : n ≤ 4000000000000000000) : ∀ (d k : Nat) (i : Nat), i + d = n → d < k → laws_heldIntS.l0 k (marks q n) (q + i) (i : Int) = some (q + n) := by
  intro d
  induction d with
  | zero =>
    intro k i hi hk
    obtain ⟨k, rfl⟩ : ∃ m, k = m + 1 := ⟨k - 1, by omega⟩
    simp only [laws_heldIntS.l0, marks_length]
    rw [if_neg (by omega), show i = n by omega]
  | succ d ih =>
    intro k i hi hk
    obtain ⟨k, rfl⟩ : ∃ m, k = m + 1 := ⟨k - 1, by omega⟩
    simp only [laws_heldIntS.l0, marks_length]
    rw [if_pos (by omega), if_pos (by omega), rd_nat, marks_getD _ _ _ (by omega), if_pos rfl, w64 _ (by omega), w64 _ (by omega)]
    have := ih k (i + 1) (by omega) (by omega)
    rw [show q + ((i + 1 : Nat) : Int) = q + (i : Int) + 1 by omega] at this
    exact this
theorem heldIntS (n : Nat) (q : Int) (hq : -4000000000000000000 ≤ q ∧ q ≤ 4000000000000000000) (hb : n ≤ 4000000000000000000) (k : Nat) (hk : n < k) : laws_heldIntS.f k (marks q n) q = some (q + n) := by
  unfold laws_heldIntS.f
  have := heldIntS_l n q hq hb n k 0 (by omega) hk
  simpa using this
end Go.Proofs.Ytgdglnpgfngdoaa.Pu

/- Powers of a list of steps: what the reference's loop comes to. -/
import Derived.Test.YtgdglnpgfngdoaaQx15
import Derived.Test.YtgdglnpgfngdoaaPuPat
set_option linter.unusedVariables false
set_option linter.unusedSimpArgs false
namespace Go.Proofs.Ytgdglnpgfngdoaa.Pu
open Go.RowKit Go.Proofs.Ytgdglnpgfngdoaa.Q Go.Proofs.YtgdglnpgfngdoaaW.PrintWords Go.Proofs.YtgdglnpgfngdoaaW.PrintLast Go.Proofs.YtgdglnpgfngdoaaW.PrintMore
/-- So many steps from an element on. -/
def it (l : List Int) : Nat → Int → Int
  | 0, i => i
  | n + 1, i => it l n (rd l i)
def pows (l : List Int) (n : Nat) : Nat → Nat → List Int → List Int
  | 0, _, out => out
  | d + 1, i, out => pows l n d (i + 1) (out ++ [it l n i])
theorem pows_length (l : List Int) (n : Nat) : ∀ d i out, (pows l n d i out).length = out.length + d := by
  intro d
  induction d with
  | zero => intros; rfl
  | succ d ih => intro i out; simp [pows, ih]; omega
theorem foPower_l1 (l : List Int) (hr : InR l) (hl : l.length ≤ 9) (n : Int) (len i : Int) (out : List Int) (ho : out.length ≤ 9) (hi : 0 ≤ i ∧ i ≤ 9) : ∀ (d k : Nat) (c : Int), d ≤ 1000 → 0 ≤ c → c < l.length →
    spec_foPower.l1 (k + d + 1) l n out c (d : Int) len i = spec_foPower.l0 k l n (out ++ [it l d c]) len (i + 1) := by
  intro d
  induction d with
  | zero =>
    intro k c hd h0 h1
    simp only [spec_foPower.l1]
    rw [if_neg (by omega), if_pos (by omega), w64 _ (by omega)]
    rfl
  | succ d ih =>
    intro k c hd h0 h1
    have := hr.rd h0 h1
    rw [show k + (d + 1) + 1 = (k + d + 1) + 1 by omega]
    simp only [spec_foPower.l1]
    rw [if_pos (by omega), if_pos h0, if_pos h1, w64 _ (by omega), show ((d + 1 : Nat) : Int) - 1 = (d : Int) by omega]
    exact ih k (rd l c) (by omega) this.1 this.2
theorem foPower_l (l : List Int) (hr : InR l) (hl : l.length ≤ 9) (n : Nat) (hn : n ≤ 1000) : ∀ (d k i : Nat) (out : List Int), i + d = l.length → out.length = i → 1 + d * (n + 2) ≤ k →
    spec_foPower.l0 k l (n : Int) out (l.length : Int) (i : Int) = some (pows l n d i out) := by
  intro d
  induction d with
  | zero =>
    intro k i out hi ho hk
    obtain ⟨k, rfl⟩ : ∃ m, k = m + 1 := ⟨k - 1, by omega⟩
    simp only [spec_foPower.l0]
    rw [if_neg (by omega)]
    rfl
  | succ d ih =>
    intro k i out hi ho hk
    have e : (d + 1) * (n + 2) = d * (n + 2) + (n + 2) := Nat.succ_mul ..
    obtain ⟨k, rfl⟩ : ∃ m, k = m + n + 2 := ⟨k - (n + 2), by omega⟩
    rw [show k + n + 2 = (k + n + 1) + 1 by omega]
    simp only [spec_foPower.l0]
    rw [if_pos (by omega), foPower_l1 l hr hl n l.length i out (by omega) (by omega) n k i hn (by omega) (by omega)]
    exact ih k (i + 1) _ (by omega) (by simp; omega) (by omega)
theorem pows_getD (l : List Int) (n : Nat) : ∀ (d i : Nat) (out : List Int) (j : Nat), out.length = i → j < i + d → (pows l n d i out).getD j 0 = if j < i then out.getD j 0 else it l n j := by
  intro d
  induction d with
  | zero => intro i out j ho hj; rw [if_pos (by omega)]; rfl
  | succ d ih =>
    intro i out j ho hj
    unfold pows
    rw [ih (i + 1) _ j (by simp; omega) (by omega)]
    by_cases h : j < i
    · rw [if_pos (by omega), if_pos h]
      simp only [List.getD_eq_getElem?_getD]
      rw [List.getElem?_append_left (by omega)]
    · rw [if_neg h]
      by_cases e : j = i
      · subst e
        rw [if_pos (by omega)]
        simp only [List.getD_eq_getElem?_getD]
        rw [List.getElem?_append_right (by omega)]
        simp [ho]
      · rw [if_neg (by omega)]
end Go.Proofs.Ytgdglnpgfngdoaa.Pu

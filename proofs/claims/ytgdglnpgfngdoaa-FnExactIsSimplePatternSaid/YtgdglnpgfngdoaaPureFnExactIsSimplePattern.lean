/- The statement FnExactIsSimplePattern: for every input the law returns true, and its argument reads afterwards as it read before. -/
import Derived.Test.YtgdglnpgfngdoaaQx15
import Derived.Test.YtgdglnpgfngdoaaQx24
import Derived.Test.YtgdglnpgfngdoaaQx25
import Derived.Test.YtgdglnpgfngdoaaQx26
import Derived.Test.YtgdglnpgfngdoaaQx27
import Derived.Test.YtgdglnpgfngdoaaPuPow
set_option linter.unusedVariables false
set_option linter.unusedSimpArgs false
namespace Go.Proofs.Ytgdglnpgfngdoaa.Pure
open Go.RowKit Go.Proofs.Ytgdglnpgfngdoaa.Q Go.Proofs.Ytgdglnpgfngdoaa.Pu Go.Proofs.YtgdglnpgfngdoaaW.PrintWords Go.Proofs.YtgdglnpgfngdoaaW.PrintLast Go.Proofs.YtgdglnpgfngdoaaW.PrintMore

/-- The two halves behind two steps. -/
def low (l : List Int) (h : Nat) : List Int := (List.range h).map fun (i : Nat) => rd l (rd l (i : Int))
def high (l : List Int) (h : Nat) : List Int := (List.range h).map fun (i : Nat) => rd l (rd l ((h + i : Nat) : Int)) - h
/-- From place i on: the halves are exchanged. -/
def Swaps (l : List Int) (h : Nat) : Prop := ∀ i, i < h → h ≤ rd l (i : Int) ∧ rd l ((h + i : Nat) : Int) < h
instance (l : List Int) (h : Nat) : Decidable (Swaps l h) := by unfold Swaps; infer_instance
def smp : Nat → List Int → Bool
  | 0, _ => false
  | m + 1, l => if l.length = 1 then true else if l.length % 2 = 1 then false else if Swaps l (l.length / 2) then smp m (low l (l.length / 2)) && smp m (high l (l.length / 2)) else false
theorem low_length (l : List Int) (h : Nat) : (low l h).length = h := by simp [low]
theorem high_length (l : List Int) (h : Nat) : (high l h).length = h := by simp [high]
theorem low_getD (l : List Int) (h i : Nat) (hi : i < h) : (low l h).getD i 0 = rd l (rd l (i : Int)) := by
  simp [low, List.getD_eq_getElem?_getD, hi]
theorem high_getD (l : List Int) (h i : Nat) (hi : i < h) : (high l h).getD i 0 = rd l (rd l ((h + i : Nat) : Int)) - h := by
  simp [high, List.getD_eq_getElem?_getD, hi]
theorem low_in (l : List Int) (hr : InR l) (h : Nat) (hl : l.length = 2 * h) (hs : Swaps l h) : InR (low l h) := by
  intro x hx
  rw [low_length]
  obtain ⟨i, hi, rfl⟩ := mem_index _ x hx
  rw [low_length] at hi
  rw [low_getD _ _ _ hi]
  have h1 := hs i hi
  have h2 := hr.rd (i := (i : Int)) (by omega) (by omega)
  have h3 := hs (rd l (i : Int) - h).toNat (by omega)
  rw [show ((h + (rd l (i : Int) - h).toNat : Nat) : Int) = rd l (i : Int) by omega] at h3
  have h4 := hr.rd h2.1 h2.2
  omega
theorem high_in (l : List Int) (hr : InR l) (h : Nat) (hl : l.length = 2 * h) (hs : Swaps l h) : InR (high l h) := by
  intro x hx
  rw [high_length]
  obtain ⟨i, hi, rfl⟩ := mem_index _ x hx
  rw [high_length] at hi
  rw [high_getD _ _ _ hi]
  have h1 := hs i hi
  have h2 := hr.rd (i := ((h + i : Nat) : Int)) (by omega) (by omega)
  have h3 := hs (rd l ((h + i : Nat) : Int)).toNat (by omega)
  rw [show (((rd l ((h + i : Nat) : Int)).toNat : Nat) : Int) = rd l ((h + i : Nat) : Int) by omega] at h3
  have h4 := hr.rd h2.1 h2.2
  omega

theorem impl_l (l : List Int) (hr : InR l) (hl9 : l.length ≤ 9) (h : Nat) (hl : l.length = 2 * h) : ∀ (d k i : Nat) (one two : List Int), i + d = h → one.length = h → two.length = h →
    (∀ j, j < i → h ≤ rd l (j : Int) ∧ rd l ((h + j : Nat) : Int) < h) → (∀ j, j < i → one.getD j 0 = (low l h).getD j 0 ∧ two.getD j 0 = (high l h).getD j 0) →
    impl_isSimplePattern.l0 (k + d + 1) l (h : Int) one two (h : Int) (i : Int) = if Swaps l h then (impl_isSimplePattern.f k (low l h)).bind fun t => if t = true then (impl_isSimplePattern.f k (high l h)).bind fun t2 => some t2 else some false else some false := by
  intro d
  induction d with
  | zero =>
    intro k i one two hi ho ht hj hv
    simp only [impl_isSimplePattern.l0]
    rw [if_neg (by omega), if_pos (show Swaps l h from fun j h2 => hj j (by omega)), ext_getD one (low l h) (by rw [low_length, ho]) (fun j h2 => (hv j (by omega)).1), ext_getD two (high l h) (by rw [high_length, ht]) (fun j h2 => (hv j (by omega)).2)]
  | succ d ih =>
    intro k i one two hi ho ht hj hv
    rw [show k + (d + 1) + 1 = (k + d + 1) + 1 by omega]
    simp only [impl_isSimplePattern.l0]
    have h1 := hr.rd (i := (i : Int)) (by omega) (by omega)
    have h2 := hr.rd (i := ((h + i : Nat) : Int)) (by omega) (by omega)
    rw [if_pos (by omega), if_pos (by omega), if_pos (by omega)]
    by_cases c1 : rd l (i : Int) < h
    · rw [if_pos c1, if_neg (fun hs => by have := hs i (by omega); omega)]
    · rw [if_neg c1, w64 ((h : Int) + i) (by omega), show (h : Int) + i = ((h + i : Nat) : Int) by omega, if_pos (by omega), if_pos (by omega)]
      by_cases c2 : rd l ((h + i : Nat) : Int) ≥ h
      · rw [if_pos c2, if_neg (fun hs => by have := hs i (by omega); omega)]
      · have h3 := hr.rd h1.1 h1.2
        have h4 := hr.rd h2.1 h2.2
        rw [if_neg c2, if_pos h1.1, if_pos h1.2, if_pos h2.1, if_pos h2.2, if_pos (by omega), if_pos (by omega), w64 (_ - (h : Int)) (by omega), w64 (_ + 1) (by omega), Int.toNat_natCast]
        refine ih k (i + 1) _ _ (by omega) (by simpa using ho) (by simpa using ht) (fun j hj2 => ?_) (fun j hj2 => ?_)
        · by_cases e : j = i
          · subst e; omega
          · exact hj j (by omega)
        · rw [getD_set _ _ _ _ (by omega), getD_set _ _ _ _ (by omega)]
          by_cases e : i = j
          · subst e
            rw [if_pos rfl, if_pos rfl, low_getD _ _ _ (by omega), high_getD _ _ _ (by omega)]
            exact ⟨rfl, rfl⟩
          · rw [if_neg e, if_neg e]
            exact hv j (by omega)
theorem impl_f : ∀ (m : Nat) (l : List Int), InR l → 1 ≤ l.length → l.length ≤ 9 → l.length ≤ m → ∀ k, 20 * m ≤ k → impl_isSimplePattern.f k l = some (smp m l) := by
  intro m
  induction m with
  | zero => intro l _ h1 _ h2; omega
  | succ m ih =>
    intro l hr h1 h9 hm k hk
    obtain ⟨k, rfl⟩ : ∃ q, k = q + 20 := ⟨k - 20, by omega⟩
    rw [show k + 20 = (k + 19) + 1 by omega]
    simp only [impl_isSimplePattern.f]
    unfold smp
    by_cases e1 : l.length = 1
    · rw [if_pos (by omega), if_pos e1]
    · rw [if_neg (by omega), if_neg e1]
      by_cases e2 : l.length % 2 = 1
      · rw [if_pos (by omega), if_pos e2]
      · rw [if_neg (by omega), if_neg e2, show (l.length : Int) / 2 = ((l.length / 2 : Nat) : Int) by omega, w64 _ (by omega), if_pos (by omega), if_pos (by omega), Int.toNat_natCast]
        have hq : k + 19 = (k + 18 - l.length / 2) + l.length / 2 + 1 := by omega
        rw [hq, show (0 : Int) = ((0 : Nat) : Int) from rfl, impl_l l hr h9 (l.length / 2) (by omega) (l.length / 2) _ 0 _ _ (by omega) (by simp) (by simp) (fun j h => by omega) (fun j h => by omega)]
        by_cases hs : Swaps l (l.length / 2)
        · rw [if_pos hs, if_pos hs, ih _ (low_in l hr _ (by omega) hs) (by rw [low_length]; omega) (by rw [low_length]; omega) (by rw [low_length]; omega) _ (by omega)]
          simp only [Option.bind_some]
          rw [ih _ (high_in l hr _ (by omega) hs) (by rw [high_length]; omega) (by rw [high_length]; omega) (by rw [high_length]; omega) _ (by omega)]
          cases smp m (low l (l.length / 2)) <;> rfl
        · rw [if_neg hs, if_neg hs]
theorem spec_l1 (l : List Int) (hr : InR l) (hl9 : l.length ≤ 9) (h : Nat) (hl : l.length = 2 * h) (p : List Int) (hp : p.length = l.length) (hpv : ∀ j, j < l.length → p.getD j 0 = rd l (rd l (j : Int))) :
    ∀ (d k i : Nat) (one two : List Int), i + d = l.length → one.length = min i h → two.length = i - h → (∀ j, j < one.length → one.getD j 0 = (low l h).getD j 0) → (∀ j, j < two.length → two.getD j 0 = (high l h).getD j 0) →
    spec_foSimple.l1 (k + d + 1) (l.length : Int) one two p (l.length : Int) (i : Int) = (spec_foSimple.f k (low l h)).bind fun t => if t = true then (spec_foSimple.f k (high l h)).bind fun t2 => some t2 else some false := by
  intro d
  induction d with
  | zero =>
    intro k i one two hi ho ht h1 h2
    simp only [spec_foSimple.l1]
    rw [if_neg (by omega), ext_getD one (low l h) (by rw [low_length]; omega) h1, ext_getD two (high l h) (by rw [high_length]; omega) h2]
  | succ d ih =>
    intro k i one two hi ho ht h1 h2
    obtain ⟨q, hq⟩ : ∃ q, q = k + d + 1 := ⟨_, rfl⟩
    rw [show k + (d + 1) + 1 = q + 1 by omega]
    simp only [spec_foSimple.l1]
    have h3 := hr.rd (i := (i : Int)) (by omega) (by omega)
    have h4 := hr.rd h3.1 h3.2
    rw [if_pos (by omega), if_pos (by omega), if_pos (by omega), rd_nat, hpv i (by omega), Int.tdiv_eq_ediv_of_nonneg (by omega), show (l.length : Int) / 2 = (h : Int) by omega, w64 (h : Int) (by omega)]
    by_cases c : (i : Int) < h
    · rw [if_pos c, if_pos (by omega), w64 _ (by omega)]
      rw [hq]
      refine ih k (i + 1) (one ++ [rd l (rd l (i : Int))]) two (by omega) (by rw [List.length_append, List.length_singleton, ho, Nat.min_eq_left (by omega), Nat.min_eq_left (by omega)]) (by omega) (fun j hj => ?_) h2
      by_cases e : j = i
      · subst e
        rw [low_getD _ _ _ (by omega)]
        simp only [List.getD_eq_getElem?_getD]
        rw [List.getElem?_append_right (by omega)]
        simp [show j - one.length = 0 by omega]
      · rw [List.length_append, List.length_singleton] at hj
        have := h1 j (by omega)
        simp only [List.getD_eq_getElem?_getD] at this ⊢
        rw [List.getElem?_append_left (by omega)]
        exact this
    · rw [if_neg c, if_pos (by omega), w64 (_ - (h : Int)) (by omega), w64 _ (by omega)]
      rw [hq]
      refine ih k (i + 1) one (two ++ [rd l (rd l (i : Int)) - (h : Int)]) (by omega) (by rw [ho, Nat.min_eq_right (by omega), Nat.min_eq_right (by omega)]) (by rw [List.length_append, List.length_singleton]; omega) h1 (fun j hj => ?_)
      by_cases e : j = i - h
      · subst e
        rw [high_getD _ _ _ (by omega), show h + (i - h) = i by omega]
        simp only [List.getD_eq_getElem?_getD]
        rw [List.getElem?_append_right (by omega)]
        simp [show i - h - two.length = 0 by omega]
      · rw [List.length_append, List.length_singleton] at hj
        have := h2 j (by omega)
        simp only [List.getD_eq_getElem?_getD] at this ⊢
        rw [List.getElem?_append_left (by omega)]
        exact this
/-- As the reference asks it. -/
def Apart (l : List Int) (h j : Nat) : Prop := j < h ↔ (h : Int) ≤ rd l (j : Int)
theorem apart_swaps (l : List Int) (h : Nat) (hl : l.length = 2 * h) : (∀ j, j < l.length → Apart l h j) ↔ Swaps l h := by
  unfold Apart
  constructor
  · intro ha i hi
    have h1 := ha i (by omega)
    have h2 := ha (h + i) (by omega)
    omega
  · intro hs j hj
    by_cases c : j < h
    · have := hs j c
      omega
    · have := hs (j - h) (by omega)
      rw [show h + (j - h) = j by omega] at this
      omega
theorem spec_l0 (l : List Int) (hr : InR l) (hl9 : l.length ≤ 9) (h : Nat) (hl : l.length = 2 * h) : ∀ (d k i : Nat), i + d = l.length → 100 ≤ k → (∀ j, j < i → Apart l h j) →
    spec_foSimple.l0 (k + d + 1) l (l.length : Int) l (l.length : Int) (i : Int) = if Swaps l h then (spec_foSimple.f (k - l.length - 1) (low l h)).bind fun t => if t = true then (spec_foSimple.f (k - l.length - 1) (high l h)).bind fun t2 => some t2 else some false else some false := by
  intro d
  induction d with
  | zero =>
    intro k i hi hk ha
    simp only [spec_foSimple.l0]
    have hs : Swaps l h := (apart_swaps l h hl).1 (fun j hj => ha j (by omega))
    have hp2 : spec_foPower.f k l 2 = some (pows l 2 l.length 0 []) := foPower_l l hr hl9 2 (by omega) l.length k 0 [] (by omega) rfl (by omega)
    rw [if_neg (by omega), if_pos hs]
    change ((spec_foPower.f k l 2).bind _) = _
    rw [hp2]
    simp only [Option.bind_some]
    have hlen : (pows l 2 l.length 0 []).length = l.length := by simp [pows_length]
    have := spec_l1 l hr hl9 h hl _ hlen (fun j hj => by rw [pows_getD l 2 l.length 0 [] j rfl (by omega), if_neg (by omega)]; rfl) l.length (k - l.length - 1) 0 [] [] (by omega) (by simp) (by simp) (fun j hj => by simp at hj) (fun j hj => by simp at hj)
    rw [show k - l.length - 1 + l.length + 1 = k by omega] at this
    rw [hlen]
    exact this
  | succ d ih =>
    intro k i hi hk ha
    obtain ⟨q, hq⟩ : ∃ q, q = k + d + 1 := ⟨_, rfl⟩
    rw [show k + (d + 1) + 1 = q + 1 by omega]
    simp only [spec_foSimple.l0]
    rw [if_pos (by omega), if_pos (by omega), if_pos (by omega), Int.tdiv_eq_ediv_of_nonneg (by omega), show (l.length : Int) / 2 = (h : Int) by omega, w64 (h : Int) (by omega), w64 _ (by omega)]
    by_cases c : Apart l h i
    · rw [if_neg (by
        unfold Apart at c
        by_cases c1 : i < h
        · have := c.1 c1
          rw [decide_eq_true (by omega), decide_eq_false (by omega)]; decide
        · have : ¬ (h : Int) ≤ rd l (i : Int) := fun hh => c1 (c.2 hh)
          rw [decide_eq_false (by omega), decide_eq_true (by omega)]; decide)]
      rw [hq]
      refine ih k (i + 1) (by omega) hk (fun j hj => ?_)
      by_cases e : j = i
      · subst e; exact c
      · exact ha j (by omega)
    · rw [if_pos (by
        unfold Apart at c
        by_cases c1 : i < h
        · have : ¬ (h : Int) ≤ rd l (i : Int) := fun hh => c ⟨fun _ => hh, fun _ => c1⟩
          rw [decide_eq_true (by omega), decide_eq_true (by omega)]; decide
        · have : (h : Int) ≤ rd l (i : Int) := Classical.byContradiction fun hh => c ⟨fun h2 => absurd h2 c1, fun h2 => absurd h2 hh⟩
          rw [decide_eq_false (by omega), decide_eq_false (by omega)]; decide), if_neg (fun hs => c ((apart_swaps l h hl).2 hs i (by omega)))]
theorem spec_f : ∀ (m : Nat) (l : List Int), InR l → 1 ≤ l.length → l.length ≤ 9 → l.length ≤ m → ∀ k, 200 * m ≤ k → spec_foSimple.f k l = some (smp m l) := by
  intro m
  induction m with
  | zero => intro l _ h1 _ h2; omega
  | succ m ih =>
    intro l hr h1 h9 hm k hk
    obtain ⟨k, rfl⟩ : ∃ q, k = q + 200 := ⟨k - 200, by omega⟩
    rw [show k + 200 = (k + 199) + 1 by omega]
    simp only [spec_foSimple.f]
    unfold smp
    by_cases e1 : l.length = 1
    · have := hr.rd (i := 0) (by omega) (by omega)
      rw [if_pos (by omega), if_pos (by omega), if_pos e1, show rd l 0 = 0 by omega]
      rfl
    · rw [if_neg (by omega), if_neg e1]
      by_cases e2 : l.length % 2 = 1
      · rw [if_neg (by omega), if_pos e2]
      · rw [if_pos (by omega), if_neg e2]
        have hq : k + 199 = (k + 198 - l.length) + l.length + 1 := by omega
        rw [hq, show (0 : Int) = ((0 : Nat) : Int) from rfl, spec_l0 l hr h9 (l.length / 2) (by omega) l.length _ 0 (by omega) (by omega) (fun j h => by omega)]
        by_cases hs : Swaps l (l.length / 2)
        · rw [if_pos hs, if_pos hs, ih _ (low_in l hr _ (by omega) hs) (by rw [low_length]; omega) (by rw [low_length]; omega) (by rw [low_length]; omega) _ (by omega)]
          simp only [Option.bind_some]
          rw [ih _ (high_in l hr _ (by omega) hs) (by rw [high_length]; omega) (by rw [high_length]; omega) (by rw [high_length]; omega) _ (by omega)]
          cases smp m (low l (l.length / 2)) <;> rfl
        · rw [if_neg hs, if_neg hs]
def simOf (l : List Int) : Bool × Bool := if IsPat l then (smp 9 l, true) else (false, false)
theorem impl_eq (l : List Int) (hl : l.length ≤ 1048576) (k : Nat) (hk : 2000000 ≤ k) : impl_IsSimplePattern.f k l = some (simOf l) := by
  unfold impl_IsSimplePattern.f simOf
  rw [isPattern l (by omega) _ (by omega)]
  simp only [Option.bind_some]
  by_cases h : IsPat l
  · rw [decide_eq_true h, if_pos rfl, if_pos h, impl_f 9 l h.2.2.1 h.1 h.2.1 h.2.1 k (by omega)]
    rfl
  · rw [decide_eq_false h, if_neg (by decide), if_neg h]
theorem spec_eq (l : List Int) (hl : l.length ≤ 1048576) (k : Nat) (hk : 2000000 ≤ k) : spec_IsSimplePattern.f k l = some (simOf l) := by
  unfold spec_IsSimplePattern.f simOf
  rw [ptGood l (by omega) _ (by omega)]
  simp only [Option.bind_some]
  by_cases h : IsPat l
  · rw [decide_eq_true h, if_pos rfl, if_pos h, spec_f 9 l h.2.2.1 h.1 h.2.1 h.2.1 k (by omega)]
    rfl
  · rw [decide_eq_false h, if_neg (by decide), if_neg h]
theorem FnExactIsSimplePattern : laws_FnExactIsSimplePattern.Pure := by
  intro l0 _ _ _
  refine ⟨2000005, ?_⟩
  unfold laws_FnExactIsSimplePattern.f
  by_cases hb : (l0.length : Int) > 1048576
  · rw [if_pos hb]
  · have hl : l0.length ≤ 1048576 := by omega
    rw [if_neg hb, toIntS l0 (by omega) _ (by omega)]
    simp only [Option.bind_some]
    rw [spec_eq l0 hl _ (by omega), impl_eq l0 hl _ (by omega)]
    simp only [Option.bind_some, bne_self_eq_false, laws_FnExactIsSimplePattern.j0]
    rw [if_neg (by decide), if_neg (by decide), toIntS l0 (by omega) _ (by omega)]
    simp only [Option.bind_some]
    rw [eqIntS_self l0 (by omega) _ (by omega)]
    simp only [Option.bind_some, if_true]
end Go.Proofs.Ytgdglnpgfngdoaa.Pure

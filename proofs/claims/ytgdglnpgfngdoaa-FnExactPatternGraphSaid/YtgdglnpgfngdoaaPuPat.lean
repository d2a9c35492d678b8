/- Patterns: the program's and the reference's tests of them come to one Boolean. -/
import Derived.Test.YtgdglnpgfngdoaaQx2
import Derived.Test.YtgdglnpgfngdoaaQx3
import Derived.Test.YtgdglnpgfngdoaaQx5
import Derived.Test.YtgdglnpgfngdoaaQx6
import Derived.Test.YtgdglnpgfngdoaaPuList
set_option linter.unusedVariables false
set_option linter.unusedSimpArgs false
namespace Go.Proofs.Ytgdglnpgfngdoaa.Pu
open Go.RowKit Go.Proofs.Ytgdglnpgfngdoaa.Q Go.Proofs.YtgdglnpgfngdoaaW.PrintWords Go.Proofs.YtgdglnpgfngdoaaW.PrintLast Go.Proofs.YtgdglnpgfngdoaaW.PrintMore

theorem index_l (l : List Int) (x : Int) (hb : l.length ≤ 9000000000000000000) : ∀ (d k : Nat) (i : Nat), i + d = l.length → (∀ j, j < i → l.getD j 0 ≠ x) → d < k →
    ∃ r, slices_Index_int_int.l0 k l x (l.length : Int) (i : Int) = some r ∧ (r ≥ 0 ↔ x ∈ l) := by
  intro d
  induction d with
  | zero =>
    intro k i hi hj hk
    obtain ⟨k, rfl⟩ : ∃ m, k = m + 1 := ⟨k - 1, by omega⟩
    simp only [slices_Index_int_int.l0]
    rw [if_neg (by omega)]
    refine ⟨_, rfl, ?_⟩
    constructor
    · omega
    · intro h
      obtain ⟨j, h1, h2⟩ := mem_index l x h
      exact absurd h2 (hj j (by omega))
  | succ d ih =>
    intro k i hi hj hk
    obtain ⟨k, rfl⟩ : ∃ m, k = m + 1 := ⟨k - 1, by omega⟩
    simp only [slices_Index_int_int.l0]
    rw [if_pos (by omega), if_pos (by omega), if_pos (by omega), w64 _ (by omega), rd_nat]
    by_cases e : x = l.getD i 0
    · rw [if_pos e]
      exact ⟨_, rfl, by constructor <;> intro _; exact e ▸ mem_getD l i (by omega); omega⟩
    · rw [if_neg e]
      exact ih k (i + 1) (by omega) (fun j h => by
        by_cases e2 : j = i
        · rw [e2]; exact fun h => e h.symm
        · exact hj j (by omega)) (by omega)
theorem contains (l : List Int) (x : Int) (hb : l.length ≤ 9000000000000000000) (k : Nat) (hk : l.length < k) : slices_Contains_int_int.f k l x = some (decide (x ∈ l)) := by
  unfold slices_Contains_int_int.f slices_Index_int_int.f
  obtain ⟨r, h, hr⟩ := index_l l x hb l.length k 0 (by omega) (fun j h => by omega) hk
  rw [show ((0 : Nat) : Int) = 0 from rfl] at h
  rw [h]
  simp [hr]
/-- The elements that are met from i on until one is met again. -/
def cyc (l : List Int) : Nat → List Int → Int → List Int
  | 0, out, _ => out
  | m + 1, out, i => if i ∈ out then out else cyc l m (out ++ [i]) (rd l i)
theorem cyc_in (l : List Int) (hr : InR l) : ∀ (m : Nat) (out : List Int) (i : Int), (∀ x ∈ out, 0 ≤ x ∧ x < (l.length : Int)) → 0 ≤ i → i < l.length → ∀ x ∈ cyc l m out i, 0 ≤ x ∧ x < (l.length : Int) := by
  intro m
  induction m with
  | zero => intro out i h _ _; exact h
  | succ m ih =>
    intro out i h h0 h1
    unfold cyc
    split
    · exact h
    · exact ih _ _ (fun x hx => by
        rcases List.mem_append.1 hx with hx | hx
        · exact h x hx
        · simp at hx; omega) (hr.rd h0 h1).1 (hr.rd h0 h1).2
theorem snoc_nodup {out : List Int} {i : Int} (hn : out.Nodup) (e : i ∉ out) : (out ++ [i]).Nodup := by
  rw [List.nodup_append]
  exact ⟨hn, by simp, fun a ha b hb => by simp at hb; subst hb; exact fun h => e (h ▸ ha)⟩
theorem cyc_impl (l : List Int) (hr : InR l) (hl : l.length ≤ 1000000) : ∀ (m k : Nat) (out : List Int) (i : Int), out.Nodup → (∀ x ∈ out, 0 ≤ x ∧ x < (l.length : Int)) → 0 ≤ i → i < l.length → out.length + m = l.length → 2 * l.length + 2 ≤ k + out.length →
    impl_cycleOf.l0 k l out i = some (cyc l (m + 1) out i) := by
  intro m
  induction m with
  | zero =>
    intro k out i hn h h0 h1 hm hk
    obtain ⟨k, rfl⟩ : ∃ m, k = m + 1 := ⟨k - 1, by omega⟩
    have hi : i ∈ out := by
      refine Classical.byContradiction fun e => ?_
      have := few l.length (out ++ [i]) (snoc_nodup hn e) (fun x hx => by
        rcases List.mem_append.1 hx with hx | hx
        · exact h x hx
        · simp at hx; omega)
      simp at this; omega
    simp only [impl_cycleOf.l0, cyc]
    rw [contains out i (by omega) k (by omega)]
    simp [hi]
  | succ m ih =>
    intro k out i hn h h0 h1 hm hk
    obtain ⟨k, rfl⟩ : ∃ m, k = m + 1 := ⟨k - 1, by omega⟩
    simp only [impl_cycleOf.l0]
    rw [contains out i (by omega) k (by omega)]
    simp only [Option.bind_some]
    unfold cyc
    by_cases hi : i ∈ out
    · simp [hi]
    · rw [if_neg (by simpa using hi), if_pos (by omega), if_pos h0, if_pos h1, if_neg hi]
      exact ih k _ _ (snoc_nodup hn hi) (fun x hx => by
        rcases List.mem_append.1 hx with hx | hx
        · exact h x hx
        · simp at hx; omega) (hr.rd h0 h1).1 (hr.rd h0 h1).2 (by simp; omega) (by simp; omega)
theorem cyc_spec (l : List Int) (hr : InR l) (hl : l.length ≤ 1000000) : ∀ (m k : Nat) (out : List Int) (i : Int), out.Nodup → (∀ x ∈ out, 0 ≤ x ∧ x < (l.length : Int)) → 0 ≤ i → i < l.length → out.length + m = l.length → 2 * l.length + 2 ≤ k + out.length →
    spec_ptCycle.l0 k l out i = some (cyc l (m + 1) out i) := by
  intro m
  induction m with
  | zero =>
    intro k out i hn h h0 h1 hm hk
    obtain ⟨k, rfl⟩ : ∃ m, k = m + 1 := ⟨k - 1, by omega⟩
    have hi : i ∈ out := by
      refine Classical.byContradiction fun e => ?_
      have := few l.length (out ++ [i]) (snoc_nodup hn e) (fun x hx => by
        rcases List.mem_append.1 hx with hx | hx
        · exact h x hx
        · simp at hx; omega)
      simp at this; omega
    simp only [spec_ptCycle.l0, cyc]
    rw [has out i (by omega) k (by omega)]
    simp [hi]
  | succ m ih =>
    intro k out i hn h h0 h1 hm hk
    obtain ⟨k, rfl⟩ : ∃ m, k = m + 1 := ⟨k - 1, by omega⟩
    simp only [spec_ptCycle.l0]
    rw [has out i (by omega) k (by omega)]
    simp only [Option.bind_some]
    unfold cyc
    by_cases hi : i ∈ out
    · simp [hi]
    · rw [if_neg (by simpa using hi), if_pos (by omega), if_pos h0, if_pos h1, if_neg hi]
      exact ih k _ _ (snoc_nodup hn hi) (fun x hx => by
        rcases List.mem_append.1 hx with hx | hx
        · exact h x hx
        · simp at hx; omega) (hr.rd h0 h1).1 (hr.rd h0 h1).2 (by simp; omega) (by simp; omega)
def cycle (l : List Int) : List Int := cyc l (l.length + 1) [] 0
theorem cycleOf (l : List Int) (hr : InR l) (h1 : 1 ≤ l.length) (hl : l.length ≤ 1000000) (k : Nat) (hk : 2 * l.length + 2 ≤ k) : impl_cycleOf.f k l = some (cycle l) :=
  cyc_impl l hr hl l.length k [] 0 (by simp) (by simp) (by omega) (by omega) (by simp) (by simpa using hk)
theorem ptCycle (l : List Int) (hr : InR l) (h1 : 1 ≤ l.length) (hl : l.length ≤ 1000000) (k : Nat) (hk : 2 * l.length + 2 ≤ k) : spec_ptCycle.f k l = some (cycle l) :=
  cyc_spec l hr hl l.length k [] 0 (by simp) (by simp) (by omega) (by omega) (by simp) (by simpa using hk)
theorem cycle_in (l : List Int) (hr : InR l) (h1 : 1 ≤ l.length) : ∀ x ∈ cycle l, 0 ≤ x ∧ x < (l.length : Int) := cyc_in l hr _ _ _ (by simp) (by omega) (by omega)

/-- What both take for a pattern. -/
def IsPat (l : List Int) : Prop := 1 ≤ l.length ∧ l.length ≤ 9 ∧ InR l ∧ (cycle l).length = l.length ∧ rd l (rd (cycle l) ((l.length : Int) - 1)) = 0
instance (l : List Int) : Decidable (InR l) := by unfold InR; infer_instance
instance (l : List Int) : Decidable (IsPat l) := by unfold IsPat; infer_instance
theorem last_in (l : List Int) (hr : InR l) (h1 : 1 ≤ l.length) (hc : (cycle l).length = l.length) : 0 ≤ rd (cycle l) ((l.length : Int) - 1) ∧ rd (cycle l) ((l.length : Int) - 1) < l.length := by
  rw [show (l.length : Int) - 1 = ((l.length - 1 : Nat) : Int) by omega, rd_nat]
  exact cycle_in l hr h1 _ (mem_getD _ _ (by omega))
theorem isPattern (l : List Int) (hl : l.length ≤ 9000000000000000000) (k : Nat) (hk : 100 ≤ k) : impl_isPattern.f k l = some (decide (IsPat l)) := by
  unfold impl_isPattern.f
  by_cases h : 1 ≤ l.length ∧ l.length ≤ 9
  · rw [if_pos (by simp; omega)]
    by_cases hr : InR l
    · rw [if_neg (by
        simp only [List.any_eq_true, not_exists, not_and]
        intro x hx
        have := hr x hx
        simp; omega), cycleOf l hr h.1 (by omega) k (by omega)]
      simp only [Option.bind_some]
      by_cases hc : (cycle l).length = l.length
      · have := last_in l hr h.1 hc
        rw [if_pos (by omega), hc, if_pos this.1, if_pos this.2]
        congr 1
        simp [IsPat, h.1, h.2, hr, hc]
      · rw [if_neg (by omega), decide_eq_false (fun hp => hc hp.2.2.2.1)]
    · rw [if_pos (by
        refine Classical.byContradiction fun e => hr fun x hx => ?_
        simp only [List.any_eq_true, not_exists, not_and] at e
        have := e x hx
        simp at this
        exact this), decide_eq_false (fun hp => hr hp.2.2.1)]
  · rw [if_neg (by simp; omega), decide_eq_false (fun hp => h ⟨hp.1, hp.2.1⟩)]
theorem ptGood (l : List Int) (hl : l.length ≤ 9000000) (k : Nat) (hk : l.length + 101 ≤ k) : spec_ptGood.f k l = some (decide (IsPat l)) := by
  unfold spec_ptGood.f
  obtain ⟨m, rfl⟩ : ∃ m, k = m + 1 := ⟨k - 1, by omega⟩
  rw [l1In_b]
  simp only [Option.bind_some]
  by_cases h : 1 ≤ l.length ∧ l.length ≤ 9
  · rw [decide_eq_true (by omega), if_pos rfl, w64 _ (by omega), l1All _ _ _ (by omega) _ (by omega)]
    simp only [Option.bind_some]
    by_cases hr : InR l
    · rw [decide_eq_true (show ∀ x ∈ l, 0 ≤ x ∧ x ≤ (l.length : Int) - 1 from hr)]
      simp only [spec_ptGood.j0]
      rw [if_neg (by decide), ptCycle l hr h.1 (by omega) m (by omega)]
      simp only [Option.bind_some]
      by_cases hc : (cycle l).length = l.length
      · have := last_in l hr h.1 hc
        rw [if_pos (by omega), w64 _ (by omega), if_pos (by omega), if_pos (by omega), if_pos this.1, if_pos this.2]
        congr 1
        simp only [IsPat, h.1, h.2, hr, hc, true_and]
        rfl
      · rw [if_neg (by omega), decide_eq_false (fun hp => hc hp.2.2.2.1)]
    · rw [decide_eq_false (show ¬ (∀ x ∈ l, 0 ≤ x ∧ x ≤ (l.length : Int) - 1) from hr)]
      simp only [spec_ptGood.j0]
      rw [if_pos (by decide), decide_eq_false (fun hp => hr hp.2.2.1)]
  · rw [decide_eq_false (by omega), if_neg (by decide)]
    simp only [spec_ptGood.j0]
    rw [if_pos (by decide), decide_eq_false (fun hp => h ⟨hp.1, hp.2.1⟩)]
end Go.Proofs.Ytgdglnpgfngdoaa.Pu

/- All that the statement FnExactIsPseudoOrbit rests on, part 5: the walks of the functions that it reaches, and the plain laws of what they compute. -/
import Derived.Test.YtlggehdfigkliaaKFnExactIsPseudoOrbit4
set_option linter.unusedVariables false
set_option linter.unusedSimpArgs false
namespace Go.Proofs.Ytlggehdfigkliaa.Pu
open Go.RowKit Go.Proofs.Ytlggehdfigkliaa.Q Go.Proofs.YtlggehdfigkliaaW.PrintWords Go.Proofs.YtlggehdfigkliaaW.PrintLast Go.Proofs.YtlggehdfigkliaaW.PrintMore
def maxR (m s : Ra) : Ra := if m.f0 * s.f1 < s.f0 * m.f1 then s else m
def Le (a b : Ra) : Prop := a.f0 * b.f1 ≤ b.f0 * a.f1
theorem Le.trans {a b c : Ra} (ha : OkR a.f0 a.f1) (hb : OkR b.f0 b.f1) (hc : OkR c.f0 c.f1) (h1 : Le a b) (h2 : Le b c) : Le a c := by
  have a1 := ha.1
  have b1 := hb.1
  have c1 := hc.1
  unfold Le at *
  have e1 := Int.mul_le_mul_of_nonneg_right h1 (show 0 ≤ c.f1 by omega)
  have e2 := Int.mul_le_mul_of_nonneg_right h2 (show 0 ≤ a.f1 by omega)
  have e3 : a.f0 * c.f1 * b.f1 ≤ c.f0 * a.f1 * b.f1 := by
    calc a.f0 * c.f1 * b.f1 = a.f0 * b.f1 * c.f1 := by rw [Int.mul_assoc, Int.mul_comm c.f1, ← Int.mul_assoc]
      _ ≤ b.f0 * a.f1 * c.f1 := e1
      _ = b.f0 * c.f1 * a.f1 := by rw [Int.mul_assoc, Int.mul_comm a.f1, ← Int.mul_assoc]
      _ ≤ c.f0 * b.f1 * a.f1 := e2
      _ = c.f0 * a.f1 * b.f1 := by rw [Int.mul_assoc, Int.mul_comm b.f1, ← Int.mul_assoc]
  exact Int.le_of_mul_le_mul_right e3 (by omega)
theorem fold_max (l : List Ra) : ∀ m : Ra, OkR m.f0 m.f1 → (∀ x ∈ l, OkR x.f0 x.f1) → (l.foldl maxR m = m ∨ l.foldl maxR m ∈ l) ∧ OkR (l.foldl maxR m).f0 (l.foldl maxR m).f1 ∧ Le m (l.foldl maxR m) ∧ ∀ x ∈ l, Le x (l.foldl maxR m) := by
  induction l with
  | nil => intro m hm _; exact ⟨.inl rfl, hm, Int.le_refl _, fun x hx => by cases hx⟩
  | cons a t ih =>
    intro m hm h
    have ha := h a List.mem_cons_self
    have hmx : OkR (maxR m a).f0 (maxR m a).f1 := by unfold maxR; split <;> assumption
    have hl1 : Le m (maxR m a) := by unfold maxR Le; split <;> omega
    have hl2 : Le a (maxR m a) := by unfold maxR Le; split <;> omega
    obtain ⟨h1, h2, h3, h4⟩ := ih (maxR m a) hmx (fun x hx => h x (List.mem_cons_of_mem _ hx))
    refine ⟨?_, h2, Le.trans hm hmx h2 hl1 h3, fun x hx => ?_⟩
    · show t.foldl maxR (maxR m a) = m ∨ t.foldl maxR (maxR m a) ∈ a :: t
      rcases h1 with h1 | h1
      · rw [h1]
        unfold maxR
        split
        · exact .inr List.mem_cons_self
        · exact .inl rfl
      · exact .inr (List.mem_cons_of_mem _ h1)
    · rcases List.mem_cons.1 hx with rfl | hx
      · exact Le.trans ha hmx h2 hl2 h3
      · exact h4 x hx
theorem Le.anti {a b : Ra} (ha : OkR a.f0 a.f1) (hb : OkR b.f0 b.f1) (h1 : Le a b) (h2 : Le b a) : a = b := by
  unfold Le at *
  obtain ⟨e1, e2⟩ := same_rat ha hb (by omega)
  cases a; cases b; simp_all
def maxOf (l : List Ra) : Ra := l.foldl maxR ⟨0, 1⟩
theorem maxOf_ok (l : List Ra) (h : ∀ x ∈ l, OkR x.f0 x.f1) : OkR (maxOf l).f0 (maxOf l).f1 := (fold_max l ⟨0, 1⟩ ok_zero h).2.1
theorem max_shift (l : List Ra) (h : ∀ x ∈ l, OkR x.f0 x.f1) : ((l ++ [(⟨0, 1⟩ : Ra)]).drop 1).foldl maxR (nr (l ++ [(⟨0, 1⟩ : Ra)]) 0) = maxOf l := by
  have h' : ∀ x ∈ l ++ [(⟨0, 1⟩ : Ra)], OkR x.f0 x.f1 := fun x hx => by
    rcases List.mem_append.1 hx with hx | hx
    · exact h x hx
    · rw [List.mem_singleton.1 hx]; exact ok_zero
  have hn : nr (l ++ [(⟨0, 1⟩ : Ra)]) 0 ∈ l ++ [(⟨0, 1⟩ : Ra)] := nr_mem _ 0 (by simp)
  have e0 : l ++ [(⟨0, 1⟩ : Ra)] = nr (l ++ [(⟨0, 1⟩ : Ra)]) 0 :: (l ++ [(⟨0, 1⟩ : Ra)]).drop 1 := by
    have := drop_getD (l ++ [(⟨0, 1⟩ : Ra)]) 0 z27 (by simp)
    rw [List.drop_zero] at this
    exact this
  obtain ⟨a1, a2, a3, a4⟩ := fold_max ((l ++ [(⟨0, 1⟩ : Ra)]).drop 1) (nr (l ++ [(⟨0, 1⟩ : Ra)]) 0) (h' _ hn) (fun x hx => h' x (List.mem_of_mem_drop hx))
  obtain ⟨b1, b2, b3, b4⟩ := fold_max l ⟨0, 1⟩ ok_zero h
  have aall : ∀ x ∈ l ++ [(⟨0, 1⟩ : Ra)], Le x (((l ++ [(⟨0, 1⟩ : Ra)]).drop 1).foldl maxR (nr (l ++ [(⟨0, 1⟩ : Ra)]) 0)) := fun x hx => by
    rw [e0] at hx
    rcases List.mem_cons.1 hx with rfl | hx
    · exact a3
    · exact a4 x hx
  have amem : ((l ++ [(⟨0, 1⟩ : Ra)]).drop 1).foldl maxR (nr (l ++ [(⟨0, 1⟩ : Ra)]) 0) ∈ l ++ [(⟨0, 1⟩ : Ra)] := by
    rcases a1 with a1 | a1
    · rw [a1]; exact hn
    · exact List.mem_of_mem_drop a1
  refine Le.anti a2 b2 ?_ ?_
  · rcases List.mem_append.1 amem with hx | hx
    · exact b4 _ hx
    · rw [List.mem_singleton.1 hx]; exact b3
  · rcases b1 with b1 | b1
    · rw [show maxOf l = ⟨0, 1⟩ from b1]; exact aall _ (by simp)
    · exact aall _ (List.mem_append_left _ b1)
theorem ivGreater_max {m s : Ra} (h1 : OkR m.f0 m.f1) (h2 : OkR s.f0 s.f1) : spec_ivGreater.f m.f0 m.f1 s.f0 s.f1 = some ((maxR m s).f0, (maxR m s).f1) := by
  unfold spec_ivGreater.f maxR
  obtain ⟨t, e, ht, _⟩ := raCmp_eq h1.bd h2.bd
  rw [e, Option.bind_some]
  by_cases h : m.f0 * s.f1 < s.f0 * m.f1
  · rw [if_pos (ht.2 h), if_pos h]
  · rw [if_neg (fun hh => h (ht.1 hh)), if_neg h]
theorem maxR_ok {m s : Ra} (h1 : OkR m.f0 m.f1) (h2 : OkR s.f0 s.f1) : OkR (maxR m s).f0 (maxR m s).f1 := by
  unfold maxR
  split <;> assumption
theorem sdMost_l (l : List Ra) (hl : l.length ≤ 1048576) (hb : ∀ x ∈ l, OkR x.f0 x.f1) : ∀ (d k i : Nat) (m : Ra), OkR m.f0 m.f1 → i + d = l.length → d < k → spec_sdMost.l0 k l (l.length : Int) (i : Int) m.f0 m.f1 = some (((l.drop i).foldl maxR m).f0, ((l.drop i).foldl maxR m).f1) := by
  intro d
  induction d with
  | zero =>
    intro k i m hm hi hk
    obtain ⟨k, rfl⟩ : ∃ m, k = m + 1 := ⟨k - 1, by omega⟩
    simp only [spec_sdMost.l0]
    rw [if_neg (by omega), List.drop_of_length_le (by omega)]
    rfl
  | succ d ih =>
    intro k i m hm hi hk
    obtain ⟨k, rfl⟩ : ∃ m, k = m + 1 := ⟨k - 1, by omega⟩
    simp only [spec_sdMost.l0]
    have hx := hb _ (nr_mem l i (by omega))
    rw [wr (_ + 1) (by omega), if_pos (by omega), if_pos (by omega), if_pos (by omega), show (i : Int) + 1 = ((i + 1 : Nat) : Int) by omega, rd_nr, ivGreater_max hm hx, Option.bind_some,
      drop_getD l i z27 (by omega), List.foldl_cons]
    exact ih k (i + 1) (maxR m (nr l i)) (maxR_ok hm hx) (by omega) (by omega)
theorem sdMost_eq (l : List Ra) (hl : l.length ≤ 1048576) (hb : ∀ x ∈ l, OkR x.f0 x.f1) (k : Nat) (hk : l.length < k) : spec_sdMost.f k l = some ((maxOf l).f0, (maxOf l).f1) := by
  unfold spec_sdMost.f spec_raInt.f
  rw [Option.bind_some]
  exact sdMost_l l hl hb l.length k 0 ⟨0, 1⟩ ok_zero (by omega) hk
theorem compare_gt {a b c d : Int} (h1 : Bd a b) (h2 : Bd c d) : ∃ t, impl_compare.f a b c d = some t ∧ (t > 0 ↔ c * b < a * d) := by
  obtain ⟨m1, m2, _⟩ := cross_bd h1 h2
  unfold impl_compare.f
  generalize a * d = p at *
  generalize c * b = q at *
  rw [wr p (by omega), wr q (by omega)]
  by_cases h : p < q
  · rw [if_pos h]; exact ⟨-1, rfl, by omega⟩
  · rw [if_neg h]
    by_cases h3 : p > q
    · rw [if_pos h3]; exact ⟨1, rfl, by omega⟩
    · rw [if_neg h3]; exact ⟨0, rfl, by omega⟩
theorem maxFunc_l (l : List Ra) (hl : l.length ≤ 1048576) (hb : ∀ x ∈ l, OkR x.f0 x.f1) : ∀ (d k i : Nat) (m : Ra), OkR m.f0 m.f1 → i + d = l.length → d < k → MaxFunc_impl_compare.l0 k l (i : Int) m.f0 m.f1 = some (((l.drop i).foldl maxR m).f0, ((l.drop i).foldl maxR m).f1) := by
  intro d
  induction d with
  | zero =>
    intro k i m hm hi hk
    obtain ⟨k, rfl⟩ : ∃ m, k = m + 1 := ⟨k - 1, by omega⟩
    simp only [MaxFunc_impl_compare.l0]
    rw [if_neg (by omega), List.drop_of_length_le (by omega)]
    rfl
  | succ d ih =>
    intro k i m hm hi hk
    obtain ⟨k, rfl⟩ : ∃ m, k = m + 1 := ⟨k - 1, by omega⟩
    simp only [MaxFunc_impl_compare.l0]
    have hx := hb _ (nr_mem l i (by omega))
    obtain ⟨t, e, ht⟩ := compare_gt hx.bd hm.bd
    rw [wr (_ + 1) (by omega), if_pos (by omega), if_pos (by omega), show (i : Int) + 1 = ((i + 1 : Nat) : Int) by omega, rd_nr, e, Option.bind_some, drop_getD l i z27 (by omega), List.foldl_cons]
    have := ih k (i + 1) (maxR m (nr l i)) (maxR_ok hm hx) (by omega) (by omega)
    by_cases h : m.f0 * (nr l i).f1 < (nr l i).f0 * m.f1
    · have e2 : maxR m (nr l i) = nr l i := if_pos h
      rw [if_pos (ht.2 h), show maxR m (l.getD i z27) = nr l i from e2]
      rw [e2] at this
      exact this
    · have e2 : maxR m (nr l i) = m := if_neg h
      rw [if_neg (fun hh => h (ht.1 hh)), show maxR m (l.getD i z27) = m from e2]
      rw [e2] at this
      exact this
theorem maxFunc_eq (l : List Ra) (h1 : 1 ≤ l.length) (hl : l.length ≤ 1048576) (hb : ∀ x ∈ l, OkR x.f0 x.f1) (k : Nat) (hk : l.length < k) : MaxFunc_impl_compare.f k l = some (((l.drop 1).foldl maxR (nr l 0)).f0, ((l.drop 1).foldl maxR (nr l 0)).f1) := by
  unfold MaxFunc_impl_compare.f
  rw [if_neg (by omega), if_pos (by omega), rd_nr0]
  exact maxFunc_l l hl hb (l.length - 1) k 1 (nr l 0) (hb _ (nr_mem l 0 (by omega))) (by omega) (by omega)
def worstO (o : Option (List Ra)) : Tri := match o with | some z => ((maxOf z).f0, (maxOf z).f1, true) | none => (0, 0, false)
noncomputable def worstR (f : List Pt) (l : List Ra) : Tri := if mapB f = true ∧ Pseudo l then worstO (jumpsO f l (l.length - 1) 1 []) else (0, 0, false)
theorem jumps_all {f : List Pt} {l z : List Ra} (hj : jumpsO f l (l.length - 1) 1 [] = some z) : ∀ x ∈ z, OkR x.f0 x.f1 := jumpsO_ok f l _ _ _ _ (fun x hx => by cases hx) hj
theorem jumps_len {f : List Pt} {l z : List Ra} (hp : Pseudo l) (hj : jumpsO f l (l.length - 1) 1 [] = some z) : z.length ≤ 20 := by
  have h1 := jumpsO_len _ _ _ _ _ _ hj
  have h2 := hp.2.1
  simp at h1
  omega
theorem implWorst_eq (f : List Pt) (l : List Ra) (hf : f.length ≤ 1048576) (hl : l.length ≤ 1048576) (k : Nat) (hk : 2000000 ≤ k) : impl_WorstJump.f k f l = some (worstR f l) := by
  unfold impl_WorstJump.f worstR
  rw [implJumps_eq f l hf hl k hk, Option.bind_some]
  unfold jumpsR
  by_cases h : mapB f = true ∧ Pseudo l
  · rw [if_pos h, if_pos h]
    cases hj : jumpsO f l (l.length - 1) 1 [] with
    | none => rfl
    | some z =>
      have hz := jumps_len h.2 hj
      have ha := jumps_all hj
      rw [show retO (some z) = (z, true) from rfl, show worstO (some z) = ((maxOf z).f0, (maxOf z).f1, true) from rfl]
      simp only [impl_zero.f, Option.bind_some, if_true]
      rw [if_pos (by omega), maxFunc_eq _ (by simp) (by simp; omega) (fun x hx => by
        rcases List.mem_append.1 hx with hx | hx
        · exact ha x hx
        · rw [List.mem_singleton.1 hx]; exact ok_zero) k (by simp; omega), max_shift z ha]
      rfl
  · rw [if_neg h, if_neg h]
    rfl
theorem worst_ok {f : List Pt} {l : List Ra} (h : (worstR f l).2.2 = true) : mapB f = true ∧ Pseudo l ∧ ∃ z, jumpsO f l (l.length - 1) 1 [] = some z ∧ worstR f l = ((maxOf z).f0, (maxOf z).f1, true) := by
  unfold worstR at h ⊢
  split at h
  · rename_i h1
    rw [if_pos h1]
    refine ⟨h1.1, h1.2, ?_⟩
    cases hj : jumpsO f l (l.length - 1) 1 [] with
    | none => rw [hj] at h; cases h
    | some z => exact ⟨z, rfl, rfl⟩
  · cases h
theorem worst_okR {f : List Pt} {l : List Ra} (h : (worstR f l).2.2 = true) : OkR (worstR f l).1 (worstR f l).2.1 := by
  obtain ⟨_, _, z, hz, e⟩ := worst_ok h
  rw [e]
  exact maxOf_ok z (jumps_all hz)
theorem worst_bad {f : List Pt} {l : List Ra} (h : (worstR f l).2.2 = false) (h1 : mapB f = true ∧ Pseudo l) : jumpsO f l (l.length - 1) 1 [] = none := by
  unfold worstR at h
  rw [if_pos h1] at h
  cases hj : jumpsO f l (l.length - 1) 1 [] with
  | none => rfl
  | some z => rw [hj] at h; cases h
end Go.Proofs.Ytlggehdfigkliaa.Pu
set_option linter.unusedVariables false
set_option linter.unusedSimpArgs false
namespace Go.Proofs.Ytlggehdfigkliaa.Pure
open Go.RowKit Go.Proofs.Ytlggehdfigkliaa.Q Go.Proofs.Ytlggehdfigkliaa.Pu Go.Proofs.YtlggehdfigkliaaW.PrintWords Go.Proofs.YtlggehdfigkliaaW.PrintLast Go.Proofs.YtlggehdfigkliaaW.PrintMore
noncomputable def poR (f : List Pt) (l : List Ra) (b0 b1 : Int) : Bool × Bool :=
  if (worstR f l).2.2 = true ∧ OkU b0 b1 then (!decide (b0 * (worstR f l).2.1 < (worstR f l).1 * b1), true) else (false, false)
theorem impl_eq (f : List Pt) (l : List Ra) (b0 b1 : Int) (hf : f.length ≤ 1048576) (hl : l.length ≤ 1048576) (k : Nat) (hk : 2000001 ≤ k) : impl_IsPseudoOrbit.f k f l b0 b1 = some (poR f l b0 b1) := by
  unfold impl_IsPseudoOrbit.f poR
  rw [implWorst_eq f l hf hl k (by omega), Option.bind_some]
  cases hw : (worstR f l).2.2 with
  | false => rw [if_neg (by decide), if_neg (fun h => by cases h.1)]
  | true =>
    have hW := worst_okR hw
    rw [if_pos rfl, isUnit_eq _ _ k (by omega), Option.bind_some]
    by_cases hb : OkU b0 b1
    · rw [if_pos (decide_eq_true hb), less_eq hb.1.bd hW.bd, Option.bind_some, if_pos ⟨rfl, hb⟩]
    · rw [if_neg (by simpa using hb), if_neg (fun h => hb h.2)]
theorem spec_eq (f : List Pt) (l : List Ra) (b0 b1 : Int) (hf : f.length ≤ 1048576) (hl : l.length ≤ 1048576) (k : Nat) (hk : 2000001 ≤ k) : spec_IsPseudoOrbit.f k f l b0 b1 = some (poR f l b0 b1) := by
  unfold spec_IsPseudoOrbit.f poR
  obtain ⟨k, rfl⟩ : ∃ m, k = m + 1 := ⟨k - 1, by omega⟩
  rw [sdAsked_eq f l hf hl (k + 1) (by omega), Option.bind_some]
  by_cases h : mapB f = true ∧ Pseudo l
  · rw [h.1, decide_eq_true h.2, Bool.and_self, if_pos rfl, raUnit_eq _ _ (k + 1) (by omega), Option.bind_some]
    simp only [spec_IsPseudoOrbit.j0]
    by_cases hb : OkU b0 b1
    · rw [decide_eq_true hb, Bool.not_true, if_neg (by decide), sdJumps_eq f l h.1 h.2 k (by omega), Option.bind_some]
      cases hw : (worstR f l).2.2 with
      | false =>
        rw [worst_bad hw h, show retO none = ([], false) from rfl, if_neg (show ¬ (([], false) : List Ra × Bool).2 = true by decide), if_neg (fun h => by cases h.1)]
      | true =>
        obtain ⟨_, _, z, hz, e⟩ := worst_ok hw
        have hW : OkR (maxOf z).f0 (maxOf z).f1 := by have := worst_okR hw; rw [e] at this; exact this
        have hzl := jumps_len h.2 hz
        have hza := jumps_all hz
        obtain ⟨t, ht, h1, h2⟩ := raCmp_eq hW.bd hb.1.bd
        have e3 : decide (t ≤ 0) = !decide (b0 * (maxOf z).f1 < (maxOf z).f0 * b1) := by
          rw [Bool.eq_iff_iff]
          simp only [decide_eq_true_eq, Bool.not_eq_true', decide_eq_false_iff_not]
          constructor
          · intro hh
            rcases Int.lt_or_eq_of_le hh with h3 | h3
            · have := h1.1 h3; omega
            · have := h2.1 h3; omega
          · intro hh
            rcases Int.lt_or_eq_of_le (Int.not_lt.1 hh) with h3 | h3
            · have := h1.2 h3; omega
            · have := h2.2 h3; omega
        rw [hz, e, show retO (some z) = (z, true) from rfl, if_pos (show ((z, true) : List Ra × Bool).2 = true from rfl), sdMost_eq z (by omega) hza k (by omega), Option.bind_some, ht, Option.bind_some, if_pos (by refine ⟨?_, hb⟩ <;> first | rfl | trivial), e3]
    · rw [decide_eq_false hb, Bool.not_false, if_pos rfl, if_neg (fun h => hb h.2)]
  · rw [if_neg (by
      intro hh
      simp only [Bool.and_eq_true, decide_eq_true_eq] at hh
      exact h hh), if_neg (fun hh => by
      obtain ⟨a, b, _⟩ := worst_ok hh.1
      exact h ⟨a, b⟩)]
    simp only [spec_IsPseudoOrbit.j0, if_true]
theorem FnExactIsPseudoOrbit : laws_FnExactIsPseudoOrbit.Pure := by
  intro l0 l1 a2_0 a2_1 _ _ _ _ _ _
  refine ⟨4000005, ?_⟩
  unfold laws_FnExactIsPseudoOrbit.f laws_szPointS.f laws_toRat.f
  have hm0 : (maxLen : Nat) ≤ 9223372036854775807 := by decide
  by_cases hb : (wrap64 (1048576 - (l0.length : Int))) < 0
  · rw [if_pos hb]; rfl
  · rw [if_neg hb]
    have hl0 : l0.length ≤ 1048576 := by rw [wr _ (by omega)] at hb; omega
    simp only [Option.bind_some]
    rw [if_neg hb]
    unfold laws_szRatS.f
    rw [wr (1048576 - _) (by omega)]
    by_cases hc : (wrap64 (1048576 - (l0.length : Int) - (l1.length : Int))) < 0
    · rw [if_pos hc]; rfl
    · rw [if_neg hc]
      have hl1 : l1.length ≤ 1048576 := by rw [wr _ (by omega)] at hc; omega
      simp only [Option.bind_some]
      rw [if_neg hc, toPointS l0 hl0 _ (by omega), toRatS l1 hl1 _ (by omega)]
      simp only [Option.bind_some]
      have hf : (l0.map cvPoint).length ≤ 1048576 := by simpa using hl0
      have hr : (l1.map cvRat).length ≤ 1048576 := by simpa using hl1
      generalize hF : l0.map cvPoint = F at hf
      generalize hR : l1.map cvRat = R at hr
      rw [spec_eq F R _ _ hf hr _ (by omega), impl_eq F R _ _ hf hr _ (by omega)]
      generalize poR F R a2_0 a2_1 = v
      simp only [Option.bind_some, bne_self_eq_false, laws_FnExactIsPseudoOrbit.j0]
      rw [if_neg (by decide), if_neg (by decide), toPointS l0 hl0 _ (by omega), hF]
      simp only [Option.bind_some]
      rw [eqPointS_self F (by omega) _ (by omega)]
      simp only [Option.bind_some, if_true]
      rw [toRatS l1 hl1 _ (by omega), hR]
      simp only [Option.bind_some]
      rw [eqRatS_self R (by omega) _ (by omega)]
      simp only [Option.bind_some, if_true]
end Go.Proofs.Ytlggehdfigkliaa.Pure

/- All that the statement FnExactMassOf rests on, part 5: the walks of the functions that it reaches, and the plain laws of what they compute. -/
import Derived.Test.YtgejkhbehoabdaaKFnExactMassOf4
set_option linter.unusedVariables false
set_option linter.unusedSimpArgs false
namespace Go.Proofs.Ytgejkhbehoabdaa.Pure
open Go.RowKit Go.Proofs.Ytgejkhbehoabdaa.Q Go.Proofs.Ytgejkhbehoabdaa.Pu Go.Proofs.YtgejkhbehoabdaaW.PrintWords Go.Proofs.YtgejkhbehoabdaaW.PrintLast Go.Proofs.YtgejkhbehoabdaaW.PrintMore
def Le (a b : Ra) : Prop := a.f0 * b.f1 ≤ b.f0 * a.f1
theorem Le.trans {a b c : Ra} (ha : OkR a.f0 a.f1) (hb : OkR b.f0 b.f1) (hc : OkR c.f0 c.f1) (h1 : Le a b) (h2 : Le b c) : Le a c := by
  have a1 := ha.1
  have b1 := hb.1
  have c1 := hc.1
  unfold Le at *
  have e1 := Int.mul_le_mul_of_nonneg_right h1 (show 0 ≤ c.f1 by omega)
  have e2 := Int.mul_le_mul_of_nonneg_right h2 (show 0 ≤ a.f1 by omega)
  have e3 : a.f0 * c.f1 * b.f1 ≤ c.f0 * a.f1 * b.f1 := by
    calc a.f0 * c.f1 * b.f1 = a.f0 * b.f1 * c.f1 := by rw [Int.mul_assoc, Int.mul_comm c.f1, ← Int.mul_assoc]
      _ ≤ b.f0 * a.f1 * c.f1 := e1
      _ = b.f0 * c.f1 * a.f1 := by rw [Int.mul_assoc, Int.mul_comm a.f1, ← Int.mul_assoc]
      _ ≤ c.f0 * b.f1 * a.f1 := e2
      _ = c.f0 * a.f1 * b.f1 := by rw [Int.mul_assoc, Int.mul_comm b.f1, ← Int.mul_assoc]
  exact Int.le_of_mul_le_mul_right e3 (by omega)
theorem lt_le {a b : Ra} : Lt a b ↔ ¬ Le b a := by unfold Lt Le; omega
def mxR (a b : Ra) : Ra := if Lt a b then b else a
theorem mxR_ok {a b : Ra} (h1 : OkR a.f0 a.f1) (h2 : OkR b.f0 b.f1) : OkR (mxR a b).f0 (mxR a b).f1 := by unfold mxR; split <;> assumption
theorem mx_le (a b : Ra) : Le a (mxR a b) ∧ Le b (mxR a b) := by
  unfold mxR
  by_cases h : Lt a b
  · rw [if_pos h]
    unfold Lt at h
    unfold Le
    exact ⟨by omega, by omega⟩
  · rw [if_neg h]
    unfold Lt at h
    unfold Le
    exact ⟨by omega, by omega⟩
theorem mn_le (a b : Ra) : Le (minR a b) a ∧ Le (minR a b) b := by
  unfold minR
  by_cases h : b.f0 * a.f1 < a.f0 * b.f1
  · rw [if_pos h]
    unfold Le
    exact ⟨by omega, by omega⟩
  · rw [if_neg h]
    unfold Le
    exact ⟨by omega, by omega⟩
theorem greater_eq {a b : Ra} (h1 : OkR a.f0 a.f1) (h2 : OkR b.f0 b.f1) : impl_greater.f a.f0 a.f1 b.f0 b.f1 = some ((mxR a b).f0, (mxR a b).f1) := by
  unfold impl_greater.f mxR
  rw [less_eq h1.bd h2.bd, Option.bind_some]
  by_cases h : a.f0 * b.f1 < b.f0 * a.f1
  · rw [if_pos (decide_eq_true h), if_pos (show Lt a b from h)]
  · rw [if_neg (by simpa using h), if_neg (show ¬ Lt a b from h)]
theorem lesser_eq {a b : Ra} (h1 : OkR a.f0 a.f1) (h2 : OkR b.f0 b.f1) : impl_lesser.f a.f0 a.f1 b.f0 b.f1 = some ((minR a b).f0, (minR a b).f1) := by
  unfold impl_lesser.f minR
  rw [less_eq h2.bd h1.bd, Option.bind_some]
  by_cases h : b.f0 * a.f1 < a.f0 * b.f1
  · rw [if_pos (decide_eq_true h), if_pos h]
  · rw [if_neg (by simpa using h), if_neg h]
theorem ivGreater_eq {a b : Ra} (h1 : OkR a.f0 a.f1) (h2 : OkR b.f0 b.f1) : spec_ivGreater.f a.f0 a.f1 b.f0 b.f1 = some ((mxR a b).f0, (mxR a b).f1) := by
  unfold spec_ivGreater.f mxR
  obtain ⟨t, e, ht, _⟩ := raCmp_eq h1.bd h2.bd
  rw [e, Option.bind_some]
  by_cases h : a.f0 * b.f1 < b.f0 * a.f1
  · rw [if_pos (ht.2 h), if_pos (show Lt a b from h)]
  · rw [if_neg (fun hh => h (ht.1 hh)), if_neg (show ¬ Lt a b from h)]
theorem hit_iff {a b lo hi : Ra} (ha : OkR a.f0 a.f1) (hb : OkR b.f0 b.f1) (hl : OkR lo.f0 lo.f1) (hh : OkR hi.f0 hi.f1) (h1 : Lt a b) (h2 : Lt lo hi) : Lt (mxR a lo) (minR b hi) ↔ Lt lo b ∧ Lt a hi := by
  have g1 := mx_le a lo
  have g2 := mn_le b hi
  have k1 := mxR_ok ha hl
  have k2 := minR_ok hb hh
  constructor
  · intro h
    refine ⟨lt_le.2 fun hn => lt_le.1 h ?_, lt_le.2 fun hn => lt_le.1 h ?_⟩
    · exact Le.trans k2 hb k1 g2.1 (Le.trans hb hl k1 hn g1.2)
    · exact Le.trans k2 hh k1 g2.2 (Le.trans hh ha k1 hn g1.1)
  · rintro ⟨h3, h4⟩
    unfold mxR minR
    split <;> split <;> assumption
theorem common_eq {a b lo hi : Ra} (ha : OkR a.f0 a.f1) (hb : OkR b.f0 b.f1) (hl : OkR lo.f0 lo.f1) (hh : OkR hi.f0 hi.f1) : impl_common.f a.f0 a.f1 b.f0 b.f1 lo.f0 lo.f1 hi.f0 hi.f1 = some (if Lt (mxR a lo) (minR b hi) then ((mxR a lo).f0, (mxR a lo).f1, (minR b hi).f0, (minR b hi).f1, true) else (0, 0, 0, 0, false)) := by
  unfold impl_common.f
  rw [greater_eq ha hl, Option.bind_some, lesser_eq hb hh, Option.bind_some, less_eq (mxR_ok ha hl).bd (minR_ok hb hh).bd, Option.bind_some]
  by_cases h : Lt (mxR a lo) (minR b hi)
  · rw [if_pos h, if_pos (decide_eq_true (show (mxR a lo).f0 * (minR b hi).f1 < (minR b hi).f0 * (mxR a lo).f1 from h))]
  · rw [if_neg h, if_neg (show ¬ decide ((mxR a lo).f0 * (minR b hi).f1 < (minR b hi).f0 * (mxR a lo).f1) = true from fun hn => h (of_decide_eq_true hn))]
theorem separate_eq {a b lo hi : Ra} (ha : OkR a.f0 a.f1) (hb : OkR b.f0 b.f1) (hl : OkR lo.f0 lo.f1) (hh : OkR hi.f0 hi.f1) (h1 : Lt a b) (h2 : Lt lo hi) : spec_ivSeparate.f a.f0 a.f1 b.f0 b.f1 lo.f0 lo.f1 hi.f0 hi.f1 = some (!decide (Lt (mxR a lo) (minR b hi))) := by
  unfold spec_ivSeparate.f
  obtain ⟨t, e, t1, t2⟩ := raCmp_eq hb.bd hl.bd
  obtain ⟨s, e2, s1, s2⟩ := raCmp_eq hh.bd ha.bd
  rw [e, Option.bind_some]
  have hit := hit_iff ha hb hl hh h1 h2
  by_cases h3 : Lt lo b
  · have h3' : lo.f0 * b.f1 < b.f0 * lo.f1 := h3
    have ht : ¬ t ≤ 0 := fun hn => by
      rcases Int.lt_or_eq_of_le hn with h | h
      · have := t1.1 h; omega
      · have := t2.1 h; omega
    rw [if_neg ht, e2, Option.bind_some]
    by_cases h4 : Lt a hi
    · have h4' : a.f0 * hi.f1 < hi.f0 * a.f1 := h4
      have hs : ¬ s ≤ 0 := fun hn => by
        rcases Int.lt_or_eq_of_le hn with h | h
        · have := s1.1 h; omega
        · have := s2.1 h; omega
      rw [decide_eq_false hs, decide_eq_true (hit.2 ⟨h3, h4⟩)]
      rfl
    · have h4' : ¬ a.f0 * hi.f1 < hi.f0 * a.f1 := h4
      have hs : s ≤ 0 := by
        by_cases h5 : hi.f0 * a.f1 < a.f0 * hi.f1
        · have := s1.2 h5; omega
        · have := s2.2 (by omega); omega
      rw [decide_eq_true hs, decide_eq_false (fun hn => h4 (hit.1 hn).2)]
      rfl
  · have h3' : ¬ lo.f0 * b.f1 < b.f0 * lo.f1 := h3
    have ht : t ≤ 0 := by
      by_cases h5 : b.f0 * lo.f1 < lo.f0 * b.f1
      · have := t1.2 h5; omega
      · have := t2.2 (by omega); omega
    rw [if_pos ht, decide_eq_false (fun hn => h3 (hit.1 hn).1)]
    rfl
def gR (p : List Ra) (lo : Ra) (i : Nat) : Ra := mxR (nr p i) lo
def lR (p : List Ra) (hi : Ra) (i : Nat) : Ra := minR (nr p (i + 1)) hi
def wT (p : List Ra) (lo hi : Ra) (i : Nat) : Tri := subT (lR p hi i).f0 (lR p hi i).f1 (gR p lo i).f0 (gR p lo i).f1
def stepO (a v : Ra) (w0 w1 : Int) : Option Ra := if (mulT v.f0 v.f1 w0 w1).2.2 = true then
    if (addT a.f0 a.f1 (mulT v.f0 v.f1 w0 w1).1 (mulT v.f0 v.f1 w0 w1).2.1).2.2 = true then some ⟨(addT a.f0 a.f1 (mulT v.f0 v.f1 w0 w1).1 (mulT v.f0 v.f1 w0 w1).2.1).1, (addT a.f0 a.f1 (mulT v.f0 v.f1 w0 w1).1 (mulT v.f0 v.f1 w0 w1).2.1).2.1⟩ else none
  else none
def massO (p v : List Ra) (lo hi : Ra) : Nat → Nat → Ra → Option Ra
  | 0, _, a => some a
  | n + 1, i, a => if Lt (gR p lo i) (lR p hi i) then
      if (wT p lo hi i).2.2 = true then (stepO a (nr v i) (wT p lo hi i).1 (wT p lo hi i).2.1).bind fun b => massO p v lo hi n (i + 1) b else none
    else massO p v lo hi n (i + 1) a
def hitsO (p v : List Ra) (lo hi : Ra) : Nat → Nat → List Ra → List Ra → Option (List Ra × List Ra)
  | 0, _, ws, vs => some (ws, vs)
  | n + 1, i, ws, vs => if Lt (gR p lo i) (lR p hi i) then
      if (wT p lo hi i).2.2 = true then hitsO p v lo hi n (i + 1) (ws ++ [⟨(wT p lo hi i).1, (wT p lo hi i).2.1⟩]) (vs ++ [nr v i]) else none
    else hitsO p v lo hi n (i + 1) ws vs
theorem nr_app (l : List Ra) (x : Ra) (i : Nat) (h : i < l.length) : nr (l ++ [x]) i = nr l i := by
  unfold nr
  simp [List.getD_eq_getElem?_getD, List.getElem?_append, h]
theorem nr_end (l : List Ra) (x : Ra) : nr (l ++ [x]) l.length = x := by
  unfold nr
  simp
theorem sum_succ (l w : List Ra) (n i : Nat) (a : Ra) : sumO l w (n + 1) i a = (stepO a (nr l i) (nr w i).f0 (nr w i).f1).bind fun b => sumO l w n (i + 1) b := by
  rw [sumO]
  unfold stepO
  by_cases h : (mulT (nr l i).f0 (nr l i).f1 (nr w i).f0 (nr w i).f1).2.2 = true
  · rw [if_pos h, if_pos h]
    by_cases h2 : (addT a.f0 a.f1 (mulT (nr l i).f0 (nr l i).f1 (nr w i).f0 (nr w i).f1).1 (mulT (nr l i).f0 (nr l i).f1 (nr w i).f0 (nr w i).f1).2.1).2.2 = true
    · rw [if_pos h2, if_pos h2]; rfl
    · rw [if_neg h2, if_neg h2]; rfl
  · rw [if_neg h, if_neg h]; rfl
theorem sum_snoc (l w : List Ra) (x y : Ra) (hw : w.length = l.length) : ∀ n i a, i + n = l.length → sumO (l ++ [x]) (w ++ [y]) (n + 1) i a = (sumO l w n i a).bind fun s => stepO s x y.f0 y.f1 := by
  intro n
  induction n with
  | zero =>
    intro i a hi
    have hi2 : i = l.length := by omega
    subst hi2
    have e2 : nr (w ++ [y]) l.length = y := by rw [← hw]; exact nr_end w y
    rw [sum_succ (l ++ [x]) (w ++ [y]) 0 l.length a, nr_end, e2]
    show ((stepO a x y.f0 y.f1).bind fun b => some b) = stepO a x y.f0 y.f1
    cases stepO a x y.f0 y.f1 <;> rfl
  | succ n ih =>
    intro i a hi
    rw [sum_succ (l ++ [x]) (w ++ [y]) (n + 1) i a, sum_succ l w n i a, nr_app l x i (by omega), nr_app w y i (by omega)]
    cases stepO a (nr l i) (nr w i).f0 (nr w i).f1 with
    | none => rfl
    | some b => exact ih (i + 1) b (by omega)
def two (o : Option (List Ra × List Ra)) : Option Ra := o.bind fun q => sumO q.2 q.1 q.2.length 0 ⟨0, 1⟩
theorem two_none (p v : List Ra) (lo hi : Ra) : ∀ n i ws vs, ws.length = vs.length → sumO vs ws vs.length 0 ⟨0, 1⟩ = none → two (hitsO p v lo hi n i ws vs) = none := by
  intro n
  induction n with
  | zero => intro i ws vs hl h; exact h
  | succ n ih =>
    intro i ws vs hl h
    rw [hitsO]
    split
    · split
      · refine ih _ _ _ (by simp; omega) ?_
        rw [List.length_append, List.length_singleton, sum_snoc vs ws _ _ hl vs.length 0 _ (by omega), h]
        rfl
      · rfl
    · exact ih _ _ _ hl h
theorem two_eq (p v : List Ra) (lo hi : Ra) : ∀ n i ws vs a, ws.length = vs.length → sumO vs ws vs.length 0 ⟨0, 1⟩ = some a → two (hitsO p v lo hi n i ws vs) = massO p v lo hi n i a := by
  intro n
  induction n with
  | zero => intro i ws vs a hl h; exact h
  | succ n ih =>
    intro i ws vs a hl h
    rw [hitsO, massO]
    split
    · split
      · have e : sumO (vs ++ [nr v i]) (ws ++ [⟨(wT p lo hi i).1, (wT p lo hi i).2.1⟩]) (vs ++ [nr v i]).length 0 ⟨0, 1⟩ = stepO a (nr v i) (wT p lo hi i).1 (wT p lo hi i).2.1 := by
          rw [List.length_append, List.length_singleton, sum_snoc vs ws _ _ hl vs.length 0 _ (by omega), h]
          rfl
        cases hs : stepO a (nr v i) (wT p lo hi i).1 (wT p lo hi i).2.1 with
        | none => rw [hs] at e; exact two_none p v lo hi n (i + 1) _ _ (by simp; omega) e
        | some b => rw [hs] at e; exact ih (i + 1) _ _ b (by simp; omega) e
      · rfl
    · exact ih _ _ _ _ hl h
noncomputable def maR (p v : List Ra) (lo hi : Ra) : Tri := if toldB p v = true ∧ (OkU lo.f0 lo.f1 ∧ OkU hi.f0 hi.f1 ∧ Lt lo hi) then retS (massO p v lo hi v.length 0 ⟨0, 1⟩) else (0, 0, false)
theorem isInterval_eq (lo hi : Ra) (k : Nat) (hk : 2000 ≤ k) : impl_isInterval.f k lo.f0 lo.f1 hi.f0 hi.f1 = some (decide (OkU lo.f0 lo.f1 ∧ OkU hi.f0 hi.f1 ∧ Lt lo hi)) := by
  unfold impl_isInterval.f
  rw [areUnits_eq _ k (by omega), Option.bind_some]
  by_cases h : OkU lo.f0 lo.f1 ∧ OkU hi.f0 hi.f1
  · have hU : Units [(⟨lo.f0, lo.f1⟩ : Ra), ⟨hi.f0, hi.f1⟩] := fun y hy => by
      rcases List.mem_cons.1 hy with rfl | hy
      · exact h.1
      · rw [List.mem_singleton.1 hy]; exact h.2
    rw [if_pos (decide_eq_true hU), less_eq h.1.1.bd h.2.1.bd, Option.bind_some]
    congr 1
    rw [Bool.eq_iff_iff, decide_eq_true_eq, decide_eq_true_eq]
    exact ⟨fun hh => ⟨h.1, h.2, hh⟩, fun hh => hh.2.2⟩
  · have hU : ¬ Units [(⟨lo.f0, lo.f1⟩ : Ra), ⟨hi.f0, hi.f1⟩] := fun hn => h ⟨hn ⟨lo.f0, lo.f1⟩ (by simp), hn ⟨hi.f0, hi.f1⟩ (by simp)⟩
    rw [decide_eq_false hU, if_neg (by decide), decide_eq_false (fun hn => h ⟨hn.1, hn.2.1⟩)]
theorem ivGood_eq (lo hi : Ra) (k : Nat) (hk : 2000 ≤ k) : spec_ivGood.f k lo.f0 lo.f1 hi.f0 hi.f1 = some (decide (OkU lo.f0 lo.f1 ∧ OkU hi.f0 hi.f1 ∧ Lt lo hi)) := by
  unfold spec_ivGood.f
  rw [raUnit_eq _ _ k (by omega), Option.bind_some]
  by_cases h1 : OkU lo.f0 lo.f1
  · rw [if_pos (decide_eq_true h1), raUnit_eq _ _ k (by omega), Option.bind_some]
    by_cases h2 : OkU hi.f0 hi.f1
    · obtain ⟨t, e, ht, _⟩ := raCmp_eq h1.1.bd h2.1.bd
      rw [if_pos (decide_eq_true h2), e, Option.bind_some]
      congr 1
      rw [Bool.eq_iff_iff, decide_eq_true_eq, decide_eq_true_eq]
      exact ⟨fun hh => ⟨h1, h2, ht.1 hh⟩, fun hh => ht.2 hh.2.2⟩
    · rw [if_neg (by simpa using h2), decide_eq_false (fun hn => h2 hn.2.1)]
  · rw [if_neg (by simpa using h1), decide_eq_false (fun hn => h1 hn.1)]
theorem impl_mass_l (p v : List Ra) (lo hi : Ra) (hp : Oks p) (hv : Oks v) (hl : OkR lo.f0 lo.f1) (hh : OkR hi.f0 hi.f1) (n : Nat) (hn : n + 1 = p.length) (hnv : v.length = n) (h9 : p.length ≤ 1000) : ∀ (d k i : Nat) (s : Bool) (a : Ra), OkR a.f0 a.f1 → i + d = n → 400 + d < k →
    impl_MassOf.l0 k v (btL p n 1) (n : Int) (i : Int) lo.f0 lo.f1 hi.f0 hi.f1 s a.f0 a.f1 = some (if s = true then (0, 0, false) else retS (massO p v lo hi d i a)) := by
  intro d
  induction d with
  | zero =>
    intro k i s a ha hi2 hk
    obtain ⟨k, rfl⟩ : ∃ m, k = m + 1 := ⟨k - 1, by omega⟩
    simp only [impl_MassOf.l0, impl_calc_finished.f]
    rw [if_neg (by omega)]
    cases s <;> rfl
  | succ d ih =>
    intro k i s a ha hi2 hk
    obtain ⟨k, rfl⟩ : ∃ m, k = m + 1 := ⟨k - 1, by omega⟩
    simp only [impl_MassOf.l0]
    have hbl : (btL p n 1).length = n := by simp [btL]
    have e0 := hp _ (nr_mem p i (by omega))
    have e1 := hp _ (nr_mem p (i + 1) (by omega))
    have ev := hv _ (nr_mem v i (by omega))
    rw [hbl, if_pos (by omega), if_pos (by omega), if_pos (by omega), rd_bt p n i (by omega), common_eq e0 e1 hl hh, Option.bind_some, wr _ (by omega), show (i : Int) + 1 = ((i + 1 : Nat) : Int) by omega]
    rw [massO]
    have hg : OkR (gR p lo i).f0 (gR p lo i).f1 := mxR_ok e0 hl
    have hL : OkR (lR p hi i).f0 (lR p hi i).f1 := minR_ok e1 hh
    rw [show mxR (nr p i) lo = gR p lo i from rfl, show minR (nr p (i + 1)) hi = lR p hi i from rfl]
    by_cases hit : Lt (gR p lo i) (lR p hi i)
    · rw [if_pos hit, if_pos (by rfl), if_pos (by omega), if_pos hit, rd_nr, calc_sub hL hg k s (by omega), Option.bind_some, show subT (lR p hi i).f0 (lR p hi i).f1 (gR p lo i).f0 (gR p lo i).f1 = wT p lo hi i from rfl]
      have hwo : (wT p lo hi i).2.2 = true → OkR (wT p lo hi i).1 (wT p lo hi i).2.1 := fun h => subT_ok _ _ _ _ h
      generalize wT p lo hi i = W at *
      have hkw : OkR (kp s W).1 (kp s W).2.1 := kp_ok hwo
      rw [calc_mul ev hkw k (kp s W).2.2 (by omega), Option.bind_some]
      have hmo := mulT_ok (nr v i).f0 (nr v i).f1 (kp s W).1 (kp s W).2.1
      obtain ⟨M', hM'⟩ : ∃ M', kp (kp s W).2.2 (mulT (nr v i).f0 (nr v i).f1 (kp s W).1 (kp s W).2.1) = M' := ⟨_, rfl⟩
      have hkm : OkR M'.1 M'.2.1 := by rw [← hM']; exact kp_ok hmo
      rw [hM', calc_add ha hkm k M'.2.2 (by omega), Option.bind_some]
      obtain ⟨A', hA'⟩ : ∃ A', kp M'.2.2 (addT a.f0 a.f1 M'.1 M'.2.1) = A' := ⟨_, rfl⟩
      have hka : OkR A'.1 A'.2.1 := by rw [← hA']; exact kp_ok (addT_ok a.f0 a.f1 M'.1 M'.2.1)
      rw [hA']
      refine (ih k (i + 1) A'.2.2 ⟨A'.1, A'.2.1⟩ hka (by omega) (by omega)).trans ?_
      subst hA'
      subst hM'
      cases s with
      | true => rw [if_pos (by rw [kp_bad, kp_bad, kp_bad]; rfl), if_pos rfl]
      | false =>
        rw [if_neg (show ¬ false = true by decide)]
        cases hW : W.2.2 with
        | false => rw [if_pos (by rw [kp_bad, kp_bad, kp_bad, hW]; rfl), if_neg (by decide)]; rfl
        | true =>
          rw [if_pos rfl, kp_val hW]
          unfold stepO
          cases hM : (mulT (nr v i).f0 (nr v i).f1 W.1 W.2.1).2.2 with
          | false => rw [if_pos (by rw [kp_bad, kp_bad, hM]; rfl), if_neg (by decide)]; rfl
          | true =>
            rw [if_pos rfl, kp_val hM]
            cases hA : (addT a.f0 a.f1 (mulT (nr v i).f0 (nr v i).f1 W.1 W.2.1).1 (mulT (nr v i).f0 (nr v i).f1 W.1 W.2.1).2.1).2.2 with
            | false => rw [if_pos (by rw [kp_bad, hA]; rfl), if_neg (by decide)]; rfl
            | true => rw [if_pos rfl, kp_val hA, if_neg (show ¬ false = true by decide)]; rfl
    · rw [if_neg hit, if_neg (show ¬ false = true by decide), if_neg hit]
      exact ih k (i + 1) s a ha (by omega) (by omega)
theorem spec_mass_l (p v : List Ra) (lo hi : Ra) (hP : Part p) (hv : Oks v) (hl : OkR lo.f0 lo.f1) (hh : OkR hi.f0 hi.f1) (hlt : Lt lo hi) (hnv : v.length + 1 = p.length) : ∀ (d k i : Nat) (ws vs : List Ra), i + d = v.length → ws.length = vs.length → vs.length ≤ i → Oks ws → Oks vs → 3000 + d < k →
    spec_MassOf.l0 k p v ws vs (v.length : Int) (i : Int) lo.f0 lo.f1 hi.f0 hi.f1 = some (retS (two (hitsO p v lo hi d i ws vs))) := by
  have h9 := hP.most
  intro d
  induction d with
  | zero =>
    intro k i ws vs hi2 he hle hw hvs hk
    obtain ⟨k, rfl⟩ : ∃ m, k = m + 1 := ⟨k - 1, by omega⟩
    simp only [spec_MassOf.l0]
    rw [if_neg (by omega), spec_sum_eq vs ws hvs hw (by omega) (by omega) k (by omega)]
    rfl
  | succ d ih =>
    intro k i ws vs hi2 he hle hw hvs hk
    obtain ⟨k, rfl⟩ : ∃ m, k = m + 1 := ⟨k - 1, by omega⟩
    simp only [spec_MassOf.l0]
    have e0 := hP.oks _ (nr_mem p i (by omega))
    have e1 := hP.oks _ (nr_mem p (i + 1) (by omega))
    have ev := hv _ (nr_mem v i (by omega))
    have hup := hP.up (i + 1) (by omega) (by omega)
    rw [Nat.add_sub_cancel] at hup
    rw [wr _ (by omega), if_pos (by omega), if_pos (by omega), if_pos (by omega), if_pos (by omega), if_pos (by omega), show (i : Int) + 1 = ((i + 1 : Nat) : Int) by omega, rd_nr, rd_nr, rd_nr, separate_eq e0 e1 hl hh hup hlt, Option.bind_some]
    rw [hitsO]
    have hg : OkR (gR p lo i).f0 (gR p lo i).f1 := mxR_ok e0 hl
    have hL : OkR (lR p hi i).f0 (lR p hi i).f1 := minR_ok e1 hh
    rw [show mxR (nr p i) lo = gR p lo i from rfl, show minR (nr p (i + 1)) hi = lR p hi i from rfl]
    by_cases hit : Lt (gR p lo i) (lR p hi i)
    · rw [if_pos hit, decide_eq_true hit, Bool.not_true, if_neg (by decide), ivLess_min e1 hh, Option.bind_some, ivGreater_eq e0 hl, Option.bind_some, show mxR (nr p i) lo = gR p lo i from rfl, show minR (nr p (i + 1)) hi = lR p hi i from rfl, raSub_eq hL hg k (by omega), Option.bind_some,
        show subT (lR p hi i).f0 (lR p hi i).f1 (gR p lo i).f0 (gR p lo i).f1 = wT p lo hi i from rfl]
      have hwo : (wT p lo hi i).2.2 = true → OkR (wT p lo hi i).1 (wT p lo hi i).2.1 := fun h => subT_ok _ _ _ _ h
      cases hW : (wT p lo hi i).2.2 with
      | false => rw [if_neg (by decide), if_neg (by decide)]; rfl
      | true =>
        rw [if_pos rfl, if_pos rfl, if_pos (by omega), if_pos (by omega), if_pos (by omega)]
        exact ih k (i + 1) _ _ (by omega) (by simp; omega) (by simp; omega) (out_ok hw (hwo hW)) (out_ok hvs ev) (by omega)
    · rw [if_neg hit, decide_eq_false hit, Bool.not_false, if_pos rfl]
      exact ih k (i + 1) ws vs (by omega) he (by omega) hw hvs (by omega)
theorem impl_eq (p v : List Ra) (lo hi : Ra) (hp : p.length ≤ 1048576) (hv : v.length ≤ 1048576) (k : Nat) (hk : 2000000 ≤ k) : impl_MassOf.f k p v lo.f0 lo.f1 hi.f0 hi.f1 = some (maR p v lo hi) := by
  unfold impl_MassOf.f maR
  obtain ⟨k, rfl⟩ : ∃ m, k = m + 1 := ⟨k - 1, by omega⟩
  rw [isTold_eq p v hp hv (k + 1) (by omega), Option.bind_some]
  cases h1 : toldB p v with
  | false =>
    rw [if_neg (by decide), if_neg (fun h => by cases h.1)]
    simp only [impl_MassOf.j0, if_true]
  | true =>
    rw [if_pos rfl, isInterval_eq lo hi (k + 1) (by omega), Option.bind_some]
    simp only [impl_MassOf.j0]
    by_cases h2 : OkU lo.f0 lo.f1 ∧ OkU hi.f0 hi.f1 ∧ Lt lo hi
    · have hA := (toldB_iff p v).1 h1
      have q2 := hA.part.two
      have q9 := hA.part.most
      have l1 := hA.len
      unfold impl_zero.f
      rw [decide_eq_true h2, Bool.not_true, if_neg (by decide), if_pos (by refine ⟨?_, h2⟩ <;> first | rfl | trivial), Option.bind_some, between_eq p hp k (by omega), Option.bind_some, show (btL p (p.length - 1) 1).length = p.length - 1 by simp [btL]]
      have := impl_mass_l p v lo hi hA.part.oks hA.oks h2.1.1 h2.2.1.1 (p.length - 1) (by omega) (by omega) (by omega) (p.length - 1) k 0 false ⟨0, 1⟩ ok_zero (by omega) (by omega)
      rw [if_neg (by decide)] at this
      rw [l1]
      exact this
    · rw [decide_eq_false h2, Bool.not_false, if_pos (by rfl), if_neg (fun h => h2 h.2)]
theorem spec_eq (p v : List Ra) (lo hi : Ra) (hp : p.length ≤ 1048576) (hv : v.length ≤ 1048576) (k : Nat) (hk : 2000000 ≤ k) : spec_MassOf.f k p v lo.f0 lo.f1 hi.f0 hi.f1 = some (maR p v lo hi) := by
  unfold spec_MassOf.f maR
  obtain ⟨k, rfl⟩ : ∃ m, k = m + 1 := ⟨k - 1, by omega⟩
  rw [dnIs_eq p v hp hv (k + 1) (by omega), Option.bind_some]
  cases h1 : toldB p v with
  | false =>
    rw [if_neg (by decide), if_neg (fun h => by cases h.1)]
    simp only [spec_MassOf.j0, if_true]
  | true =>
    rw [if_pos rfl, ivGood_eq lo hi (k + 1) (by omega), Option.bind_some]
    simp only [spec_MassOf.j0]
    by_cases h2 : OkU lo.f0 lo.f1 ∧ OkU hi.f0 hi.f1 ∧ Lt lo hi
    · have hA := (toldB_iff p v).1 h1
      have q2 := hA.part.two
      have l1 := hA.len
      rw [decide_eq_true h2, Bool.not_true, if_neg (by decide), if_pos (by refine ⟨?_, h2⟩ <;> first | rfl | trivial)]
      have e := spec_mass_l p v lo hi hA.part hA.oks h2.1.1 h2.2.1.1 h2.2.2 (by omega) v.length k 0 [] [] (by omega) rfl (by simp) (fun x hx => by cases hx) (fun x hx => by cases hx) (by omega)
      rw [show ((0 : Nat) : Int) = 0 from rfl, two_eq p v lo hi v.length 0 [] [] ⟨0, 1⟩ rfl rfl] at e
      exact e
    · rw [decide_eq_false h2, Bool.not_false, if_pos (by rfl), if_neg (fun h => h2 h.2)]
theorem FnExactMassOf : laws_FnExactMassOf.Pure := by
  intro l0 l1 a0 a1 a2 a3 _ _ _ _ _ _ _ _
  refine ⟨4000005, ?_⟩
  unfold laws_FnExactMassOf.f laws_szRatS.f
  have hm0 : (maxLen : Nat) ≤ 9223372036854775807 := by decide
  by_cases hb : (wrap64 (1048576 - (l0.length : Int))) < 0
  · rw [if_pos hb]; rfl
  · rw [if_neg hb]
    have hl0 : l0.length ≤ 1048576 := by rw [wr _ (by omega)] at hb; omega
    simp only [Option.bind_some]
    rw [if_neg hb, wr (1048576 - _) (by omega)]
    by_cases hc : (wrap64 (1048576 - (l0.length : Int) - (l1.length : Int))) < 0
    · rw [if_pos hc]; rfl
    · rw [if_neg hc]
      have hl1 : l1.length ≤ 1048576 := by rw [wr _ (by omega)] at hc; omega
      unfold laws_toInterval.f laws_toRat.f
      simp only [Option.bind_some]
      rw [if_neg hc, toRatS l0 hl0 _ (by omega), toRatS l1 hl1 _ (by omega)]
      simp only [Option.bind_some]
      have hr0 : (l0.map cvRat).length ≤ 1048576 := by simpa using hl0
      have hr1 : (l1.map cvRat).length ≤ 1048576 := by simpa using hl1
      generalize hR0 : l0.map cvRat = R0 at hr0
      generalize hR1 : l1.map cvRat = R1 at hr1
      have es := spec_eq R0 R1 ⟨a0, a1⟩ ⟨a2, a3⟩ hr0 hr1 4000005 (by omega)
      have ei := impl_eq R0 R1 ⟨a0, a1⟩ ⟨a2, a3⟩ hr0 hr1 4000005 (by omega)
      simp only at es ei
      rw [es, ei]
      generalize maR R0 R1 ⟨a0, a1⟩ ⟨a2, a3⟩ = v
      simp only [Option.bind_some]
      rw [eqRat_self ⟨v.1, v.2.1⟩]
      simp only [Option.bind_some, if_true, bne_self_eq_false, laws_FnExactMassOf.j0]
      rw [if_neg (by decide), toRatS l0 hl0 _ (by omega), hR0]
      simp only [Option.bind_some]
      rw [eqRatS_self R0 (by omega) _ (by omega)]
      simp only [Option.bind_some, if_true]
      rw [toRatS l1 hl1 _ (by omega), hR1]
      simp only [Option.bind_some]
      rw [eqRatS_self R1 (by omega) _ (by omega)]
      simp only [Option.bind_some, if_true]
end Go.Proofs.Ytgejkhbehoabdaa.Pure

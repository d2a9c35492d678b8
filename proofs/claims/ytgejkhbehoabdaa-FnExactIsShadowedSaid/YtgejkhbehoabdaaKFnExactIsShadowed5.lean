/- All that the statement FnExactIsShadowed rests on, part 5: the walks of the functions that it reaches, and the plain laws of what they compute. -/
import Derived.Test.YtgejkhbehoabdaaKFnExactIsShadowed4
set_option linter.unusedVariables false
set_option linter.unusedSimpArgs false
namespace Go.Proofs.Ytgejkhbehoabdaa.Pu
open Go.RowKit Go.Proofs.Ytgejkhbehoabdaa.Q Go.Proofs.YtgejkhbehoabdaaW.PrintWords Go.Proofs.YtgejkhbehoabdaaW.PrintLast Go.Proofs.YtgejkhbehoabdaaW.PrintMore
abbrev Tri := Int × Int × Bool
def kp (s : Bool) (m : Tri) : Tri := if m.2.2 = true then (m.1, m.2.1, s) else (0, 1, true)
theorem keep_eq (s : Bool) (m : Tri) : impl_calc_keep.f s m.1 m.2.1 m.2.2 = some (kp s m) := by
  unfold impl_calc_keep.f kp impl_zero.f
  split <;> rfl
theorem ok_zero : OkR 0 1 := by unfold OkR; decide
theorem kp_ok {s : Bool} {m : Tri} (h : m.2.2 = true → OkR m.1 m.2.1) : OkR (kp s m).1 (kp s m).2.1 := by
  unfold kp
  split
  · rename_i h1; exact h h1
  · exact ok_zero
theorem kp_bad (s : Bool) (m : Tri) : (kp s m).2.2 = (s || !m.2.2) := by
  unfold kp
  cases m.2.2 <;> simp
theorem kp_val {s : Bool} {m : Tri} (h : m.2.2 = true) : kp s m = (m.1, m.2.1, s) := by
  unfold kp
  rw [if_pos h]
theorem areRats2 (a b : Ra) (k : Nat) (hk : 300 ≤ k) : impl_areRats.f k [a, b] = some (decide (OkR a.f0 a.f1) && decide (OkR b.f0 b.f1)) := by
  unfold impl_areRats.f
  obtain ⟨k, rfl⟩ : ∃ m, k = m + 3 := ⟨k - 3, by omega⟩
  have r0 : rd_T47 [a, b] 0 = a := rfl
  have r1 : rd_T47 [a, b] 1 = b := rfl
  simp only [impl_areRats.l0, List.length_cons, List.length_nil]
  rw [if_pos (by decide), if_pos (by decide), if_pos (by decide), r0, isRat_eq _ _ _ (by omega)]
  simp only [Option.bind_some, decide_eq_true_eq]
  by_cases h : OkR a.f0 a.f1
  · rw [if_pos h]
    have e1 : wrap64 (0 + 1) = 1 := wr _ (by decide)
    have e2 : wrap64 (1 + 1) = 2 := wr _ (by decide)
    rw [e1, if_pos (by decide), if_pos (by decide), if_pos (by decide), r1, isRat_eq _ _ _ (by omega)]
    simp only [Option.bind_some, decide_eq_true_eq]
    by_cases h2 : OkR b.f0 b.f1
    · rw [if_pos h2, e2, if_neg (by decide)]
      simp [h, h2]
    · rw [if_neg h2]; simp [h2]
  · rw [if_neg h]; simp [h]
def addT (a b c d : Int) : Tri := mk (a * d + c * b) (b * d)
def subT (a b c d : Int) : Tri := mk (a * d - c * b) (b * d)
def mulT (a b c d : Int) : Tri := mk (a * c) (b * d)
def divT (a b c d : Int) : Tri := if c = 0 then (0, 0, false) else mk (a * d) (b * c)
theorem addT_ok (a b c d : Int) (h : (addT a b c d).2.2 = true) : OkR (addT a b c d).1 (addT a b c d).2.1 := mk_ok _ _ h
theorem subT_ok (a b c d : Int) (h : (subT a b c d).2.2 = true) : OkR (subT a b c d).1 (subT a b c d).2.1 := mk_ok _ _ h
theorem mulT_ok (a b c d : Int) (h : (mulT a b c d).2.2 = true) : OkR (mulT a b c d).1 (mulT a b c d).2.1 := mk_ok _ _ h
theorem den_pos {a b c d : Int} (h1 : OkR a b) (h2 : OkR c d) : b * d ≠ 0 := by
  have := Int.mul_pos (show 0 < b by have := h1.1; omega) (show 0 < d by have := h2.1; omega)
  omega
section
variable {a b c d : Int} (h1 : OkR a b) (h2 : OkR c d) (k : Nat)
include h1 h2
theorem addRats_eq (hk : 300 ≤ k) : impl_AddRats.f k a b c d = some (addT a b c d) := by
  unfold impl_AddRats.f
  rw [areRats2 _ _ k hk, decide_eq_true h1, decide_eq_true h2]
  simp only [Option.bind_some, Bool.and_true, if_true]
  obtain ⟨m1, m2, m3, _⟩ := cross_bd h1.bd h2.bd
  have hd := den_pos h1 h2
  rw [wr (a * d) (by omega), wr (c * b) (by omega), wr (b * d) (by omega), wr _ (by omega), lowest_eq _ _ hd (by omega) (by omega) k (by omega)]
  rfl
theorem raAdd_eq (hk : 300 ≤ k) : spec_raAdd.f k a b c d = some (addT a b c d) := by
  unfold spec_raAdd.f
  obtain ⟨m1, m2, m3, _⟩ := cross_bd h1.bd h2.bd
  have hd := den_pos h1 h2
  rw [wr (a * d) (by omega), wr (c * b) (by omega), wr (b * d) (by omega), wr _ (by omega), raMake_eq _ _ hd (by omega) (by omega) k (by omega)]
  rfl
theorem raSub_eq (hk : 300 ≤ k) : spec_raSub.f k a b c d = some (subT a b c d) := by
  unfold spec_raSub.f
  obtain ⟨m1, m2, m3, _⟩ := cross_bd h1.bd h2.bd
  have hd := den_pos h1 h2
  rw [wr (a * d) (by omega), wr (c * b) (by omega), wr (b * d) (by omega), wr _ (by omega), raMake_eq _ _ hd (by omega) (by omega) k (by omega)]
  rfl
theorem raMul_eq (hk : 300 ≤ k) : spec_raMul.f k a b c d = some (mulT a b c d) := by
  unfold spec_raMul.f
  obtain ⟨m1, m2, m3, m4⟩ := cross_bd h1.bd h2.bd
  have hd := den_pos h1 h2
  rw [wr (a * c) (by omega), wr (b * d) (by omega), raMake_eq _ _ hd (by omega) (by omega) k (by omega)]
  rfl
theorem raDiv_eq (hk : 300 ≤ k) : spec_raDiv.f k a b c d = some (divT a b c d) := by
  unfold spec_raDiv.f divT
  obtain ⟨m1, m2, m3, m4⟩ := cross_bd h1.bd h2.bd
  split
  · rfl
  · rename_i hc
    have hd : b * c ≠ 0 := Int.mul_ne_zero (by have := h1.1; omega) hc
    have m5 := mul_bd b c _ _ h1.bd.2 h2.bd.1
    rw [wr (a * d) (by omega), wr (b * c) (by omega), raMake_eq _ _ hd (by omega) (by omega) k (by omega)]
    rfl
omit h1 in
theorem negated_ok : OkR (-c) d := by
  obtain ⟨e1, e2, e3, e4, e5⟩ := h2
  exact ⟨e1, e2, by omega, by omega, by rw [Int.neg_gcd]; exact e5⟩
theorem subRats_eq (hk : 300 ≤ k) : impl_SubtractRats.f k a b c d = some (subT a b c d) := by
  unfold impl_SubtractRats.f impl_negated.f
  have hb := h2.bd
  simp only [Option.bind_some]
  rw [wr (-c) (by unfold Bd at hb; omega), addRats_eq h1 (negated_ok h2) k hk]
  simp only [Option.bind_some]
  unfold addT subT
  rw [Int.neg_mul]
  rfl
theorem mulRats_eq (hk : 300 ≤ k) : impl_MultiplyRats.f k a b c d = some (mulT a b c d) := by
  unfold impl_MultiplyRats.f
  rw [areRats2 _ _ k hk, decide_eq_true h1, decide_eq_true h2]
  simp only [Option.bind_some, Bool.and_true, if_true]
  obtain ⟨m1, m2, m3, m4⟩ := cross_bd h1.bd h2.bd
  have hd := den_pos h1 h2
  rw [wr (a * c) (by omega), wr (b * d) (by omega), lowest_eq _ _ hd (by omega) (by omega) k (by omega)]
  rfl
theorem divRats_eq (hk : 300 ≤ k) : impl_DivideRats.f k a b c d = some (divT a b c d) := by
  unfold impl_DivideRats.f divT
  rw [areRats2 _ _ k hk, decide_eq_true h1, decide_eq_true h2]
  simp only [Option.bind_some, Bool.and_true, if_true]
  obtain ⟨m1, m2, m3, m4⟩ := cross_bd h1.bd h2.bd
  split
  · rfl
  · rename_i hc
    have hd : b * c ≠ 0 := Int.mul_ne_zero (by have := h1.1; omega) hc
    have m5 := mul_bd b c _ _ h1.bd.2 h2.bd.1
    rw [wr (a * d) (by omega), wr (b * c) (by omega), lowest_eq _ _ hd (by omega) (by omega) k (by omega)]
    rfl
theorem calc_add (s : Bool) (hk : 300 ≤ k) : impl_calc_add.f k s a b c d = some (kp s (addT a b c d)) := by
  unfold impl_calc_add.f
  rw [addRats_eq h1 h2 k hk, Option.bind_some, keep_eq, Option.bind_some]
theorem calc_sub (s : Bool) (hk : 300 ≤ k) : impl_calc_sub.f k s a b c d = some (kp s (subT a b c d)) := by
  unfold impl_calc_sub.f
  rw [subRats_eq h1 h2 k hk, Option.bind_some, keep_eq, Option.bind_some]
theorem calc_mul (s : Bool) (hk : 300 ≤ k) : impl_calc_mul.f k s a b c d = some (kp s (mulT a b c d)) := by
  unfold impl_calc_mul.f
  rw [mulRats_eq h1 h2 k hk, Option.bind_some, keep_eq, Option.bind_some]
theorem calc_div (s : Bool) (hk : 300 ≤ k) : impl_calc_div.f k s a b c d = some (kp s (divT a b c d)) := by
  unfold impl_calc_div.f
  rw [divRats_eq h1 h2 k hk, Option.bind_some, keep_eq, Option.bind_some]
end
def slT (p q : Pt) : Tri := divT (subT q.f1.f0 q.f1.f1 p.f1.f0 p.f1.f1).1 (subT q.f1.f0 q.f1.f1 p.f1.f0 p.f1.f1).2.1 (subT q.f0.f0 q.f0.f1 p.f0.f0 p.f0.f1).1 (subT q.f0.f0 q.f0.f1 p.f0.f0 p.f0.f1).2.1
theorem co_sub {a b c d : Int} (h1 : Co a b) (h2 : Co c d) : (subT a b c d).2.2 = true ∧ OkR (subT a b c d).1 (subT a b c d).2.1 ∧ (subT a b c d).1.natAbs ≤ 10000 ∧ (subT a b c d).2.1.natAbs ≤ 10000 := by
  obtain ⟨⟨⟨b1, b2, _, _, _⟩, b3, b4⟩, b5⟩ := h1
  obtain ⟨⟨⟨d1, d2, _, _, _⟩, d3, d4⟩, d5⟩ := h2
  have m1 := mul_bd a d 100 100 (by omega) (by omega)
  have m2 := mul_bd c b 100 100 (by omega) (by omega)
  have m3 := mul_bd b d 100 100 (by omega) (by omega)
  have n1 := Int.mul_nonneg b3 (show (0 : Int) ≤ d by omega)
  have n2 := Int.mul_nonneg d3 (show (0 : Int) ≤ b by omega)
  have n3 := Int.mul_pos (show (0 : Int) < b by omega) (show (0 : Int) < d by omega)
  unfold subT
  generalize a * d = x at *
  generalize c * b = y at *
  generalize b * d = z at *
  obtain ⟨e1, e2, e3, e4⟩ := mk_small (x - y) z (by omega) (by omega) (by omega)
  rw [e4]
  exact ⟨rfl, e1, by show (Int.tdiv _ _).natAbs ≤ _; omega, by show (Int.tdiv _ _).natAbs ≤ _; omega⟩
theorem sub_ne {a b c d : Int} (h1 : OkR a b) (h2 : OkR c d) (hlt : c * b < a * d) (hok : (subT a b c d).2.2 = true) : (subT a b c d).1 ≠ 0 := by
  have hd := den_pos h1 h2
  unfold subT mk at hok ⊢
  split at hok
  · rename_i h
    rw [if_pos h]
    intro h0
    have h0' : (a * d - c * b).tdiv (sg (a * d - c * b) (b * d)) = 0 := h0
    have hdv : (sg (a * d - c * b) (b * d)) ∣ (a * d - c * b) := by
      unfold sg
      split
      · exact Int.neg_dvd.2 (Int.gcd_dvd_left _ _)
      · exact Int.gcd_dvd_left _ _
    obtain ⟨t, ht⟩ := hdv
    have hs : sg (a * d - c * b) (b * d) ≠ 0 := by
      have := gcd_pos (a * d - c * b) (b * d) hd
      unfold sg
      split <;> omega
    have : (sg (a * d - c * b) (b * d) * t).tdiv (sg (a * d - c * b) (b * d)) = t := Int.mul_tdiv_cancel_left _ hs
    generalize hg : sg (a * d - c * b) (b * d) = g at *
    rw [ht, this] at h0'
    rw [h0', Int.mul_zero] at ht
    omega
  · cases hok
structure Seg (p q : Pt) : Prop where
  cp : CoP p
  cq : CoP q
  lt : Lt p.f0 q.f0
theorem IsMap.seg {l : List Pt} (h : IsMap l) (i : Nat) (hi : i + 1 < l.length) : Seg (np l i) (np l (i + 1)) :=
  ⟨h.co i (by omega), h.co (i + 1) hi, by have := h.up (i + 1) (by omega) hi; rwa [Nat.add_sub_cancel] at this⟩
theorem seg_slope {p q : Pt} (h : Seg p q) : (slT p q).2.2 = true ∧ OkR (slT p q).1 (slT p q).2.1 := by
  obtain ⟨u1, u2, u3, u4⟩ := co_sub h.cq.2 h.cp.2
  obtain ⟨v1, v2, v3, v4⟩ := co_sub h.cq.1 h.cp.1
  have v5 := sub_ne h.cq.1.1.1 h.cp.1.1.1 h.lt v1
  unfold slT
  generalize hx : subT q.f1.f0 q.f1.f1 p.f1.f0 p.f1.f1 = x at *
  generalize hy : subT q.f0.f0 q.f0.f1 p.f0.f0 p.f0.f1 = y at *
  unfold divT
  rw [if_neg v5]
  have m1 := mul_bd x.1 y.2.1 10000 10000 u3 v4
  have m2 := mul_bd x.2.1 y.1 10000 10000 u4 v3
  have hd : x.2.1 * y.1 ≠ 0 := Int.mul_ne_zero (by have := u2.1; omega) v5
  obtain ⟨e1, e2, e3, e4⟩ := mk_small (x.1 * y.2.1) (x.2.1 * y.1) hd (by omega) (by omega)
  rw [e4]
  exact ⟨rfl, e1⟩
theorem slope_eq {p q : Pt} (h : Seg p q) (s : Bool) (k : Nat) (hk : 300 ≤ k) : impl_calc_slope.f k s p.f0.f0 p.f0.f1 p.f1.f0 p.f1.f1 q.f0.f0 q.f0.f1 q.f1.f0 q.f1.f1 = some ((slT p q).1, (slT p q).2.1, s) := by
  obtain ⟨u1, u2, u3, u4⟩ := co_sub h.cq.2 h.cp.2
  obtain ⟨v1, v2, v3, v4⟩ := co_sub h.cq.1 h.cp.1
  unfold impl_calc_slope.f
  rw [calc_sub h.cq.2.1.1 h.cp.2.1.1 k s hk, kp_val u1, Option.bind_some, calc_sub h.cq.1.1.1 h.cp.1.1.1 k s hk, kp_val v1, Option.bind_some, calc_div u2 v2 k s hk, Option.bind_some]
  have := kp_val (s := s) (seg_slope h).1
  unfold slT at this ⊢
  rw [this]
theorem imSlope_eq {p q : Pt} (h : Seg p q) (k : Nat) (hk : 300 ≤ k) : spec_imSlope.f k p.f0.f0 p.f0.f1 p.f1.f0 p.f1.f1 q.f0.f0 q.f0.f1 q.f1.f0 q.f1.f1 = some ((slT p q).1, (slT p q).2.1) := by
  obtain ⟨u1, u2, u3, u4⟩ := co_sub h.cq.2 h.cp.2
  obtain ⟨v1, v2, v3, v4⟩ := co_sub h.cq.1 h.cp.1
  unfold spec_imSlope.f
  rw [raSub_eq h.cq.2.1.1 h.cp.2.1.1 k hk, Option.bind_some, raSub_eq h.cq.1.1.1 h.cp.1.1.1 k hk, Option.bind_some, raDiv_eq u2 v2 k hk, Option.bind_some]
  rfl
end Go.Proofs.Ytgejkhbehoabdaa.Pu
set_option linter.unusedVariables false
set_option linter.unusedSimpArgs false
namespace Go.Proofs.Ytgejkhbehoabdaa.Pu
open Go.RowKit Go.Proofs.Ytgejkhbehoabdaa.Q Go.Proofs.YtgejkhbehoabdaaW.PrintWords Go.Proofs.YtgejkhbehoabdaaW.PrintLast Go.Proofs.YtgejkhbehoabdaaW.PrintMore
structure Rel (s : Bool) (v m : Tri) : Prop where
  ok : OkR v.1 v.2.1
  bad : v.2.2 = (s || !m.2.2)
  val : m.2.2 = true → v.1 = m.1 ∧ v.2.1 = m.2.1
theorem rel_kp {s : Bool} {m : Tri} (h : m.2.2 = true → OkR m.1 m.2.1) : Rel s (kp s m) m :=
  ⟨kp_ok h, kp_bad s m, fun hm => by rw [kp_val hm]; exact ⟨rfl, rfl⟩⟩
def pcq (x0 x1 : Int) (p : Pt) : Bool := !decide (p.f0.f0 * x1 < x0 * p.f0.f1)
def pc (l : List Pt) (x0 x1 : Int) : Nat := (idxOf (pcq x0 x1) l - 1).toNat
theorem imPiece_l (l : List Pt) (x0 x1 : Int) (hm : IsMap l) (hx : OkR x0 x1) (j : Nat) (hj : j < l.length) (h1 : 1 ≤ j) (hq : ¬ (np l j).f0.f0 * x1 < x0 * (np l j).f0.f1) (hlt : ∀ m, m < j → (np l m).f0.f0 * x1 < x0 * (np l m).f0.f1) :
    ∀ (d k i : Nat), i + d = j - 1 → d < k → spec_imPiece.l0 k l (i : Int) x0 x1 = some ((j - 1 : Nat) : Int) := by
  have hmost := hm.most
  intro d
  induction d with
  | zero =>
    intro k i hi hk
    obtain ⟨k, rfl⟩ : ∃ m, k = m + 1 := ⟨k - 1, by omega⟩
    simp only [spec_imPiece.l0]
    rw [wr (_ + 2) (by omega), wr (_ + 1) (by omega)]
    by_cases h2 : (i : Int) + 2 < (l.length : Int)
    · rw [if_pos h2, if_pos (by omega), if_pos (by omega), show (i : Int) + 1 = ((i + 1 : Nat) : Int) by omega, rd_np]
      obtain ⟨t, e, ht, _⟩ := raCmp_eq (hm.co (i + 1) (by omega)).bx hx.bd
      rw [e, Option.bind_some]
      have ej : i + 1 = j := by omega
      rw [ej] at ht
      rw [if_neg (fun h => hq (ht.1 h))]
      congr 1
      omega
    · rw [if_neg h2]
      congr 1
      omega
  | succ d ih =>
    intro k i hi hk
    obtain ⟨k, rfl⟩ : ∃ m, k = m + 1 := ⟨k - 1, by omega⟩
    simp only [spec_imPiece.l0]
    rw [wr (_ + 2) (by omega), wr (_ + 1) (by omega), if_pos (by omega), if_pos (by omega), if_pos (by omega), show (i : Int) + 1 = ((i + 1 : Nat) : Int) by omega, rd_np]
    obtain ⟨t, e, ht, _⟩ := raCmp_eq (hm.co (i + 1) (by omega)).bx hx.bd
    rw [e, Option.bind_some, if_pos (ht.2 (hlt (i + 1) (by omega)))]
    exact ih k (i + 1) (by omega) (by omega)
theorem piece_eq (l : List Pt) (x0 x1 : Int) (hm : IsMap l) (hx : OkU x0 x1) : pc l x0 x1 + 1 < l.length ∧ impl_pieceAt.f l x0 x1 = some (pc l x0 x1 : Int) ∧ (∀ k, 100 ≤ k → spec_imPiece.f k l x0 x1 = some (pc l x0 x1 : Int)) ∧
    (np l (pc l x0 x1)).f0.f0 * x1 ≤ x0 * (np l (pc l x0 x1)).f0.f1 ∧ x0 * (np l (pc l x0 x1 + 1)).f0.f1 ≤ (np l (pc l x0 x1 + 1)).f0.f0 * x1 := by
  have h2 := hm.two
  have hmost := hm.most
  have hne : idxOf (pcq x0 x1) l ≠ -1 := fun h => by
    have := idxOf_neg _ _ h (np l (l.length - 1)) (np_mem l _ (by omega))
    unfold pcq at this
    rw [hm.last] at this
    have h3 := hx.2.2
    simp at this
    omega
  obtain ⟨j, ej, hj, hq, hlt⟩ := idxOf_pos _ _ z79 hne
  have hqj : ¬ (np l j).f0.f0 * x1 < x0 * (np l j).f0.f1 := by
    have : pcq x0 x1 (np l j) = true := hq
    unfold pcq at this
    simpa using this
  have hltj : ∀ m, m < j → (np l m).f0.f0 * x1 < x0 * (np l m).f0.f1 := fun m hmj => by
    have : pcq x0 x1 (np l m) = false := hlt m hmj
    unfold pcq at this
    simpa using this
  have himpl : impl_pieceAt.f l x0 x1 = some (if (j : Int) ≤ 1 then 0 else (j : Int) - 1) := by
    unfold impl_pieceAt.f
    rw [idxS_of (p := pcq x0 x1) (fun p hp => by
      obtain ⟨i, hi, e⟩ := mem_np l p hp
      have hb := (hm.co i hi).bx
      rw [e] at hb
      rw [less_eq hb hx.1.bd]
      rfl)]
    rw [Option.bind_some, ej]
  have hpc : pc l x0 x1 = j - 1 := by
    unfold pc
    rw [ej]
    omega
  rw [hpc]
  rcases Nat.eq_zero_or_pos j with h0 | hpos
  · subst h0
    rw [hm.first] at hqj
    simp at hqj
    have hx0 : x0 = 0 := by have := hx.2.1; omega
    subst hx0
    have hx1 := hx.1.1
    refine ⟨by omega, himpl, fun k hk => ?_, by simp [hm.first], ?_⟩
    · obtain ⟨k, rfl⟩ : ∃ m, k = m + 1 := ⟨k - 1, by omega⟩
      unfold spec_imPiece.f
      simp only [spec_imPiece.l0]
      rw [wr (0 + 2) (by omega), wr (0 + 1) (by omega)]
      by_cases h3 : (0 : Int) + 2 < (l.length : Int)
      · rw [if_pos h3, if_pos (by omega), if_pos (by omega), show (0 : Int) + 1 = ((1 : Nat) : Int) by omega, rd_np]
        obtain ⟨t, e, ht, _⟩ := raCmp_eq (hm.co 1 (by omega)).bx hx.1.bd
        rw [e, Option.bind_some, if_neg (fun h => by
          have h4 := ht.1 h
          have h5 := Int.mul_nonneg (hm.co 1 (by omega)).1.1.2.1 (show (0 : Int) ≤ x1 by omega)
          omega)]
        rfl
      · rw [if_neg h3]; rfl
    · have h5 := Int.mul_nonneg (hm.co (0 - 1 + 1) (by omega)).1.1.2.1 (show (0 : Int) ≤ x1 by omega)
      omega
  · have e1 : j - 1 + 1 = j := by omega
    refine ⟨by omega, ?_, fun k hk => ?_, ?_, ?_⟩
    · rw [himpl]
      congr 1
      split <;> omega
    · unfold spec_imPiece.f
      exact imPiece_l l x0 x1 hm hx.1 j hj hpos hqj hltj (j - 1) k 0 (by omega) (by omega)
    · exact Int.le_of_lt (hltj (j - 1) (by omega))
    · rw [e1]
      omega
def onT (p q : Pt) (x0 x1 : Int) : Tri :=
  if (subT x0 x1 p.f0.f0 p.f0.f1).2.2 = true then
    if (mulT (subT x0 x1 p.f0.f0 p.f0.f1).1 (subT x0 x1 p.f0.f0 p.f0.f1).2.1 (slT p q).1 (slT p q).2.1).2.2 = true then
      addT p.f1.f0 p.f1.f1 (mulT (subT x0 x1 p.f0.f0 p.f0.f1).1 (subT x0 x1 p.f0.f0 p.f0.f1).2.1 (slT p q).1 (slT p q).2.1).1 (mulT (subT x0 x1 p.f0.f0 p.f0.f1).1 (subT x0 x1 p.f0.f0 p.f0.f1).2.1 (slT p q).1 (slT p q).2.1).2.1
    else (0, 0, false)
  else (0, 0, false)
theorem onT_ok {p q : Pt} {x0 x1 : Int} (h : (onT p q x0 x1).2.2 = true) : OkR (onT p q x0 x1).1 (onT p q x0 x1).2.1 := by
  unfold onT at h ⊢
  split at h
  · rename_i h1
    rw [if_pos h1]
    split at h
    · rename_i h2
      rw [if_pos h2]
      exact addT_ok _ _ _ _ h
    · cases h
  · cases h
theorem imOn_eq {p q : Pt} (h : Seg p q) {x0 x1 : Int} (hx : OkR x0 x1) (k : Nat) (hk : 300 ≤ k) : spec_imOn.f k p.f0.f0 p.f0.f1 p.f1.f0 p.f1.f1 q.f0.f0 q.f0.f1 q.f1.f0 q.f1.f1 x0 x1 = some (onT p q x0 x1) := by
  unfold spec_imOn.f onT
  rw [raSub_eq hx h.cp.1.1.1 k hk, Option.bind_some, imSlope_eq h k hk, Option.bind_some]
  have hsl := (seg_slope h).2
  cases hf : (subT x0 x1 p.f0.f0 p.f0.f1).2.2 with
  | true =>
    have hfo := subT_ok _ _ _ _ hf
    rw [raMul_eq hfo hsl k hk, Option.bind_some, if_pos rfl, if_pos rfl]
    cases hu : (mulT (subT x0 x1 p.f0.f0 p.f0.f1).1 (subT x0 x1 p.f0.f0 p.f0.f1).2.1 (slT p q).1 (slT p q).2.1).2.2 with
    | true =>
      rw [if_pos rfl, if_pos rfl, raAdd_eq h.cp.2.1.1 (mulT_ok _ _ _ _ hu) k hk, Option.bind_some]
    | false => rw [if_neg (by decide), if_neg (by decide)]
  | false =>
    have e : subT x0 x1 p.f0.f0 p.f0.f1 = (0, 0, false) := mk_bad _ _ hf
    rw [e]
    unfold spec_raMul.f
    rw [Int.zero_mul, Int.zero_mul, wr 0 (by omega), raMake_zero]
    rfl
theorem line_eq {p q : Pt} (h : Seg p q) {x0 x1 : Int} (hx : OkR x0 x1) (s : Bool) (k : Nat) (hk : 300 ≤ k) : ∃ v, impl_calc_line.f k s p.f0.f0 p.f0.f1 p.f1.f0 p.f1.f1 (slT p q).1 (slT p q).2.1 x0 x1 = some v ∧ Rel s v (onT p q x0 x1) := by
  unfold impl_calc_line.f onT
  have hsl := (seg_slope h).2
  have r1 : Rel s (kp s (subT x0 x1 p.f0.f0 p.f0.f1)) (subT x0 x1 p.f0.f0 p.f0.f1) := rel_kp (subT_ok _ _ _ _)
  rw [calc_sub hx h.cp.1.1.1 k s hk, Option.bind_some]
  generalize kp s (subT x0 x1 p.f0.f0 p.f0.f1) = v1 at r1 ⊢
  generalize subT x0 x1 p.f0.f0 p.f0.f1 = m1 at r1 ⊢
  rw [calc_mul hsl r1.ok k v1.2.2 hk, Option.bind_some]
  have r2 : Rel v1.2.2 (kp v1.2.2 (mulT (slT p q).1 (slT p q).2.1 v1.1 v1.2.1)) (mulT (slT p q).1 (slT p q).2.1 v1.1 v1.2.1) := rel_kp (mulT_ok _ _ _ _)
  have ec : mulT (slT p q).1 (slT p q).2.1 v1.1 v1.2.1 = mulT v1.1 v1.2.1 (slT p q).1 (slT p q).2.1 := by
    unfold mulT
    rw [Int.mul_comm (slT p q).1, Int.mul_comm (slT p q).2.1]
  generalize kp v1.2.2 (mulT (slT p q).1 (slT p q).2.1 v1.1 v1.2.1) = v2 at r2 ⊢
  rw [ec] at r2
  rw [calc_add h.cp.2.1.1 r2.ok k v2.2.2 hk, Option.bind_some]
  have r3 : Rel v2.2.2 (kp v2.2.2 (addT p.f1.f0 p.f1.f1 v2.1 v2.2.1)) (addT p.f1.f0 p.f1.f1 v2.1 v2.2.1) := rel_kp (addT_ok _ _ _ _)
  generalize kp v2.2.2 (addT p.f1.f0 p.f1.f1 v2.1 v2.2.1) = v3 at r3 ⊢
  refine ⟨_, rfl, r3.ok, ?_, ?_⟩
  · show v3.2.2 = _
    rw [r3.bad, r2.bad, r1.bad]
    cases hm1 : m1.2.2 with
    | false => simp
    | true =>
      obtain ⟨e1, e2⟩ := r1.val hm1
      rw [if_pos rfl, e1, e2]
      rw [e1, e2] at r2
      cases hm2 : (mulT m1.1 m1.2.1 (slT p q).1 (slT p q).2.1).2.2 with
      | false => simp
      | true =>
        obtain ⟨e3, e4⟩ := r2.val hm2
        rw [if_pos rfl, e3, e4]
        simp
  · intro hok
    show v3.1 = _ ∧ v3.2.1 = _
    split at hok
    · rename_i hm1
      obtain ⟨e1, e2⟩ := r1.val hm1
      rw [e1, e2] at r2
      rw [if_pos hm1]
      split at hok
      · rename_i hm2
        obtain ⟨e3, e4⟩ := r2.val hm2
        rw [e3, e4] at r3
        rw [if_pos hm2]
        exact r3.val hok
      · cases hok
    · cases hok
def atT (l : List Pt) (x0 x1 : Int) : Tri := onT (np l (pc l x0 x1)) (np l (pc l x0 x1 + 1)) x0 x1
theorem imAt_eq {l : List Pt} (hm : IsMap l) {x0 x1 : Int} (hx : OkU x0 x1) (k : Nat) (hk : 300 ≤ k) : spec_imAt.f k l x0 x1 = some (atT l x0 x1) := by
  obtain ⟨h1, _, h3, _⟩ := piece_eq l x0 x1 hm hx
  have hmost := hm.most
  unfold spec_imAt.f atT
  rw [h3 k (by omega), Option.bind_some, wr (_ + 1) (by omega), if_pos (by omega), if_pos (by omega), if_pos (by omega), if_pos (by omega), show ((pc l x0 x1 : Nat) : Int) + 1 = ((pc l x0 x1 + 1 : Nat) : Int) by omega, rd_np, rd_np, imOn_eq (hm.seg _ h1) hx.1 k hk, Option.bind_some]
theorem value_eq {l : List Pt} (hm : IsMap l) {x0 x1 : Int} (hx : OkU x0 x1) (s : Bool) (k : Nat) (hk : 300 ≤ k) : ∃ v, impl_calc_value.f k s l x0 x1 = some v ∧ Rel s v (atT l x0 x1) := by
  obtain ⟨h1, h2, _, _⟩ := piece_eq l x0 x1 hm hx
  have hmost := hm.most
  unfold impl_calc_value.f atT
  rw [h2, Option.bind_some, wr (_ + 1) (by omega), if_pos (by omega), if_pos (by omega), if_pos (by omega), if_pos (by omega), show ((pc l x0 x1 : Nat) : Int) + 1 = ((pc l x0 x1 + 1 : Nat) : Int) by omega, rd_np, rd_np, slope_eq (hm.seg _ h1) s k hk, Option.bind_some]
  obtain ⟨v, e, r⟩ := line_eq (hm.seg _ h1) hx.1 s k hk
  exact ⟨v, by rw [e]; rfl, r⟩
theorem distance_eq {a b c d : Int} (h1 : OkR a b) (h2 : OkR c d) (s : Bool) (k : Nat) (hk : 300 ≤ k) : impl_calc_distance.f k s a b c d = some (kp s (if a * d < c * b then subT c d a b else subT a b c d)) := by
  unfold impl_calc_distance.f
  rw [less_eq h1.bd h2.bd, Option.bind_some]
  by_cases h : a * d < c * b
  · rw [if_pos (decide_eq_true h), if_pos h, calc_sub h2 h1 k s hk]; rfl
  · rw [if_neg (by simpa using h), if_neg h, calc_sub h1 h2 k s hk]; rfl
theorem apart_eq {a b c d : Int} (h1 : OkR a b) (h2 : OkR c d) (k : Nat) (hk : 300 ≤ k) : spec_orApart.f k a b c d = some (if a * d < c * b then subT c d a b else subT a b c d) := by
  unfold spec_orApart.f
  obtain ⟨t, e, ht, _⟩ := raCmp_eq h1.bd h2.bd
  rw [e, Option.bind_some]
  by_cases h : a * d < c * b
  · rw [if_pos (ht.2 h), if_pos h, raSub_eq h2 h1 k hk]; rfl
  · rw [if_neg (fun h3 => h (ht.1 h3)), if_neg h, raSub_eq h1 h2 k hk]; rfl
def dsT (a b c d : Int) : Tri := if a * d < c * b then subT c d a b else subT a b c d
theorem dsT_ok (a b c d : Int) (h : (dsT a b c d).2.2 = true) : OkR (dsT a b c d).1 (dsT a b c d).2.1 := by
  unfold dsT at h ⊢
  split
  · rename_i h1; rw [if_pos h1] at h; exact subT_ok _ _ _ _ h
  · rename_i h1; rw [if_neg h1] at h; exact subT_ok _ _ _ _ h
def Units (l : List Ra) : Prop := ∀ x ∈ l, OkU x.f0 x.f1
instance (l : List Ra) : Decidable (Units l) := by unfold Units; infer_instance
theorem areUnits_eq (l : List Ra) (k : Nat) (hk : 300 ≤ k) : impl_areUnits.f k l = some (decide (Units l)) := by
  unfold impl_areUnits.f ContainsFunc_impl_areUnits_1.f
  rw [anyS_of (p := fun x => !decide (OkU x.f0 x.f1)) (fun x _ => by
    unfold impl_areUnits_1.f
    rw [isUnit_eq _ _ k (by omega)]
    rfl), Option.bind_some]
  congr 1
  rw [Bool.eq_iff_iff]
  rw [Bool.not_eq_true', decide_eq_true_eq, ← Bool.not_eq_true, List.any_eq_true]
  constructor
  · intro h x hx
    by_cases hu : OkU x.f0 x.f1
    · exact hu
    · exact absurd ⟨x, hx, by simp [hu]⟩ h
  · rintro h ⟨x, hx, hn⟩
    simp [h x hx] at hn
def Pseudo (l : List Ra) : Prop := 1 ≤ l.length ∧ l.length ≤ 20 ∧ Units l
instance (l : List Ra) : Decidable (Pseudo l) := by unfold Pseudo; infer_instance
theorem isPseudo_eq (l : List Ra) (k : Nat) (hk : 300 ≤ k) : impl_isPseudo.f k l = some (decide (Pseudo l)) := by
  unfold impl_isPseudo.f impl_within.f
  by_cases h1 : (1 : Int) ≤ (l.length : Int)
  · rw [if_pos h1, Option.bind_some]
    by_cases h2 : (l.length : Int) ≤ 20
    · rw [if_pos (by simpa using h2), areUnits_eq l k hk, Option.bind_some]
      congr 1
      rw [Bool.eq_iff_iff, decide_eq_true_eq, decide_eq_true_eq]
      exact ⟨fun h => ⟨by omega, by omega, h⟩, fun h => h.2.2⟩
    · rw [if_neg (by simpa using h2), decide_eq_false (fun h : Pseudo l => h2 (by have := h.2.1; omega))]
  · rw [if_neg h1, Option.bind_some, if_neg (by decide), decide_eq_false (fun h : Pseudo l => h1 (by have := h.1; omega))]
theorem sdGood_l (l : List Ra) (hl : l.length ≤ 1048576) : ∀ (d k i : Nat), i + d = l.length → (∀ j, j < i → OkU (nr l j).f0 (nr l j).f1) → 300 + d < k → spec_sdGood.l0 k l l (l.length : Int) (i : Int) = some (decide (Pseudo l)) := by
  intro d
  induction d with
  | zero =>
    intro k i hi hj hk
    obtain ⟨k, rfl⟩ : ∃ m, k = m + 1 := ⟨k - 1, by omega⟩
    simp only [spec_sdGood.l0, spec_l1In.f]
    rw [if_neg (by omega)]
    have hu : Units l := fun x hx => by
      obtain ⟨i, hi, rfl⟩ := mem_nr l x hx
      exact hj i (by omega)
    by_cases h1 : (l.length : Int) ≥ 1
    · rw [if_pos h1, Option.bind_some]
      congr 1
      rw [Bool.eq_iff_iff, decide_eq_true_eq, decide_eq_true_eq]
      exact ⟨fun h => ⟨by omega, by omega, hu⟩, fun h => by have := h.2.1; omega⟩
    · rw [if_neg h1, Option.bind_some, decide_eq_false (fun h : Pseudo l => h1 (by have := h.1; omega))]
  | succ d ih =>
    intro k i hi hj hk
    obtain ⟨k, rfl⟩ : ∃ m, k = m + 1 := ⟨k - 1, by omega⟩
    simp only [spec_sdGood.l0]
    rw [if_pos (by omega), if_pos (by omega), if_pos (by omega), rd_nr, raUnit_eq _ _ k (by omega), Option.bind_some]
    by_cases h : OkU (nr l i).f0 (nr l i).f1
    · rw [if_pos (decide_eq_true h), wr (_ + 1) (by omega), show (i : Int) + 1 = ((i + 1 : Nat) : Int) by omega]
      refine ih k (i + 1) (by omega) (fun j hj2 => ?_) (by omega)
      by_cases e : j = i
      · subst e; exact h
      · exact hj j (by omega)
    · rw [if_neg (by simpa using h), decide_eq_false (fun hp : Pseudo l => h (hp.2.2 _ (nr_mem l i (by omega))))]
theorem sdGood_eq (l : List Ra) (hl : l.length ≤ 1048576) (k : Nat) (hk : 1048576 + 400 ≤ k) : spec_sdGood.f k l = some (decide (Pseudo l)) := by
  unfold spec_sdGood.f
  exact sdGood_l l hl l.length k 0 (by omega) (fun j hj => by omega) (by omega)
theorem sdAsked_eq (f : List Pt) (l : List Ra) (hf : f.length ≤ 1048576) (hl : l.length ≤ 1048576) (k : Nat) (hk : 1048576 + 400 ≤ k) : spec_sdAsked.f k f l = some (mapB f && decide (Pseudo l)) := by
  unfold spec_sdAsked.f
  rw [imGoodB f hf k (by omega), Option.bind_some]
  cases h : mapB f with
  | true => rw [if_pos rfl, sdGood_eq l hl k hk]; rfl
  | false => rfl
end Go.Proofs.Ytgejkhbehoabdaa.Pu
set_option linter.unusedVariables false
set_option linter.unusedSimpArgs false
namespace Go.Proofs.Ytgejkhbehoabdaa.Pu
open Go.RowKit Go.Proofs.Ytgejkhbehoabdaa.Q Go.Proofs.YtgejkhbehoabdaaW.PrintWords Go.Proofs.YtgejkhbehoabdaaW.PrintLast Go.Proofs.YtgejkhbehoabdaaW.PrintMore
def rq (n d : Int) : Rat := (n : Rat) / (d : Rat)
theorem rq_cross {a b c d : Int} (hb : b ≠ 0) (hd : d ≠ 0) (h : a * d = c * b) : rq a b = rq c d := by
  unfold rq
  have hb' : (b : Rat) ≠ 0 := by simpa using hb
  have hd' : (d : Rat) ≠ 0 := by simpa using hd
  have h' : (a : Rat) * (d : Rat) = (c : Rat) * (b : Rat) := by
    rw [← Rat.intCast_mul, ← Rat.intCast_mul, h]
  grind
theorem sg_dvd (n d : Int) : sg n d ∣ n ∧ sg n d ∣ d := by
  unfold sg
  split
  · exact ⟨Int.neg_dvd.2 (Int.gcd_dvd_left _ _), Int.neg_dvd.2 (Int.gcd_dvd_right _ _)⟩
  · exact ⟨Int.gcd_dvd_left _ _, Int.gcd_dvd_right _ _⟩
theorem sg_ne (n d : Int) (hd : d ≠ 0) : sg n d ≠ 0 := by
  have := gcd_pos n d hd
  unfold sg
  split <;> omega
theorem mk_rq (n d : Int) (hd : d ≠ 0) (h : (mk n d).2.2 = true) : rq (mk n d).1 (mk n d).2.1 = rq n d := by
  have hok := mk_ok n d h
  have hp := hok.1
  unfold mk at h hp ⊢
  split at h
  · rename_i h1
    rw [if_pos h1] at hp ⊢
    obtain ⟨⟨x, hx⟩, ⟨y, hy⟩⟩ := sg_dvd n d
    have hs := sg_ne n d hd
    have ex : n.tdiv (sg n d) = x := by
      conv => lhs; lhs; rw [hx]
      exact Int.mul_tdiv_cancel_left _ hs
    have ey : d.tdiv (sg n d) = y := by
      conv => lhs; lhs; rw [hy]
      exact Int.mul_tdiv_cancel_left _ hs
    refine rq_cross (by omega) hd ?_
    show n.tdiv (sg n d) * d = n * d.tdiv (sg n d)
    rw [ex, ey]
    generalize sg n d = g at *
    rw [hx, hy]
    rw [Int.mul_comm x (g * y), Int.mul_assoc, Int.mul_assoc, Int.mul_comm y x]
  · cases h
theorem rq_pos {d : Int} (hd : 0 < d) : (d : Rat) ≠ 0 := by
  have : d ≠ 0 := by omega
  simpa using this
theorem rq_add {a b c d : Int} (hb : b ≠ 0) (hd : d ≠ 0) : rq (a * d + c * b) (b * d) = rq a b + rq c d := by
  unfold rq
  have hb' : (b : Rat) ≠ 0 := by simpa using hb
  have hd' : (d : Rat) ≠ 0 := by simpa using hd
  rw [Rat.intCast_add, Rat.intCast_mul, Rat.intCast_mul, Rat.intCast_mul]
  grind
theorem rq_sub {a b c d : Int} (hb : b ≠ 0) (hd : d ≠ 0) : rq (a * d - c * b) (b * d) = rq a b - rq c d := by
  unfold rq
  have hb' : (b : Rat) ≠ 0 := by simpa using hb
  have hd' : (d : Rat) ≠ 0 := by simpa using hd
  rw [Rat.intCast_sub, Rat.intCast_mul, Rat.intCast_mul, Rat.intCast_mul]
  grind
theorem rq_mul {a b c d : Int} (hb : b ≠ 0) (hd : d ≠ 0) : rq (a * c) (b * d) = rq a b * rq c d := by
  unfold rq
  have hb' : (b : Rat) ≠ 0 := by simpa using hb
  have hd' : (d : Rat) ≠ 0 := by simpa using hd
  rw [Rat.intCast_mul, Rat.intCast_mul]
  grind
theorem rq_div {a b c d : Int} (hb : b ≠ 0) (hd : d ≠ 0) (hc : c ≠ 0) : rq (a * d) (b * c) = rq a b / rq c d := by
  unfold rq
  have hb' : (b : Rat) ≠ 0 := by simpa using hb
  have hd' : (d : Rat) ≠ 0 := by simpa using hd
  have hc' : (c : Rat) ≠ 0 := by simpa using hc
  rw [Rat.intCast_mul, Rat.intCast_mul]
  grind
theorem inv_nn {r : Rat} (h : 0 < r) : 0 ≤ r⁻¹ := by
  by_cases hn : 0 ≤ r⁻¹
  · exact hn
  · have h1 : 0 ≤ -r⁻¹ := by grind
    have h2 := Rat.mul_nonneg (Rat.le_of_lt h) h1
    have h3 : r ≠ 0 := by grind
    have h4 : r * r⁻¹ = 1 := Rat.mul_inv_cancel r h3
    grind
theorem cast_pos {d : Int} (hd : 0 < d) : (0 : Rat) < (d : Rat) := by
  have h1 : (0 : Rat) ≤ (d : Rat) := Rat.intCast_nonneg.2 (by omega)
  have h2 : (d : Rat) ≠ 0 := rq_pos hd
  grind
theorem rq_nn {n d : Int} (hn : 0 ≤ n) (hd : 0 < d) : 0 ≤ rq n d := by
  unfold rq
  rw [Rat.div_def]
  exact Rat.mul_nonneg (Rat.intCast_nonneg.2 hn) (inv_nn (cast_pos hd))
theorem nn_rq {n d : Int} (hd : 0 < d) (h : 0 ≤ rq n d) : 0 ≤ n := by
  have h1 := Rat.mul_nonneg h (Rat.le_of_lt (cast_pos hd))
  have h2 : rq n d * (d : Rat) = (n : Rat) := by
    unfold rq
    have := rq_pos hd
    grind
  rw [h2] at h1
  exact Rat.intCast_nonneg.1 h1
theorem le_rq {a b c d : Int} (hb : 0 < b) (hd : 0 < d) (h : a * d ≤ c * b) : rq a b ≤ rq c d := by
  have h1 := rq_nn (show 0 ≤ c * b - a * d by omega) (Int.mul_pos hd hb)
  rw [rq_sub (by omega) (by omega)] at h1
  grind
theorem le_one {n d : Int} (hd : 0 < d) (h : rq n d ≤ 1) : n ≤ d := by
  have h1 : rq (d - n) d = 1 - rq n d := by
    unfold rq
    have := rq_pos hd
    rw [Rat.intCast_sub]
    grind
  have h2 := nn_rq (n := d - n) hd (by rw [h1]; grind)
  omega
theorem rq_one {n d : Int} (hd : 0 < d) (h : n ≤ d) : rq n d ≤ 1 := by
  have h1 : rq (d - n) d = 1 - rq n d := by
    unfold rq
    have := rq_pos hd
    rw [Rat.intCast_sub]
    grind
  have h2 := rq_nn (n := d - n) (by omega) hd
  rw [h1] at h2
  grind
theorem between01 (xp xq yp yq x : Rat) (h1 : xp ≤ x) (h2 : x ≤ xq) (h3 : xp < xq) (a1 : 0 ≤ yp) (a2 : yp ≤ 1) (b1 : 0 ≤ yq) (b2 : yq ≤ 1) :
    0 ≤ yp + (x - xp) * ((yq - yp) / (xq - xp)) ∧ yp + (x - xp) * ((yq - yp) / (xq - xp)) ≤ 1 := by
  have hp : 0 < xq - xp := by grind
  have hi := inv_nn hp
  have hc : (xq - xp) * (xq - xp)⁻¹ = 1 := Rat.mul_inv_cancel _ (by grind)
  rw [Rat.div_def]
  generalize (xq - xp)⁻¹ = i at *
  have ht0 : 0 ≤ (x - xp) * i := Rat.mul_nonneg (by grind) hi
  have ht1 : 0 ≤ (xq - x) * i := Rat.mul_nonneg (by grind) hi
  have e : 1 - (x - xp) * i = (xq - x) * i := by grind
  have e2 : yp + (x - xp) * ((yq - yp) * i) = yp * (1 - (x - xp) * i) + yq * ((x - xp) * i) := by grind
  rw [e2]
  generalize (x - xp) * i = t at *
  rw [← e] at ht1
  have m1 := Rat.mul_nonneg a1 ht1
  have m2 := Rat.mul_nonneg b1 ht0
  have m3 := Rat.mul_nonneg (show 0 ≤ 1 - yp by grind) ht1
  have m4 := Rat.mul_nonneg (show 0 ≤ 1 - yq by grind) ht0
  constructor
  · grind
  · grind
theorem onT_unit {p q : Pt} (hs : Seg p q) {x0 x1 : Int} (hx : OkU x0 x1) (h1 : p.f0.f0 * x1 ≤ x0 * p.f0.f1) (h2 : x0 * q.f0.f1 ≤ q.f0.f0 * x1) (hok : (onT p q x0 x1).2.2 = true) : OkU (onT p q x0 x1).1 (onT p q x0 x1).2.1 := by
  have hR := onT_ok hok
  obtain ⟨u1, u2, _, _⟩ := co_sub hs.cq.2 hs.cp.2
  obtain ⟨v1, v2, _, _⟩ := co_sub hs.cq.1 hs.cp.1
  have v5 := sub_ne hs.cq.1.1.1 hs.cp.1.1.1 hs.lt v1
  have pd := hs.cp.1.1.1.1
  have pd2 := hs.cp.2.1.1.1
  have qd := hs.cq.1.1.1.1
  have qd2 := hs.cq.2.1.1.1
  have xd := hx.1.1
  have hsl := seg_slope hs
  have eu : rq (subT q.f1.f0 q.f1.f1 p.f1.f0 p.f1.f1).1 (subT q.f1.f0 q.f1.f1 p.f1.f0 p.f1.f1).2.1 = rq q.f1.f0 q.f1.f1 - rq p.f1.f0 p.f1.f1 := by
    unfold subT at u1 ⊢
    rw [mk_rq _ _ (den_pos hs.cq.2.1.1 hs.cp.2.1.1) u1, rq_sub (by omega) (by omega)]
  have ev : rq (subT q.f0.f0 q.f0.f1 p.f0.f0 p.f0.f1).1 (subT q.f0.f0 q.f0.f1 p.f0.f0 p.f0.f1).2.1 = rq q.f0.f0 q.f0.f1 - rq p.f0.f0 p.f0.f1 := by
    unfold subT at v1 ⊢
    rw [mk_rq _ _ (den_pos hs.cq.1.1.1 hs.cp.1.1.1) v1, rq_sub (by omega) (by omega)]
  have es : rq (slT p q).1 (slT p q).2.1 = (rq q.f1.f0 q.f1.f1 - rq p.f1.f0 p.f1.f1) / (rq q.f0.f0 q.f0.f1 - rq p.f0.f0 p.f0.f1) := by
    have hk := hsl.1
    rw [← eu, ← ev]
    unfold slT divT at hk ⊢
    rw [if_neg v5] at hk ⊢
    have w1 := u2.1
    have w2 := v2.1
    rw [mk_rq _ _ (Int.mul_ne_zero (by omega) v5) hk, rq_div (by omega) (by omega) v5]
  unfold onT at hok hR ⊢
  split at hok
  · rename_i hf
    rw [if_pos hf] at hR ⊢
    split at hok
    · rename_i hm
      rw [if_pos hm] at hR ⊢
      have hfo := subT_ok _ _ _ _ hf
      have hmo := mulT_ok _ _ _ _ hm
      have ef : rq (subT x0 x1 p.f0.f0 p.f0.f1).1 (subT x0 x1 p.f0.f0 p.f0.f1).2.1 = rq x0 x1 - rq p.f0.f0 p.f0.f1 := by
        unfold subT at hf ⊢
        rw [mk_rq _ _ (den_pos hx.1 hs.cp.1.1.1) hf, rq_sub (by omega) (by omega)]
      generalize hfar : subT x0 x1 p.f0.f0 p.f0.f1 = far at *
      generalize hsll : slT p q = sl at *
      have em : rq (mulT far.1 far.2.1 sl.1 sl.2.1).1 (mulT far.1 far.2.1 sl.1 sl.2.1).2.1 = rq far.1 far.2.1 * rq sl.1 sl.2.1 := by
        have w1 := hfo.1
        have w2 := hsl.2.1
        unfold mulT at hm ⊢
        rw [mk_rq _ _ (den_pos hfo hsl.2) hm, rq_mul (by omega) (by omega)]
      generalize hmul : mulT far.1 far.2.1 sl.1 sl.2.1 = mu at *
      have ea : rq (addT p.f1.f0 p.f1.f1 mu.1 mu.2.1).1 (addT p.f1.f0 p.f1.f1 mu.1 mu.2.1).2.1 = rq p.f1.f0 p.f1.f1 + rq mu.1 mu.2.1 := by
        have w1 := hmo.1
        unfold addT at hok ⊢
        rw [mk_rq _ _ (den_pos hs.cp.2.1.1 hmo) hok, rq_add (by omega) (by omega)]
      rw [em, ef, es] at ea
      have hxx : rq p.f0.f0 p.f0.f1 < rq q.f0.f0 q.f0.f1 := by
        have g1 := rq_nn (n := (subT q.f0.f0 q.f0.f1 p.f0.f0 p.f0.f1).1) (d := (subT q.f0.f0 q.f0.f1 p.f0.f0 p.f0.f1).2.1)
        have g2 : rq p.f0.f0 p.f0.f1 ≤ rq q.f0.f0 q.f0.f1 := le_rq (by omega) (by omega) (Int.le_of_lt hs.lt)
        have g3 : rq p.f0.f0 p.f0.f1 ≠ rq q.f0.f0 q.f0.f1 := by
          intro hh
          have g4 : rq (subT q.f0.f0 q.f0.f1 p.f0.f0 p.f0.f1).1 (subT q.f0.f0 q.f0.f1 p.f0.f0 p.f0.f1).2.1 = 0 := by rw [ev, hh]; grind
          have g5 := rq_pos (show 0 < (subT q.f0.f0 q.f0.f1 p.f0.f0 p.f0.f1).2.1 by have := v2.1; omega)
          have g6 : ((subT q.f0.f0 q.f0.f1 p.f0.f0 p.f0.f1).1 : Rat) ≠ 0 := by simpa using v5
          unfold rq at g4
          grind
        grind
      have hb := between01 (rq p.f0.f0 p.f0.f1) (rq q.f0.f0 q.f0.f1) (rq p.f1.f0 p.f1.f1) (rq q.f1.f0 q.f1.f1) (rq x0 x1)
        (le_rq (by omega) (by omega) h1) (le_rq (by omega) (by omega) h2) hxx
        (rq_nn hs.cp.2.1.2.1 (by omega)) (rq_one (by omega) hs.cp.2.1.2.2) (rq_nn hs.cq.2.1.2.1 (by omega)) (rq_one (by omega) hs.cq.2.1.2.2)
      rw [← ea] at hb
      have hp := hR.1
      exact ⟨hR, nn_rq (by omega) hb.1, le_one (by omega) hb.2⟩
    · cases hok
  · cases hok
theorem atT_unit {l : List Pt} (hm : IsMap l) {x0 x1 : Int} (hx : OkU x0 x1) (hok : (atT l x0 x1).2.2 = true) : OkU (atT l x0 x1).1 (atT l x0 x1).2.1 := by
  obtain ⟨h1, _, _, h2, h3⟩ := piece_eq l x0 x1 hm hx
  exact onT_unit (hm.seg _ h1) hx h2 h3 hok
end Go.Proofs.Ytgejkhbehoabdaa.Pu
set_option linter.unusedVariables false
set_option linter.unusedSimpArgs false
namespace Go.Proofs.Ytgejkhbehoabdaa.Pu
open Go.RowKit Go.Proofs.Ytgejkhbehoabdaa.Q Go.Proofs.YtgejkhbehoabdaaW.PrintWords Go.Proofs.YtgejkhbehoabdaaW.PrintLast Go.Proofs.YtgejkhbehoabdaaW.PrintMore
theorem same_rat {a b c d : Int} (h1 : OkR a b) (h2 : OkR c d) (h : a * d = c * b) : a = c ∧ b = d := by
  obtain ⟨b1, _, _, _, hg1⟩ := h1
  obtain ⟨d1, _, _, _, hg2⟩ := h2
  have hn : a.natAbs * d.natAbs = c.natAbs * b.natAbs := by rw [← Int.natAbs_mul, ← Int.natAbs_mul, h]
  rw [Int.gcd_eq_natAbs_gcd_natAbs] at hg1 hg2
  have c1 : Nat.Coprime b.natAbs a.natAbs := by unfold Nat.Coprime; rw [Nat.gcd_comm]; exact hg1
  have c2 : Nat.Coprime d.natAbs c.natAbs := by unfold Nat.Coprime; rw [Nat.gcd_comm]; exact hg2
  have e1 : b.natAbs ∣ d.natAbs := c1.dvd_of_dvd_mul_left ⟨c.natAbs, by rw [hn, Nat.mul_comm]⟩
  have e2 : d.natAbs ∣ b.natAbs := c2.dvd_of_dvd_mul_left ⟨a.natAbs, by rw [← hn, Nat.mul_comm]⟩
  have e3 : b.natAbs = d.natAbs := Nat.dvd_antisymm e1 e2
  have e4 : b = d := by omega
  subst e4
  exact ⟨Int.eq_of_mul_eq_mul_right (by omega) h, rfl⟩
end Go.Proofs.Ytgejkhbehoabdaa.Pu
set_option linter.unusedVariables false
set_option linter.unusedSimpArgs false
namespace Go.Proofs.Ytgejkhbehoabdaa.Pu
open Go.RowKit Go.Proofs.Ytgejkhbehoabdaa.Q Go.Proofs.YtgejkhbehoabdaaW.PrintWords Go.Proofs.YtgejkhbehoabdaaW.PrintLast Go.Proofs.YtgejkhbehoabdaaW.PrintMore
theorem nr_last (l : List Ra) (x : Ra) : nr (l ++ [x]) ((l ++ [x]).length - 1) = x := by
  unfold nr
  simp
theorem value_ok {l : List Pt} (hm : IsMap l) {x0 x1 : Int} (hx : OkU x0 x1) (k : Nat) (hk : 300 ≤ k) : ∃ v, impl_calc_value.f k false l x0 x1 = some v ∧ v.2.2 = !(atT l x0 x1).2.2 ∧ ((atT l x0 x1).2.2 = true → v.1 = (atT l x0 x1).1 ∧ v.2.1 = (atT l x0 x1).2.1) := by
  obtain ⟨v, e, r⟩ := value_eq hm hx false k hk
  refine ⟨v, e, ?_, r.val⟩
  rw [r.bad]
  rfl
def orbL (f : List Pt) : Nat → Ra → List Ra → List Ra
  | 0, _, out => out
  | n + 1, x, out => if (atT f x.f0 x.f1).2.2 = true then orbL f n ⟨(atT f x.f0 x.f1).1, (atT f x.f0 x.f1).2.1⟩ (out ++ [⟨(atT f x.f0 x.f1).1, (atT f x.f0 x.f1).2.1⟩]) else out
theorem orbL_len (f : List Pt) : ∀ n x out, (orbL f n x out).length ≤ out.length + n := by
  intro n
  induction n with
  | zero => intro x out; exact Nat.le_refl _
  | succ n ih =>
    intro x out
    unfold orbL
    split
    · refine Nat.le_trans (ih _ _) ?_
      simp
      omega
    · omega
theorem orbL_unit {f : List Pt} (hm : IsMap f) : ∀ n x out, OkU x.f0 x.f1 → Units out → Units (orbL f n x out) := by
  intro n
  induction n with
  | zero => intro x out _ h; exact h
  | succ n ih =>
    intro x out hx h
    unfold orbL
    split
    · rename_i ha
      have hu := atT_unit hm hx ha
      refine ih _ _ hu (fun y hy => ?_)
      rcases List.mem_append.1 hy with hy | hy
      · exact h y hy
      · rw [List.mem_singleton.1 hy]; exact hu
    · exact h
theorem impl_orbit_l (f : List Pt) (hm : IsMap f) (s : Nat) (hs : s ≤ 1000) : ∀ (n k i : Nat) (x : Ra) (out : List Ra), OkU x.f0 x.f1 → i + n = s → out.length ≤ i + 1 → 400 + n < k →
    impl_orbit.l0 k f out (s : Int) (i : Int) x.f0 x.f1 false = some (orbL f n x out) := by
  intro n
  induction n with
  | zero =>
    intro k i x out hx hi ho hk
    obtain ⟨k, rfl⟩ : ∃ m, k = m + 1 := ⟨k - 1, by omega⟩
    simp only [impl_orbit.l0]
    rw [if_neg (by omega)]
    rfl
  | succ n ih =>
    intro k i x out hx hi ho hk
    obtain ⟨k, rfl⟩ : ∃ m, k = m + 1 := ⟨k - 1, by omega⟩
    simp only [impl_orbit.l0]
    obtain ⟨v, e, r1, r2⟩ := value_ok hm hx k (by omega)
    rw [if_pos (by omega), e, Option.bind_some]
    unfold orbL
    cases ha : (atT f x.f0 x.f1).2.2 with
    | false => rw [r1, ha, if_pos (by rfl), if_neg (by decide)]
    | true =>
      have hu := atT_unit hm hx ha
      obtain ⟨e1, e2⟩ := r2 ha
      rw [r1, ha, if_neg (by decide), if_pos rfl, e1, e2, if_pos (by omega), wr _ (by omega), show (i : Int) + 1 = ((i + 1 : Nat) : Int) by omega]
      exact ih k (i + 1) ⟨_, _⟩ _ hu (by omega) (by simp; omega) (by omega)
theorem spec_orbit_l (f : List Pt) (hm : IsMap f) (s : Nat) (hs : s ≤ 1000) : ∀ (n k : Nat) (x : Ra) (out : List Ra), OkU x.f0 x.f1 → out.length + n = s + 1 → 1 ≤ out.length → nr out (out.length - 1) = x → 400 + n < k →
    spec_orRun.l0 k f (s : Int) out = some (orbL f n x out) := by
  intro n
  induction n with
  | zero =>
    intro k x out hx hi ho hl hk
    obtain ⟨k, rfl⟩ : ∃ m, k = m + 1 := ⟨k - 1, by omega⟩
    simp only [spec_orRun.l0]
    rw [if_neg (by omega)]
    rfl
  | succ n ih =>
    intro k x out hx hi ho hl hk
    obtain ⟨k, rfl⟩ : ∃ m, k = m + 1 := ⟨k - 1, by omega⟩
    simp only [spec_orRun.l0]
    rw [if_pos (by omega), wr _ (by omega), if_pos (by omega), if_pos (by omega), show (out.length : Int) - 1 = ((out.length - 1 : Nat) : Int) by omega, rd_nr, hl, imAt_eq hm hx k (by omega), Option.bind_some]
    unfold orbL
    cases ha : (atT f x.f0 x.f1).2.2 with
    | false => rw [if_neg (by decide), if_neg (by decide)]
    | true =>
      have hu := atT_unit hm hx ha
      rw [if_pos rfl, if_pos rfl, if_pos (by omega)]
      exact ih k ⟨_, _⟩ _ hu (by simp; omega) (by simp) (nr_last _ _) (by omega)
theorem dsT_comm {a b c d : Int} (h1 : OkR a b) (h2 : OkR c d) : dsT a b c d = dsT c d a b := by
  unfold dsT
  by_cases h : a * d < c * b
  · rw [if_pos h, if_neg (by omega)]
  · rw [if_neg h]
    by_cases h3 : c * b < a * d
    · rw [if_pos h3]
    · rw [if_neg h3]
      obtain ⟨e1, e2⟩ := same_rat h1 h2 (by omega)
      subst e1
      subst e2
      rfl
def shL (o l : List Ra) (e0 e1 : Int) : Nat → Nat → Bool → Bool × Bool
  | 0, _, fl => (fl, true)
  | n + 1, i, fl => if (dsT (nr o i).f0 (nr o i).f1 (nr l i).f0 (nr l i).f1).2.2 = true then
      shL o l e0 e1 n (i + 1) (fl && !decide (e0 * (dsT (nr o i).f0 (nr o i).f1 (nr l i).f0 (nr l i).f1).2.1 < (dsT (nr o i).f0 (nr o i).f1 (nr l i).f0 (nr l i).f1).1 * e1)) else (false, false)
theorem impl_sh_l (o l : List Ra) (ho : Units o) (hl : Units l) (e0 e1 : Int) (he : OkR e0 e1) (h : l.length ≤ o.length) (h20 : l.length ≤ 20) : ∀ (n k i : Nat) (fl s : Bool), i + n = l.length → 400 + n < k →
    impl_IsShadowed.l0 k o fl l (l.length : Int) (i : Int) e0 e1 s = some (if s = true then (false, false) else shL o l e0 e1 n i fl) := by
  intro n
  induction n with
  | zero =>
    intro k i fl s hi hk
    obtain ⟨k, rfl⟩ : ∃ m, k = m + 1 := ⟨k - 1, by omega⟩
    simp only [impl_IsShadowed.l0]
    rw [if_neg (by omega)]
    cases s <;> rfl
  | succ n ih =>
    intro k i fl s hi hk
    obtain ⟨k, rfl⟩ : ∃ m, k = m + 1 := ⟨k - 1, by omega⟩
    simp only [impl_IsShadowed.l0]
    have ho1 := (ho _ (nr_mem o i (by omega))).1
    have hl1 := (hl _ (nr_mem l i (by omega))).1
    rw [if_pos (by omega), if_pos (by omega), if_pos (by omega), if_pos (by omega), rd_nr, rd_nr, distance_eq ho1 hl1 s k (by omega), Option.bind_some]
    have ed : (if (nr o i).f0 * (nr l i).f1 < (nr l i).f0 * (nr o i).f1 then subT (nr l i).f0 (nr l i).f1 (nr o i).f0 (nr o i).f1 else subT (nr o i).f0 (nr o i).f1 (nr l i).f0 (nr l i).f1) = dsT (nr o i).f0 (nr o i).f1 (nr l i).f0 (nr l i).f1 := rfl
    rw [ed]
    have hd := dsT_ok (nr o i).f0 (nr o i).f1 (nr l i).f0 (nr l i).f1
    have er : shL o l e0 e1 (n + 1) i fl = if (dsT (nr o i).f0 (nr o i).f1 (nr l i).f0 (nr l i).f1).2.2 = true then
      shL o l e0 e1 n (i + 1) (fl && !decide (e0 * (dsT (nr o i).f0 (nr o i).f1 (nr l i).f0 (nr l i).f1).2.1 < (dsT (nr o i).f0 (nr o i).f1 (nr l i).f0 (nr l i).f1).1 * e1)) else (false, false) := rfl
    rw [er]
    generalize dsT (nr o i).f0 (nr o i).f1 (nr l i).f0 (nr l i).f1 = D at *
    have hk2 : OkR (kp s D).1 (kp s D).2.1 := kp_ok hd
    rw [less_eq he.bd hk2.bd, Option.bind_some, wr _ (by omega), show (i : Int) + 1 = ((i + 1 : Nat) : Int) by omega, ih k (i + 1) false (kp s D).2.2 (by omega) (by omega), ih k (i + 1) fl (kp s D).2.2 (by omega) (by omega), kp_bad]
    cases s with
    | true => simp
    | false =>
      cases hD : D.2.2 with
      | false => simp
      | true =>
        rw [kp_val hD]
        by_cases hq : e0 * D.2.1 < D.1 * e1
        · simp [hq]
        · simp [hq]
theorem spec_sh_l (o l : List Ra) (ho : Units o) (hl : Units l) (e0 e1 : Int) (he : OkR e0 e1) (h : l.length ≤ o.length) (h20 : l.length ≤ 20) : ∀ (n k i : Nat) (fl : Bool), i + n = l.length → 400 + n < k →
    spec_IsShadowed.l0 k o fl l (l.length : Int) (i : Int) e0 e1 = some (shL o l e0 e1 n i fl) := by
  intro n
  induction n with
  | zero =>
    intro k i fl hi hk
    obtain ⟨k, rfl⟩ : ∃ m, k = m + 1 := ⟨k - 1, by omega⟩
    simp only [spec_IsShadowed.l0]
    rw [if_neg (by omega)]
    rfl
  | succ n ih =>
    intro k i fl hi hk
    obtain ⟨k, rfl⟩ : ∃ m, k = m + 1 := ⟨k - 1, by omega⟩
    simp only [spec_IsShadowed.l0]
    have ho1 := (ho _ (nr_mem o i (by omega))).1
    have hl1 := (hl _ (nr_mem l i (by omega))).1
    rw [if_pos (by omega), if_pos (by omega), if_pos (by omega), if_pos (by omega), rd_nr, rd_nr, apart_eq hl1 ho1 k (by omega), Option.bind_some]
    have ed : (if (nr l i).f0 * (nr o i).f1 < (nr o i).f0 * (nr l i).f1 then subT (nr o i).f0 (nr o i).f1 (nr l i).f0 (nr l i).f1 else subT (nr l i).f0 (nr l i).f1 (nr o i).f0 (nr o i).f1) = dsT (nr o i).f0 (nr o i).f1 (nr l i).f0 (nr l i).f1 := dsT_comm hl1 ho1
    rw [ed]
    have hd := dsT_ok (nr o i).f0 (nr o i).f1 (nr l i).f0 (nr l i).f1
    have er : shL o l e0 e1 (n + 1) i fl = if (dsT (nr o i).f0 (nr o i).f1 (nr l i).f0 (nr l i).f1).2.2 = true then
      shL o l e0 e1 n (i + 1) (fl && !decide (e0 * (dsT (nr o i).f0 (nr o i).f1 (nr l i).f0 (nr l i).f1).2.1 < (dsT (nr o i).f0 (nr o i).f1 (nr l i).f0 (nr l i).f1).1 * e1)) else (false, false) := rfl
    rw [er]
    generalize dsT (nr o i).f0 (nr o i).f1 (nr l i).f0 (nr l i).f1 = D at *
    rw [wr _ (by omega), show (i : Int) + 1 = ((i + 1 : Nat) : Int) by omega]
    cases hD : D.2.2 with
    | false => simp
    | true =>
      obtain ⟨t, ht, h1, h2⟩ := raCmp_eq (hd hD).bd he.bd
      rw [if_pos rfl, if_pos rfl, ht, Option.bind_some]
      have e3 : decide (t ≤ 0) = !decide (e0 * D.2.1 < D.1 * e1) := by
        rw [Bool.eq_iff_iff]
        simp only [decide_eq_true_eq, Bool.not_eq_true', decide_eq_false_iff_not]
        constructor
        · intro hh
          rcases Int.lt_or_eq_of_le hh with h3 | h3
          · have := h1.1 h3; omega
          · have := h2.1 h3; omega
        · intro hh
          rcases Int.lt_or_eq_of_le (Int.not_lt.1 hh) with h3 | h3
          · have := h1.2 h3; omega
          · have := h2.2 h3; omega
      rw [ih k (i + 1) _ (by omega) (by omega), ih k (i + 1) _ (by omega) (by omega), e3]
      cases fl <;> simp
end Go.Proofs.Ytgejkhbehoabdaa.Pu
set_option linter.unusedVariables false
set_option linter.unusedSimpArgs false
namespace Go.Proofs.Ytgejkhbehoabdaa.Pure
open Go.RowKit Go.Proofs.Ytgejkhbehoabdaa.Q Go.Proofs.Ytgejkhbehoabdaa.Pu Go.Proofs.YtgejkhbehoabdaaW.PrintWords Go.Proofs.YtgejkhbehoabdaaW.PrintLast Go.Proofs.YtgejkhbehoabdaaW.PrintMore
noncomputable def isR (f : List Pt) (l : List Ra) (x0 x1 e0 e1 : Int) : Bool × Bool :=
  if mapB f = true ∧ Pseudo l ∧ OkU x0 x1 ∧ OkU e0 e1 ∧ l.length ≤ (orbL f (l.length - 1) ⟨x0, x1⟩ [⟨x0, x1⟩]).length then shL (orbL f (l.length - 1) ⟨x0, x1⟩ [⟨x0, x1⟩]) l e0 e1 l.length 0 true else (false, false)
theorem units_one {x0 x1 : Int} (h : OkU x0 x1) : Units [(⟨x0, x1⟩ : Ra)] := fun y hy => by rw [List.mem_singleton.1 hy]; exact h
theorem impl_eq (f : List Pt) (l : List Ra) (x0 x1 e0 e1 : Int) (hf : f.length ≤ 1048576) (hl : l.length ≤ 1048576) (k : Nat) (hk : 2000001 ≤ k) : impl_IsShadowed.f k f l x0 x1 e0 e1 = some (isR f l x0 x1 e0 e1) := by
  unfold impl_IsShadowed.f isR
  obtain ⟨k, rfl⟩ : ∃ m, k = m + 1 := ⟨k - 1, by omega⟩
  rw [isMapB f hf (k + 1) (by omega), Option.bind_some]
  cases hm : mapB f with
  | false =>
    rw [if_neg (by decide), if_neg (fun h => by cases h.1)]
    simp only [impl_IsShadowed.j0, if_true]
  | true =>
    have hM := (mapB_iff f).1 hm
    rw [if_pos rfl, isPseudo_eq l (k + 1) (by omega), Option.bind_some]
    by_cases hp : Pseudo l
    · have h1 := hp.1
      have h20 := hp.2.1
      rw [if_pos (decide_eq_true hp), areUnits_eq _ (k + 1) (by omega), Option.bind_some]
      simp only [impl_IsShadowed.j0]
      by_cases hu : OkU x0 x1 ∧ OkU e0 e1
      · have hUU : Units [(⟨x0, x1⟩ : Ra), ⟨e0, e1⟩] := fun y hy => by
          rcases List.mem_cons.1 hy with rfl | hy
          · exact hu.1
          · rw [List.mem_singleton.1 hy]; exact hu.2
        have hO := orbL_unit hM (l.length - 1) ⟨x0, x1⟩ _ hu.1 (units_one hu.1)
        have hOl := orbL_len f (l.length - 1) ⟨x0, x1⟩ [⟨x0, x1⟩]
        rw [decide_eq_true hUU, Bool.not_true, if_neg (by decide), wr _ (by omega), show (l.length : Int) - 1 = ((l.length - 1 : Nat) : Int) by omega]
        unfold impl_orbit.f
        have ei := impl_orbit_l f hM (l.length - 1) (by omega) (l.length - 1) k 0 ⟨x0, x1⟩ [⟨x0, x1⟩] hu.1 (by omega) (by simp) (by omega)
        rw [show ((0 : Nat) : Int) = 0 from rfl] at ei
        rw [ei, Option.bind_some]
        generalize orbL f (l.length - 1) ⟨x0, x1⟩ [⟨x0, x1⟩] = O at *
        by_cases hlen : l.length ≤ O.length
        · have es := impl_sh_l O l hO hp.2.2 e0 e1 hu.2.1 hlen h20 l.length k 0 true false (by omega) (by omega)
          rw [show ((0 : Nat) : Int) = 0 from rfl] at es
          rw [if_neg (by omega), es, if_neg (by decide), if_pos (by refine ⟨?_, hp, hu.1, hu.2, hlen⟩ <;> first | rfl | trivial)]
        · rw [if_pos (by omega), if_neg (fun h => hlen h.2.2.2.2)]
      · rw [show decide (Units [(⟨x0, x1⟩ : Ra), ⟨e0, e1⟩]) = false from decide_eq_false (fun h => hu ⟨h ⟨x0, x1⟩ (by simp), h ⟨e0, e1⟩ (by simp)⟩), Bool.not_false, if_pos rfl, if_neg (fun h => hu ⟨h.2.2.1, h.2.2.2.1⟩)]
    · rw [if_neg (by simpa using hp), if_neg (fun h => hp h.2.1)]
      simp only [impl_IsShadowed.j0, if_true]
theorem spec_eq (f : List Pt) (l : List Ra) (x0 x1 e0 e1 : Int) (hf : f.length ≤ 1048576) (hl : l.length ≤ 1048576) (k : Nat) (hk : 2000001 ≤ k) : spec_IsShadowed.f k f l x0 x1 e0 e1 = some (isR f l x0 x1 e0 e1) := by
  unfold spec_IsShadowed.f isR
  obtain ⟨k, rfl⟩ : ∃ m, k = m + 1 := ⟨k - 1, by omega⟩
  rw [sdAsked_eq f l hf hl (k + 1) (by omega), Option.bind_some]
  by_cases h : mapB f = true ∧ Pseudo l
  · have hm := h.1
    have hp := h.2
    have hM := (mapB_iff f).1 hm
    have h1 := hp.1
    have h20 := hp.2.1
    rw [hm, decide_eq_true hp, Bool.and_self, if_pos rfl, raUnit_eq _ _ (k + 1) (by omega), Option.bind_some]
    by_cases hx : OkU x0 x1
    · rw [if_pos (decide_eq_true hx), raUnit_eq _ _ (k + 1) (by omega), Option.bind_some]
      simp only [spec_IsShadowed.j0]
      by_cases he : OkU e0 e1
      · have hO := orbL_unit hM (l.length - 1) ⟨x0, x1⟩ _ hx (units_one hx)
        have hOl := orbL_len f (l.length - 1) ⟨x0, x1⟩ [⟨x0, x1⟩]
        rw [decide_eq_true he, Bool.not_true, if_neg (by decide), wr _ (by omega), show (l.length : Int) - 1 = ((l.length - 1 : Nat) : Int) by omega]
        unfold spec_orRun.f
        have ei := spec_orbit_l f hM (l.length - 1) (by omega) (l.length - 1) k ⟨x0, x1⟩ [⟨x0, x1⟩] hx (by simp; omega) (by simp) rfl (by omega)
        rw [ei, Option.bind_some]
        generalize orbL f (l.length - 1) ⟨x0, x1⟩ [⟨x0, x1⟩] = O at *
        by_cases hlen : l.length ≤ O.length
        · have es := spec_sh_l O l hO hp.2.2 e0 e1 he.1 hlen h20 l.length k 0 true (by omega) (by omega)
          rw [show ((0 : Nat) : Int) = 0 from rfl] at es
          rw [if_neg (by omega), es, if_pos (by refine ⟨?_, hp, hx, he, hlen⟩ <;> first | rfl | trivial)]
        · rw [if_pos (by omega), if_neg (fun h => hlen h.2.2.2.2)]
      · rw [decide_eq_false he, Bool.not_false, if_pos rfl, if_neg (fun h => he h.2.2.2.1)]
    · rw [if_neg (by simpa using hx), if_neg (fun h => hx h.2.2.1)]
      simp only [spec_IsShadowed.j0, if_true]
  · rw [if_neg (by
      intro hh
      simp only [Bool.and_eq_true, decide_eq_true_eq] at hh
      exact h hh), if_neg (fun hh => h ⟨hh.1, hh.2.1⟩)]
    simp only [spec_IsShadowed.j0, if_true]
theorem FnExactIsShadowed : laws_FnExactIsShadowed.Pure := by
  intro l0 l1 a2_0 a2_1 a3_0 a3_1 _ _ _ _ _ _ _ _
  refine ⟨4000005, ?_⟩
  unfold laws_FnExactIsShadowed.f laws_szPointS.f laws_toRat.f
  have hm0 : (maxLen : Nat) ≤ 9223372036854775807 := by decide
  by_cases hb : (wrap64 (1048576 - (l0.length : Int))) < 0
  · rw [if_pos hb]; rfl
  · rw [if_neg hb]
    have hl0 : l0.length ≤ 1048576 := by rw [wr _ (by omega)] at hb; omega
    simp only [Option.bind_some]
    rw [if_neg hb]
    unfold laws_szRatS.f
    rw [wr (1048576 - _) (by omega)]
    by_cases hc : (wrap64 (1048576 - (l0.length : Int) - (l1.length : Int))) < 0
    · rw [if_pos hc]; rfl
    · rw [if_neg hc]
      have hl1 : l1.length ≤ 1048576 := by rw [wr _ (by omega)] at hc; omega
      simp only [Option.bind_some]
      rw [if_neg hc, toPointS l0 hl0 _ (by omega), toRatS l1 hl1 _ (by omega)]
      simp only [Option.bind_some]
      have hf : (l0.map cvPoint).length ≤ 1048576 := by simpa using hl0
      have hr : (l1.map cvRat).length ≤ 1048576 := by simpa using hl1
      generalize hF : l0.map cvPoint = F at hf
      generalize hR : l1.map cvRat = R at hr
      rw [spec_eq F R _ _ _ _ hf hr _ (by omega), impl_eq F R _ _ _ _ hf hr _ (by omega)]
      generalize isR F R a2_0 a2_1 a3_0 a3_1 = v
      simp only [Option.bind_some, bne_self_eq_false, laws_FnExactIsShadowed.j0]
      rw [if_neg (by decide), if_neg (by decide), toPointS l0 hl0 _ (by omega), hF]
      simp only [Option.bind_some]
      rw [eqPointS_self F (by omega) _ (by omega)]
      simp only [Option.bind_some, if_true]
      rw [toRatS l1 hl1 _ (by omega), hR]
      simp only [Option.bind_some]
      rw [eqRatS_self R (by omega) _ (by omega)]
      simp only [Option.bind_some, if_true]
end Go.Proofs.Ytgejkhbehoabdaa.Pure

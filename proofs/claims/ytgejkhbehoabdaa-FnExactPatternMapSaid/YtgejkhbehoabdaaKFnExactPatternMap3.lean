/- All that the statement FnExactPatternMap rests on, part 3: the walks of the functions that it reaches, and the plain laws of what they compute. -/
import Derived.Test.YtgejkhbehoabdaaKFnExactPatternMap2
set_option linter.unusedVariables false
set_option linter.unusedSimpArgs false
namespace Go.Proofs.Ytgejkhbehoabdaa.Pu
open Go.RowKit Go.Proofs.Ytgejkhbehoabdaa.Q Go.Proofs.YtgejkhbehoabdaaW.PrintWords Go.Proofs.YtgejkhbehoabdaaW.PrintLast Go.Proofs.YtgejkhbehoabdaaW.PrintMore
theorem wr (x : Int) (h : -9223372036854775808 ≤ x ∧ x ≤ 9223372036854775807) : wrap64 x = x := by unfold wrap64; omega
theorem getD_setG {α : Type} (l : List α) (i j : Nat) (v d : α) (hi : i < l.length) : (l.set i v).getD j d = if i = j then v else l.getD j d := by
  simp only [List.getD_eq_getElem?_getD, List.getElem?_set]
  by_cases e : i = j
  · subst e; simp [hi]
  · simp [e]
theorem ext_getDG {α : Type} (d : α) (a b : List α) (hl : a.length = b.length) (h : ∀ j, j < a.length → a.getD j d = b.getD j d) : a = b := by
  apply List.ext_getElem hl
  intro j h1 h2
  have := h j h1
  simpa [List.getD_eq_getElem?_getD, h1, h2] using this
theorem half_lt (b r n : Nat) (hb : b < 2 ^ (n + 1)) (hr : r < b) (h0 : 0 < r) : b % r < 2 ^ n := by
  have h1 : b % r < r := Nat.mod_lt _ h0
  have h2 := Nat.div_add_mod b r
  have h3 : 1 ≤ b / r := (Nat.one_le_div_iff h0).2 (Nat.le_of_lt hr)
  have h4 : r * 1 ≤ r * (b / r) := Nat.mul_le_mul_left r h3
  have h5 : 2 ^ (n + 1) = 2 * 2 ^ n := by rw [Nat.pow_succ]; omega
  omega
theorem gcd_l : ∀ (n k a b : Nat), b < 2 ^ n → 2 * n + 1 < k → impl_greatestDivisor.l0 k (a : Int) (b : Int) = some ((Nat.gcd a b : Nat) : Int) := by
  intro n
  induction n with
  | zero =>
    intro k a b hb hk
    obtain ⟨k, rfl⟩ : ∃ m, k = m + 1 := ⟨k - 1, by omega⟩
    have : b = 0 := by simpa using hb
    subst this
    simp [impl_greatestDivisor.l0]
  | succ n ih =>
    intro k a b hb hk
    obtain ⟨k, rfl⟩ : ∃ m, k = m + 2 := ⟨k - 2, by omega⟩
    simp only [impl_greatestDivisor.l0]
    by_cases h0 : b = 0
    · subst h0; simp
    · rw [if_neg (by omega), ← Int.ofNat_tmod]
      by_cases h1 : a % b = 0
      · rw [h1, if_pos (by rfl), Nat.gcd_comm, Nat.gcd_rec, h1, Nat.gcd_zero_left]
      · rw [if_neg (by omega), ← Int.ofNat_tmod, ih k _ _ (half_lt b (a % b) n hb (Nat.mod_lt _ (by omega)) (by omega)) (by omega)]
        congr 2
        rw [Nat.gcd_comm a b, Nat.gcd_rec b a, Nat.gcd_rec (a % b) b, Nat.gcd_comm]
theorem raCommon_l : ∀ (n k a b : Nat), b < 2 ^ n → 2 * n + 1 < k → spec_raCommon.l0 k (a : Int) (b : Int) = some ((Nat.gcd a b : Nat) : Int) := by
  intro n
  induction n with
  | zero =>
    intro k a b hb hk
    obtain ⟨k, rfl⟩ : ∃ m, k = m + 1 := ⟨k - 1, by omega⟩
    have : b = 0 := by simpa using hb
    subst this
    simp [spec_raCommon.l0]
  | succ n ih =>
    intro k a b hb hk
    obtain ⟨k, rfl⟩ : ∃ m, k = m + 2 := ⟨k - 2, by omega⟩
    simp only [spec_raCommon.l0]
    by_cases h0 : b = 0
    · subst h0; simp
    · rw [if_pos (by omega), if_neg (by omega), ← Int.ofNat_tmod]
      by_cases h1 : a % b = 0
      · rw [h1, if_neg (by simp), Nat.gcd_comm, Nat.gcd_rec, h1, Nat.gcd_zero_left]
      · rw [if_pos (by omega), if_neg (by omega), ← Int.ofNat_tmod, ih k _ _ (half_lt b (a % b) n hb (Nat.mod_lt _ (by omega)) (by omega)) (by omega)]
        congr 2
        rw [Nat.gcd_comm a b, Nat.gcd_rec b a, Nat.gcd_rec (a % b) b, Nat.gcd_comm]
theorem abs_eq (a : Int) (h : -9223372036854775807 ≤ a ∧ a ≤ 9223372036854775807) : impl_abs.f a = some (a.natAbs : Int) := by
  unfold impl_abs.f
  split
  · rw [wr _ (by omega)]; congr 1; omega
  · congr 1; omega
theorem l1Abs_eq (a : Int) (h : -9223372036854775807 ≤ a ∧ a ≤ 9223372036854775807) : spec_l1Abs.f a = some (a.natAbs : Int) := by
  unfold spec_l1Abs.f spec_l1Most.f
  rw [wr _ (by omega)]
  split
  · simp only [Option.bind_some]; congr 1; omega
  · simp only [Option.bind_some]; congr 1; omega
theorem gcd_eq (a b : Int) (ha : -9223372036854775807 ≤ a ∧ a ≤ 9223372036854775807) (hb : -9223372036854775807 ≤ b ∧ b ≤ 9223372036854775807) (k : Nat) (hk : 200 ≤ k) : impl_greatestDivisor.f k a b = some ((Int.gcd a b : Nat) : Int) := by
  unfold impl_greatestDivisor.f
  rw [abs_eq a ha, abs_eq b hb]
  simp only [Option.bind_some]
  rw [gcd_l 64 k _ _ (by omega) (by omega)]
  rfl
def OkR (n d : Int) : Prop := 1 ≤ d ∧ d ≤ 1000000000 ∧ -1000000000 ≤ n ∧ n ≤ 1000000000 ∧ Int.gcd n d = 1
instance (n d : Int) : Decidable (OkR n d) := by unfold OkR; infer_instance
theorem isRat_eq (n d : Int) (k : Nat) (hk : 200 ≤ k) : impl_isRat.f k n d = some (decide (OkR n d)) := by
  unfold impl_isRat.f impl_within.f OkR
  by_cases h1 : 1 ≤ d
  · rw [if_pos h1]
    simp only [Option.bind_some]
    by_cases h2 : d ≤ 1000000000
    · rw [if_pos (by simpa using h2)]
      by_cases h3 : -1000000000 ≤ n
      · rw [if_pos h3]
        simp only [Option.bind_some]
        by_cases h4 : n ≤ 1000000000
        · rw [if_pos (by simpa using h4), gcd_eq n d (by omega) (by omega) k hk]
          simp only [Option.bind_some]
          congr 1
          simp only [h1, h2, h3, h4, true_and]
          rw [Bool.eq_iff_iff]
          simp only [beq_iff_eq, decide_eq_true_eq]
          omega
        · rw [if_neg (by simpa using h4)]; simp [h4]
      · rw [if_neg h3]; simp [h3]
    · rw [if_neg (by simpa using h2)]; simp [h2]
  · rw [if_neg h1]; simp [h1]
theorem raGood_eq (n d : Int) (k : Nat) (hk : 200 ≤ k) : spec_raGood.f k n d = some (decide (OkR n d)) := by
  unfold spec_raGood.f spec_l1In.f OkR
  by_cases h1 : 1 ≤ d
  · rw [if_pos h1]
    simp only [Option.bind_some]
    by_cases h2 : d ≤ 1000000000
    · rw [if_pos (by simpa using h2)]
      by_cases h3 : -1000000000 ≤ n
      · rw [if_pos h3]
        simp only [Option.bind_some]
        by_cases h4 : n ≤ 1000000000
        · rw [if_pos (by simpa using h4), l1Abs_eq n (by omega)]
          simp only [Option.bind_some]
          unfold spec_raCommon.f
          have := raCommon_l 64 k n.natAbs d.natAbs (by omega) (by omega)
          rw [show (d.natAbs : Int) = d by omega] at this
          rw [this]
          simp only [Option.bind_some]
          congr 1
          simp only [h1, h2, h3, h4, true_and]
          rw [Bool.eq_iff_iff, Int.gcd_eq_natAbs_gcd_natAbs]
          simp only [beq_iff_eq, decide_eq_true_eq]
          omega
        · rw [if_neg (by simpa using h4)]; simp [h4]
      · rw [if_neg h3]; simp [h3]
    · rw [if_neg (by simpa using h2)]; simp [h2]
  · rw [if_neg h1]; simp [h1]
def sg (n d : Int) : Int := if d < 0 then -(Int.gcd n d : Int) else (Int.gcd n d : Int)
def mk (n d : Int) : Int × Int × Bool := if OkR (n.tdiv (sg n d)) (d.tdiv (sg n d)) then (n.tdiv (sg n d), d.tdiv (sg n d), true) else (0, 0, false)
theorem tdiv_bd (n q : Int) (h : -9223372036854775807 ≤ n ∧ n ≤ 9223372036854775807) : -9223372036854775808 ≤ n.tdiv q ∧ n.tdiv q ≤ 9223372036854775807 := by
  have h1 := Int.natAbs_tdiv n q
  have h2 : n.natAbs.div q.natAbs ≤ n.natAbs := Nat.div_le_self _ _
  omega
theorem gcd_pos (n d : Int) (hd : d ≠ 0) : 0 < Int.gcd n d := by
  rw [Int.gcd_eq_natAbs_gcd_natAbs]
  exact Nat.gcd_pos_of_pos_right _ (by omega)
theorem gcd_le (n d : Int) (hd : d ≠ 0) : Int.gcd n d ≤ d.natAbs := by
  rw [Int.gcd_eq_natAbs_gcd_natAbs]
  exact Nat.gcd_le_right _ (by omega)
theorem lowest_eq (n d : Int) (hd : d ≠ 0) (hn : -9223372036854775807 ≤ n ∧ n ≤ 9223372036854775807) (hd2 : -9223372036854775807 ≤ d ∧ d ≤ 9223372036854775807) (k : Nat) (hk : 200 ≤ k) : impl_lowest.f k n d = some (mk n d) := by
  unfold impl_lowest.f mk
  have h1 := gcd_pos n d hd
  have h2 := gcd_le n d hd
  rw [gcd_eq n d hn hd2 k hk]
  simp only [Option.bind_some]
  unfold sg
  split
  · rw [wr (-(Int.gcd n d : Int)) (by omega), if_neg (by omega), wr _ (tdiv_bd _ _ hn), wr _ (tdiv_bd _ _ hd2), isRat_eq _ _ k hk]
    simp only [Option.bind_some, decide_eq_true_eq]
    split <;> rfl
  · rw [if_neg (by omega), wr _ (tdiv_bd _ _ hn), wr _ (tdiv_bd _ _ hd2), isRat_eq _ _ k hk]
    simp only [Option.bind_some, decide_eq_true_eq]
    split <;> rfl
theorem raMake_eq (n d : Int) (hd : d ≠ 0) (hn : -9223372036854775807 ≤ n ∧ n ≤ 9223372036854775807) (hd2 : -9223372036854775807 ≤ d ∧ d ≤ 9223372036854775807) (k : Nat) (hk : 200 ≤ k) : spec_raMake.f k n d = some (mk n d) := by
  unfold spec_raMake.f mk
  have h1 := gcd_pos n d hd
  have h2 := gcd_le n d hd
  rw [if_neg hd, l1Abs_eq n hn, l1Abs_eq d hd2]
  simp only [Option.bind_some]
  unfold spec_raCommon.f
  rw [raCommon_l 64 k _ _ (by omega) (by omega)]
  simp only [Option.bind_some]
  rw [← Int.gcd_eq_natAbs_gcd_natAbs]
  unfold sg
  split
  · rw [wr (-(Int.gcd n d : Int)) (by omega), if_neg (by omega), wr _ (tdiv_bd _ _ hn), wr _ (tdiv_bd _ _ hd2), raGood_eq _ _ k hk]
    simp only [Option.bind_some, decide_eq_true_eq]
    split <;> rfl
  · rw [if_neg (by omega), wr _ (tdiv_bd _ _ hn), wr _ (tdiv_bd _ _ hd2), raGood_eq _ _ k hk]
    simp only [Option.bind_some, decide_eq_true_eq]
    split <;> rfl
end Go.Proofs.Ytgejkhbehoabdaa.Pu
set_option linter.unusedVariables false
set_option linter.unusedSimpArgs false
namespace Go.Proofs.Ytgejkhbehoabdaa.Pu
open Go.RowKit Go.Proofs.Ytgejkhbehoabdaa.Q Go.Proofs.YtgejkhbehoabdaaW.PrintWords Go.Proofs.YtgejkhbehoabdaaW.PrintLast Go.Proofs.YtgejkhbehoabdaaW.PrintMore
theorem rdPoint (l : List S79) (i : Nat) : rd_T79 l (i : Int) = l.getD i z79 := by simp [rd_T79]
theorem eqPoint_self (x : S79) : laws_eqPoint.f x.f0.f0 x.f0.f1 x.f1.f0 x.f1.f1 x.f0.f0 x.f0.f1 x.f1.f0 x.f1.f1 = some true := by
  simp [laws_eqPoint.f, laws_eqRat.f]
theorem eqPointS_l (a : List S79) (hb : a.length ≤ 9000000000000000000) : ∀ (d k : Nat) (i : Nat), i + d = a.length → d < k → laws_eqPointS.l0 k a a (i : Int) = some true := by
  intro d
  induction d with
  | zero =>
    intro k i hi hk
    obtain ⟨k, rfl⟩ : ∃ m, k = m + 1 := ⟨k - 1, by omega⟩
    simp only [laws_eqPointS.l0]
    rw [if_neg (by omega)]
  | succ d ih =>
    intro k i hi hk
    obtain ⟨k, rfl⟩ : ∃ m, k = m + 1 := ⟨k - 1, by omega⟩
    simp only [laws_eqPointS.l0, eqPoint_self, Option.bind_some]
    rw [if_pos (by omega), if_pos (by omega), if_pos (by omega), wr _ (by omega)]
    exact ih k (i + 1) (by omega) (by omega)
theorem eqPointS_self (a : List S79) (hb : a.length ≤ 9000000000000000000) (k : Nat) (hk : a.length < k) : laws_eqPointS.f k a a = some true := by
  unfold laws_eqPointS.f
  rw [if_pos rfl]
  exact eqPointS_l a hb a.length k 0 (by omega) hk
def mPoint (q : Int) : S79 := ⟨⟨q, q + 1⟩, ⟨q + 1 + 1, q + 1 + 1 + 1⟩⟩
def marksPoint (q : Int) (n : Nat) : List S79 := (List.range n).map fun (j : Nat) => mPoint (q + 4 * (j : Int))
theorem marksPoint_length (q : Int) (n : Nat) : (marksPoint q n).length = n := by simp [marksPoint]
theorem marksPoint_getD (q : Int) (n j : Nat) (h : j < n) : (marksPoint q n).getD j z79 = mPoint (q + 4 * (j : Int)) := by
  simp [marksPoint, List.getD_eq_getElem?_getD, h]
theorem markPointS_l (n : Nat) (q : Int) (hq : -4000000000000000 ≤ q ∧ q ≤ 4000000000000000) (hb : n ≤ 4000000000000000) : ∀ (d k : Nat) (x : List S79) (i : Nat), i + d = n → x.length = n → (∀ j, j < i → x.getD j z79 = mPoint (q + 4 * (j : Int))) → d < k → laws_markPointS.l0 k x (q + 4 * (i : Int)) (i : Int) = some (q + 4 * (n : Int), marksPoint q n) := by
  intro d
  induction d with
  | zero =>
    intro k x i hi hl hj hk
    obtain ⟨k, rfl⟩ : ∃ m, k = m + 1 := ⟨k - 1, by omega⟩
    simp only [laws_markPointS.l0]
    rw [if_neg (by omega), ext_getDG z79 x (marksPoint q n) (by rw [marksPoint_length, hl]) (fun j h => by rw [hj j (by omega), marksPoint_getD _ _ _ (by omega)])]
    rw [show i = n by omega]
  | succ d ih =>
    intro k x i hi hl hj hk
    obtain ⟨k, rfl⟩ : ∃ m, k = m + 1 := ⟨k - 1, by omega⟩
    simp only [laws_markPointS.l0, Option.bind_some, Int.toNat_natCast]
    rw [if_pos (by omega), if_pos (by omega)]
    repeat rw [wr _ (by omega)]
    have := ih k (x.set i (mPoint (q + 4 * (i : Int)))) (i + 1) (by omega) (by simpa using hl) (fun j h => by
      rw [getD_setG _ _ _ _ _ (by omega)]
      split
      · rename_i e; rw [e]
      · exact hj j (by omega)) (by omega)
    rw [show q + 4 * ((i + 1 : Nat) : Int) = q + 4 * (i : Int) + 1 + 1 + 1 + 1 by omega] at this
    rw [← this]
    congr 1
    simp only [rdPoint, List.set_set, getD_setG _ _ _ _ _ (show i < x.length by omega), List.length_set, if_true]
    try rfl
theorem markPointS (l : List S79) (q : Int) (hq : -4000000000000000 ≤ q ∧ q ≤ 4000000000000000) (hb : l.length ≤ 4000000000000000) (k : Nat) (hk : l.length < k) : laws_markPointS.f k l q = some (q + 4 * (l.length : Int), marksPoint q l.length) := by
  unfold laws_markPointS.f
  have := markPointS_l l.length q hq hb l.length k l 0 (by omega) rfl (fun j h => by omega) hk
  simpa using this
theorem heldPointS_l (n : Nat) (q : Int) (hq : -4000000000000000 ≤ q ∧ q ≤ 4000000000000000) (hb : n ≤ 4000000000000000) : ∀ (d k : Nat) (i : Nat), i + d = n → d < k → laws_heldPointS.l0 k (marksPoint q n) (q + 4 * (i : Int)) (i : Int) = some (q + 4 * (n : Int)) := by
  intro d
  induction d with
  | zero =>
    intro k i hi hk
    obtain ⟨k, rfl⟩ : ∃ m, k = m + 1 := ⟨k - 1, by omega⟩
    simp only [laws_heldPointS.l0, marksPoint_length]
    rw [if_neg (by omega), show i = n by omega]
  | succ d ih =>
    intro k i hi hk
    obtain ⟨k, rfl⟩ : ∃ m, k = m + 1 := ⟨k - 1, by omega⟩
    simp only [laws_heldPointS.l0, marksPoint_length, rdPoint, marksPoint_getD _ _ _ (show i < n by omega), mPoint]
    rw [if_pos (by omega), if_pos (by omega)]
    simp only [if_true]
    repeat rw [wr _ (by omega)]
    have := ih k (i + 1) (by omega) (by omega)
    rw [show q + 4 * ((i + 1 : Nat) : Int) = q + 4 * (i : Int) + 1 + 1 + 1 + 1 by omega] at this
    simp only [if_true]
    exact this
theorem heldPointS (n : Nat) (q : Int) (hq : -4000000000000000 ≤ q ∧ q ≤ 4000000000000000) (hb : n ≤ 4000000000000000) (k : Nat) (hk : n < k) : laws_heldPointS.f k (marksPoint q n) q = some (q + 4 * (n : Int)) := by
  unfold laws_heldPointS.f
  have := heldPointS_l n q hq hb n k 0 (by omega) hk
  simpa using this
end Go.Proofs.Ytgejkhbehoabdaa.Pu
set_option linter.unusedVariables false
set_option linter.unusedSimpArgs false
namespace Go.Proofs.Ytgejkhbehoabdaa.Pure
open Go.RowKit Go.Proofs.Ytgejkhbehoabdaa.Q Go.Proofs.Ytgejkhbehoabdaa.Pu Go.Proofs.YtgejkhbehoabdaaW.PrintWords Go.Proofs.YtgejkhbehoabdaaW.PrintLast Go.Proofs.YtgejkhbehoabdaaW.PrintMore
def ptM (l : List Int) (i : Nat) : S79 := ⟨⟨(mk (i : Int) ((l.length : Int) - 1)).1, (mk (i : Int) ((l.length : Int) - 1)).2.1⟩, ⟨(mk (l.getD i 0) ((l.length : Int) - 1)).1, (mk (l.getD i 0) ((l.length : Int) - 1)).2.1⟩⟩
def ptsM (l : List Int) (d i : Nat) (out : List S79) : List S79 := out ++ (List.range d).map fun j => ptM l (i + j)
theorem ptsM_succ (l : List Int) (d i : Nat) (out : List S79) : ptsM l (d + 1) i out = ptsM l d (i + 1) (out ++ [ptM l i]) := by
  unfold ptsM
  rw [List.range_succ_eq_map, List.map_cons, List.map_map, List.append_assoc, List.singleton_append]
  congr 2
  apply List.map_congr_left
  intro j _
  simp only [Function.comp]
  congr 1
  omega
theorem impl_l (l : List Int) (hl : l.length ≤ 9) (h2 : 2 ≤ l.length) (hv : ∀ i, i < l.length → 0 ≤ l.getD i 0 ∧ l.getD i 0 < 9) : ∀ (d k i : Nat) (out : List S79), i + d = l.length → out.length ≤ i → 1000 + d < k →
    impl_PatternMap.l0 k l out l (l.length : Int) (i : Int) = some (ptsM l d i out, true) := by
  intro d
  induction d with
  | zero =>
    intro k i out hi ho hk
    obtain ⟨k, rfl⟩ : ∃ m, k = m + 1 := ⟨k - 1, by omega⟩
    simp only [impl_PatternMap.l0]
    rw [if_neg (by omega)]
    simp [ptsM]
  | succ d ih =>
    intro k i out hi ho hk
    obtain ⟨k, rfl⟩ : ∃ m, k = m + 1 := ⟨k - 1, by omega⟩
    have hvi := hv i (by omega)
    simp only [impl_PatternMap.l0]
    have er : rd l (i : Int) = l.getD i 0 := by simp [rd]
    rw [if_pos (by omega), if_pos (by omega), if_pos (by omega), wr ((l.length : Int) - 1) (by omega), wr (_ + 1) (by omega), er,
      lowest_eq _ _ (by omega) (by omega) (by omega) k (by omega), lowest_eq _ _ (by omega) (by omega) (by omega) k (by omega)]
    simp only [Option.bind_some]
    rw [if_pos (by omega), ptsM_succ]
    exact ih k (i + 1) _ (by omega) (by simp; omega) (by omega)
theorem spec_l (l : List Int) (hl : l.length ≤ 9) (h2 : 2 ≤ l.length) (hv : ∀ i, i < l.length → 0 ≤ l.getD i 0 ∧ l.getD i 0 < 9) : ∀ (d k i : Nat) (out : List S79), i + d = l.length → out.length ≤ i → 1000 + d < k →
    spec_PatternMap.l0 k l out l (l.length : Int) (i : Int) = some (ptsM l d i out, true) := by
  intro d
  induction d with
  | zero =>
    intro k i out hi ho hk
    obtain ⟨k, rfl⟩ : ∃ m, k = m + 1 := ⟨k - 1, by omega⟩
    simp only [spec_PatternMap.l0]
    rw [if_neg (by omega)]
    simp [ptsM]
  | succ d ih =>
    intro k i out hi ho hk
    obtain ⟨k, rfl⟩ : ∃ m, k = m + 1 := ⟨k - 1, by omega⟩
    have hvi := hv i (by omega)
    simp only [spec_PatternMap.l0]
    have er : rd l (i : Int) = l.getD i 0 := by simp [rd]
    rw [if_pos (by omega), if_pos (by omega), if_pos (by omega), wr ((l.length : Int) - 1) (by omega), wr (_ + 1) (by omega), er,
      raMake_eq _ _ (by omega) (by omega) (by omega) k (by omega), raMake_eq _ _ (by omega) (by omega) (by omega) k (by omega)]
    simp only [Option.bind_some]
    rw [if_pos (by omega), ptsM_succ]
    exact ih k (i + 1) _ (by omega) (by simp; omega) (by omega)
def pmOf (l : List Int) : List S79 × Bool := if Force l then (ptsM l l.length 0 [], true) else ([], false)
theorem pmOf_len (l : List Int) : (pmOf l).1.length ≤ 9 := by
  unfold pmOf
  split
  · rename_i h; have := h.1.2.1; simp [ptsM]; omega
  · simp
theorem force_v (l : List Int) (h : Force l) : ∀ i, i < l.length → 0 ≤ l.getD i 0 ∧ l.getD i 0 < 9 := fun i hi => by
  have h1 := h.1.2.1
  have := h.1.2.2.1 _ (mem_getD l i hi)
  omega
theorem impl_eq (l : List Int) (hl : l.length ≤ 1048576) (k : Nat) (hk : 2000000 ≤ k) : impl_PatternMap.f k l = some (pmOf l) := by
  unfold impl_PatternMap.f pmOf
  rw [isForcing l hl _ (by omega)]
  simp only [Option.bind_some]
  by_cases h : Force l
  · rw [decide_eq_true h, if_pos rfl, if_pos h]
    exact impl_l l h.1.2.1 h.2 (force_v l h) l.length k 0 [] (by omega) (by simp) (by have := h.1.2.1; omega)
  · rw [decide_eq_false h, if_neg (by decide), if_neg h]
theorem spec_eq (l : List Int) (hl : l.length ≤ 1048576) (k : Nat) (hk : 2000000 ≤ k) : spec_PatternMap.f k l = some (pmOf l) := by
  unfold spec_PatternMap.f pmOf
  rw [foPattern l hl _ (by omega)]
  simp only [Option.bind_some]
  by_cases h : Force l
  · rw [decide_eq_true h, if_pos rfl, if_pos h]
    exact spec_l l h.1.2.1 h.2 (force_v l h) l.length k 0 [] (by omega) (by simp) (by have := h.1.2.1; omega)
  · rw [decide_eq_false h, if_neg (by decide), if_neg h]
theorem FnExactPatternMap : laws_FnExactPatternMap.Pure := by
  intro l0 _ _ _
  refine ⟨2000005, ?_⟩
  unfold laws_FnExactPatternMap.f
  by_cases hb : (l0.length : Int) > 1048576
  · rw [if_pos hb]
  · have hl : l0.length ≤ 1048576 := by omega
    rcases hv : pmOf l0 with ⟨v, b⟩
    have hv9 : v.length ≤ 1000000 := by have := pmOf_len l0; rw [hv] at this; simp at this; omega
    rw [if_neg hb, toIntS l0 (by omega) _ (by omega)]
    simp only [Option.bind_some]
    rw [spec_eq l0 hl _ (by omega), impl_eq l0 hl _ (by omega), hv]
    simp only [Option.bind_some]
    rw [eqPointS_self v (by omega) _ (by omega)]
    simp only [Option.bind_some, if_true, bne_self_eq_false, laws_FnExactPatternMap.j0]
    rw [if_neg (by decide), toIntS l0 (by omega) _ (by omega)]
    simp only [Option.bind_some]
    rw [eqIntS_self l0 (by omega) _ (by omega)]
    simp only [Option.bind_some, if_true]
    rw [markIntS l0 1 (by omega) (by omega) _ (by omega)]
    simp only [Option.bind_some]
    rw [if_neg (by omega), eqPointS_self v (by omega) _ (by omega)]
    simp only [Option.bind_some, if_true, laws_FnExactPatternMap.j1]
    rw [if_neg (by decide), markPointS v 1 (by omega) (by omega) _ (by omega)]
    simp only [Option.bind_some]
    rw [heldPointS v.length 1 (by omega) (by omega) _ (by omega)]
    simp only [Option.bind_some]
    rw [if_neg (by omega), if_pos (by trivial), toIntS l0 (by omega) _ (by omega)]
    simp only [Option.bind_some]
    rw [impl_eq l0 hl _ (by omega), hv]
    simp only [Option.bind_some]
    rw [eqPointS_self v (by omega) _ (by omega)]
    simp only [Option.bind_some, if_true, bne_self_eq_false, laws_FnExactPatternMap.j2]
    rw [if_neg (by decide), heldPointS v.length 1 (by omega) (by omega) _ (by omega)]
    simp only [Option.bind_some]
    rw [if_neg (by omega), if_pos (by trivial)]
end Go.Proofs.Ytgejkhbehoabdaa.Pure

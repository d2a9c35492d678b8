/- All that the statement FnExactDensityDistance rests on, part 4: the walks of the functions that it reaches, and the plain laws of what they compute. -/
import Derived.Test.YtgejkhbehoabdaaKFnExactDensityDistance3
set_option linter.unusedVariables false
set_option linter.unusedSimpArgs false
namespace Go.Proofs.Ytgejkhbehoabdaa.Pu
open Go.RowKit Go.Proofs.Ytgejkhbehoabdaa.Q Go.Proofs.YtgejkhbehoabdaaW.PrintWords Go.Proofs.YtgejkhbehoabdaaW.PrintLast Go.Proofs.YtgejkhbehoabdaaW.PrintMore
theorem wr (x : Int) (h : -9223372036854775808 ≤ x ∧ x ≤ 9223372036854775807) : wrap64 x = x := by unfold wrap64; omega
theorem getD_setG {α : Type} (l : List α) (i j : Nat) (v d : α) (hi : i < l.length) : (l.set i v).getD j d = if i = j then v else l.getD j d := by
  simp only [List.getD_eq_getElem?_getD, List.getElem?_set]
  by_cases e : i = j
  · subst e; simp [hi]
  · simp [e]
theorem ext_getDG {α : Type} (d : α) (a b : List α) (hl : a.length = b.length) (h : ∀ j, j < a.length → a.getD j d = b.getD j d) : a = b := by
  apply List.ext_getElem hl
  intro j h1 h2
  have := h j h1
  simpa [List.getD_eq_getElem?_getD, h1, h2] using this
theorem half_lt (b r n : Nat) (hb : b < 2 ^ (n + 1)) (hr : r < b) (h0 : 0 < r) : b % r < 2 ^ n := by
  have h1 : b % r < r := Nat.mod_lt _ h0
  have h2 := Nat.div_add_mod b r
  have h3 : 1 ≤ b / r := (Nat.one_le_div_iff h0).2 (Nat.le_of_lt hr)
  have h4 : r * 1 ≤ r * (b / r) := Nat.mul_le_mul_left r h3
  have h5 : 2 ^ (n + 1) = 2 * 2 ^ n := by rw [Nat.pow_succ]; omega
  omega
theorem gcd_l : ∀ (n k a b : Nat), b < 2 ^ n → 2 * n + 1 < k → impl_greatestDivisor.l0 k (a : Int) (b : Int) = some ((Nat.gcd a b : Nat) : Int) := by
  intro n
  induction n with
  | zero =>
    intro k a b hb hk
    obtain ⟨k, rfl⟩ : ∃ m, k = m + 1 := ⟨k - 1, by omega⟩
    have : b = 0 := by simpa using hb
    subst this
    simp [impl_greatestDivisor.l0]
  | succ n ih =>
    intro k a b hb hk
    obtain ⟨k, rfl⟩ : ∃ m, k = m + 2 := ⟨k - 2, by omega⟩
    simp only [impl_greatestDivisor.l0]
    by_cases h0 : b = 0
    · subst h0; simp
    · rw [if_neg (by omega), ← Int.ofNat_tmod]
      by_cases h1 : a % b = 0
      · rw [h1, if_pos (by rfl), Nat.gcd_comm, Nat.gcd_rec, h1, Nat.gcd_zero_left]
      · rw [if_neg (by omega), ← Int.ofNat_tmod, ih k _ _ (half_lt b (a % b) n hb (Nat.mod_lt _ (by omega)) (by omega)) (by omega)]
        congr 2
        rw [Nat.gcd_comm a b, Nat.gcd_rec b a, Nat.gcd_rec (a % b) b, Nat.gcd_comm]
theorem raCommon_l : ∀ (n k a b : Nat), b < 2 ^ n → 2 * n + 1 < k → spec_raCommon.l0 k (a : Int) (b : Int) = some ((Nat.gcd a b : Nat) : Int) := by
  intro n
  induction n with
  | zero =>
    intro k a b hb hk
    obtain ⟨k, rfl⟩ : ∃ m, k = m + 1 := ⟨k - 1, by omega⟩
    have : b = 0 := by simpa using hb
    subst this
    simp [spec_raCommon.l0]
  | succ n ih =>
    intro k a b hb hk
    obtain ⟨k, rfl⟩ : ∃ m, k = m + 2 := ⟨k - 2, by omega⟩
    simp only [spec_raCommon.l0]
    by_cases h0 : b = 0
    · subst h0; simp
    · rw [if_pos (by omega), if_neg (by omega), ← Int.ofNat_tmod]
      by_cases h1 : a % b = 0
      · rw [h1, if_neg (by simp), Nat.gcd_comm, Nat.gcd_rec, h1, Nat.gcd_zero_left]
      · rw [if_pos (by omega), if_neg (by omega), ← Int.ofNat_tmod, ih k _ _ (half_lt b (a % b) n hb (Nat.mod_lt _ (by omega)) (by omega)) (by omega)]
        congr 2
        rw [Nat.gcd_comm a b, Nat.gcd_rec b a, Nat.gcd_rec (a % b) b, Nat.gcd_comm]
theorem abs_eq (a : Int) (h : -9223372036854775807 ≤ a ∧ a ≤ 9223372036854775807) : impl_abs.f a = some (a.natAbs : Int) := by
  unfold impl_abs.f
  split
  · rw [wr _ (by omega)]; congr 1; omega
  · congr 1; omega
theorem l1Abs_eq (a : Int) (h : -9223372036854775807 ≤ a ∧ a ≤ 9223372036854775807) : spec_l1Abs.f a = some (a.natAbs : Int) := by
  unfold spec_l1Abs.f spec_l1Most.f
  rw [wr _ (by omega)]
  split
  · simp only [Option.bind_some]; congr 1; omega
  · simp only [Option.bind_some]; congr 1; omega
theorem gcd_eq (a b : Int) (ha : -9223372036854775807 ≤ a ∧ a ≤ 9223372036854775807) (hb : -9223372036854775807 ≤ b ∧ b ≤ 9223372036854775807) (k : Nat) (hk : 200 ≤ k) : impl_greatestDivisor.f k a b = some ((Int.gcd a b : Nat) : Int) := by
  unfold impl_greatestDivisor.f
  rw [abs_eq a ha, abs_eq b hb]
  simp only [Option.bind_some]
  rw [gcd_l 64 k _ _ (by omega) (by omega)]
  rfl
def OkR (n d : Int) : Prop := 1 ≤ d ∧ d ≤ 1000000000 ∧ -1000000000 ≤ n ∧ n ≤ 1000000000 ∧ Int.gcd n d = 1
instance (n d : Int) : Decidable (OkR n d) := by unfold OkR; infer_instance
theorem isRat_eq (n d : Int) (k : Nat) (hk : 200 ≤ k) : impl_isRat.f k n d = some (decide (OkR n d)) := by
  unfold impl_isRat.f impl_within.f OkR
  by_cases h1 : 1 ≤ d
  · rw [if_pos h1]
    simp only [Option.bind_some]
    by_cases h2 : d ≤ 1000000000
    · rw [if_pos (by simpa using h2)]
      by_cases h3 : -1000000000 ≤ n
      · rw [if_pos h3]
        simp only [Option.bind_some]
        by_cases h4 : n ≤ 1000000000
        · rw [if_pos (by simpa using h4), gcd_eq n d (by omega) (by omega) k hk]
          simp only [Option.bind_some]
          congr 1
          simp only [h1, h2, h3, h4, true_and]
          rw [Bool.eq_iff_iff]
          simp only [beq_iff_eq, decide_eq_true_eq]
          omega
        · rw [if_neg (by simpa using h4)]; simp [h4]
      · rw [if_neg h3]; simp [h3]
    · rw [if_neg (by simpa using h2)]; simp [h2]
  · rw [if_neg h1]; simp [h1]
theorem raGood_eq (n d : Int) (k : Nat) (hk : 200 ≤ k) : spec_raGood.f k n d = some (decide (OkR n d)) := by
  unfold spec_raGood.f spec_l1In.f OkR
  by_cases h1 : 1 ≤ d
  · rw [if_pos h1]
    simp only [Option.bind_some]
    by_cases h2 : d ≤ 1000000000
    · rw [if_pos (by simpa using h2)]
      by_cases h3 : -1000000000 ≤ n
      · rw [if_pos h3]
        simp only [Option.bind_some]
        by_cases h4 : n ≤ 1000000000
        · rw [if_pos (by simpa using h4), l1Abs_eq n (by omega)]
          simp only [Option.bind_some]
          unfold spec_raCommon.f
          have := raCommon_l 64 k n.natAbs d.natAbs (by omega) (by omega)
          rw [show (d.natAbs : Int) = d by omega] at this
          rw [this]
          simp only [Option.bind_some]
          congr 1
          simp only [h1, h2, h3, h4, true_and]
          rw [Bool.eq_iff_iff, Int.gcd_eq_natAbs_gcd_natAbs]
          simp only [beq_iff_eq, decide_eq_true_eq]
          omega
        · rw [if_neg (by simpa using h4)]; simp [h4]
      · rw [if_neg h3]; simp [h3]
    · rw [if_neg (by simpa using h2)]; simp [h2]
  · rw [if_neg h1]; simp [h1]
def sg (n d : Int) : Int := if d < 0 then -(Int.gcd n d : Int) else (Int.gcd n d : Int)
def mk (n d : Int) : Int × Int × Bool := if OkR (n.tdiv (sg n d)) (d.tdiv (sg n d)) then (n.tdiv (sg n d), d.tdiv (sg n d), true) else (0, 0, false)
theorem tdiv_bd (n q : Int) (h : -9223372036854775807 ≤ n ∧ n ≤ 9223372036854775807) : -9223372036854775808 ≤ n.tdiv q ∧ n.tdiv q ≤ 9223372036854775807 := by
  have h1 := Int.natAbs_tdiv n q
  have h2 : n.natAbs.div q.natAbs ≤ n.natAbs := Nat.div_le_self _ _
  omega
theorem gcd_pos (n d : Int) (hd : d ≠ 0) : 0 < Int.gcd n d := by
  rw [Int.gcd_eq_natAbs_gcd_natAbs]
  exact Nat.gcd_pos_of_pos_right _ (by omega)
theorem gcd_le (n d : Int) (hd : d ≠ 0) : Int.gcd n d ≤ d.natAbs := by
  rw [Int.gcd_eq_natAbs_gcd_natAbs]
  exact Nat.gcd_le_right _ (by omega)
theorem lowest_eq (n d : Int) (hd : d ≠ 0) (hn : -9223372036854775807 ≤ n ∧ n ≤ 9223372036854775807) (hd2 : -9223372036854775807 ≤ d ∧ d ≤ 9223372036854775807) (k : Nat) (hk : 200 ≤ k) : impl_lowest.f k n d = some (mk n d) := by
  unfold impl_lowest.f mk
  have h1 := gcd_pos n d hd
  have h2 := gcd_le n d hd
  rw [gcd_eq n d hn hd2 k hk]
  simp only [Option.bind_some]
  unfold sg
  split
  · rw [wr (-(Int.gcd n d : Int)) (by omega), if_neg (by omega), wr _ (tdiv_bd _ _ hn), wr _ (tdiv_bd _ _ hd2), isRat_eq _ _ k hk]
    simp only [Option.bind_some, decide_eq_true_eq]
    split <;> rfl
  · rw [if_neg (by omega), wr _ (tdiv_bd _ _ hn), wr _ (tdiv_bd _ _ hd2), isRat_eq _ _ k hk]
    simp only [Option.bind_some, decide_eq_true_eq]
    split <;> rfl
theorem raMake_eq (n d : Int) (hd : d ≠ 0) (hn : -9223372036854775807 ≤ n ∧ n ≤ 9223372036854775807) (hd2 : -9223372036854775807 ≤ d ∧ d ≤ 9223372036854775807) (k : Nat) (hk : 200 ≤ k) : spec_raMake.f k n d = some (mk n d) := by
  unfold spec_raMake.f mk
  have h1 := gcd_pos n d hd
  have h2 := gcd_le n d hd
  rw [if_neg hd, l1Abs_eq n hn, l1Abs_eq d hd2]
  simp only [Option.bind_some]
  unfold spec_raCommon.f
  rw [raCommon_l 64 k _ _ (by omega) (by omega)]
  simp only [Option.bind_some]
  rw [← Int.gcd_eq_natAbs_gcd_natAbs]
  unfold sg
  split
  · rw [wr (-(Int.gcd n d : Int)) (by omega), if_neg (by omega), wr _ (tdiv_bd _ _ hn), wr _ (tdiv_bd _ _ hd2), raGood_eq _ _ k hk]
    simp only [Option.bind_some, decide_eq_true_eq]
    split <;> rfl
  · rw [if_neg (by omega), wr _ (tdiv_bd _ _ hn), wr _ (tdiv_bd _ _ hd2), raGood_eq _ _ k hk]
    simp only [Option.bind_some, decide_eq_true_eq]
    split <;> rfl
theorem mk_ok (n d : Int) (h : (mk n d).2.2 = true) : OkR (mk n d).1 (mk n d).2.1 := by
  unfold mk at h ⊢
  split
  · rename_i h1; exact h1
  · rename_i h1; rw [if_neg h1] at h; cases h
end Go.Proofs.Ytgejkhbehoabdaa.Pu
set_option linter.unusedVariables false
set_option linter.unusedSimpArgs false
namespace Go.Proofs.Ytgejkhbehoabdaa.Pu
open Go.RowKit Go.Proofs.Ytgejkhbehoabdaa.Q Go.Proofs.YtgejkhbehoabdaaW.PrintWords Go.Proofs.YtgejkhbehoabdaaW.PrintLast Go.Proofs.YtgejkhbehoabdaaW.PrintMore
theorem rdRat (l : List S47) (i : Nat) : rd_T47 l (i : Int) = l.getD i z47 := by simp [rd_T47]
theorem rdlRat (l : List S43) (i : Nat) : rd_T43 l (i : Int) = l.getD i z43 := by simp [rd_T43]
def cvRat (x : S43) : S47 := ⟨x.f0, x.f1⟩
theorem cvRat_getD (l : List S43) (i : Nat) (h : i < l.length) : (l.map cvRat).getD i z47 = cvRat (l.getD i z43) := by
  simp [List.getD_eq_getElem?_getD, h]
theorem toRatS_l (x0 : List S43) (hb : x0.length ≤ 9000000000000000000) : ∀ (d k : Nat) (x3 : List S47) (i : Nat), i + d = x0.length → x3.length = x0.length → (∀ j, j < i → x3.getD j z47 = cvRat (x0.getD j z43)) → d < k → laws_toRatS.l0 k x0 x3 (i : Int) = some (x0.map cvRat) := by
  intro d
  induction d with
  | zero =>
    intro k x3 i hi hl hj hk
    obtain ⟨k, rfl⟩ : ∃ m, k = m + 1 := ⟨k - 1, by omega⟩
    simp only [laws_toRatS.l0]
    rw [if_neg (by omega), ext_getDG z47 x3 (x0.map cvRat) (by simpa using hl) (fun j h => by rw [hj j (by omega), cvRat_getD _ _ (by omega)])]
  | succ d ih =>
    intro k x3 i hi hl hj hk
    obtain ⟨k, rfl⟩ : ∃ m, k = m + 1 := ⟨k - 1, by omega⟩
    simp only [laws_toRatS.l0, laws_toRat.f, laws_toRat.f, Option.bind_some]
    rw [if_pos (by omega), if_pos (by omega), if_pos (by omega), wr _ (by omega), Int.toNat_natCast, rdlRat]
    refine ih k _ (i + 1) (by omega) (by simpa using hl) (fun j h => ?_) (by omega)
    rw [getD_setG _ _ _ _ _ (by omega)]
    split
    · rename_i e; rw [← e]; rfl
    · exact hj j (by omega)
theorem toRatS (l : List S43) (hb : l.length ≤ 1048576) (k : Nat) (hk : l.length < k) : laws_toRatS.f k l = some (l.map cvRat) := by
  unfold laws_toRatS.f
  rw [if_pos (by omega), if_pos (by omega)]
  exact toRatS_l l (by omega) l.length k _ 0 (by omega) (by simp) (fun j h => by omega) hk
theorem eqRat_self (x : S47) : laws_eqRat.f x.f0 x.f1 x.f0 x.f1 = some true := by
  simp [laws_eqRat.f, laws_eqRat.f]
theorem eqRatS_l (a : List S47) (hb : a.length ≤ 9000000000000000000) : ∀ (d k : Nat) (i : Nat), i + d = a.length → d < k → laws_eqRatS.l0 k a a (i : Int) = some true := by
  intro d
  induction d with
  | zero =>
    intro k i hi hk
    obtain ⟨k, rfl⟩ : ∃ m, k = m + 1 := ⟨k - 1, by omega⟩
    simp only [laws_eqRatS.l0]
    rw [if_neg (by omega)]
  | succ d ih =>
    intro k i hi hk
    obtain ⟨k, rfl⟩ : ∃ m, k = m + 1 := ⟨k - 1, by omega⟩
    simp only [laws_eqRatS.l0, eqRat_self, Option.bind_some]
    rw [if_pos (by omega), if_pos (by omega), if_pos (by omega), wr _ (by omega)]
    exact ih k (i + 1) (by omega) (by omega)
theorem eqRatS_self (a : List S47) (hb : a.length ≤ 9000000000000000000) (k : Nat) (hk : a.length < k) : laws_eqRatS.f k a a = some true := by
  unfold laws_eqRatS.f
  rw [if_pos rfl]
  exact eqRatS_l a hb a.length k 0 (by omega) hk
end Go.Proofs.Ytgejkhbehoabdaa.Pu
set_option linter.unusedVariables false
set_option linter.unusedSimpArgs false
namespace Go.Proofs.Ytgejkhbehoabdaa.Pu
open Go.RowKit Go.Proofs.Ytgejkhbehoabdaa.Q Go.Proofs.YtgejkhbehoabdaaW.PrintWords Go.Proofs.YtgejkhbehoabdaaW.PrintLast Go.Proofs.YtgejkhbehoabdaaW.PrintMore
theorem mul_bd (x y : Int) (B C : Nat) (hx : x.natAbs ≤ B) (hy : y.natAbs ≤ C) : (x * y).natAbs ≤ B * C := by
  rw [Int.natAbs_mul]
  exact Nat.mul_le_mul hx hy
def Bd (n d : Int) : Prop := n.natAbs ≤ 1000000000 ∧ d.natAbs ≤ 1000000000
theorem OkR.bd {n d : Int} (h : OkR n d) : Bd n d := by
  obtain ⟨h1, h2, h3, h4, _⟩ := h
  exact ⟨by omega, by omega⟩
theorem cross_bd {a b c d : Int} (h1 : Bd a b) (h2 : Bd c d) : (a * d).natAbs ≤ 1000000000000000000 ∧ (c * b).natAbs ≤ 1000000000000000000 ∧ (b * d).natAbs ≤ 1000000000000000000 ∧ (a * c).natAbs ≤ 1000000000000000000 :=
  ⟨mul_bd a d _ _ h1.1 h2.2, mul_bd c b _ _ h2.1 h1.2, mul_bd b d _ _ h1.2 h2.2, mul_bd a c _ _ h1.1 h2.1⟩
theorem less_eq {a b c d : Int} (h1 : Bd a b) (h2 : Bd c d) : impl_less.f a b c d = some (decide (a * d < c * b)) := by
  obtain ⟨m1, m2, _⟩ := cross_bd h1 h2
  unfold impl_less.f impl_compare.f
  generalize a * d = p at *
  generalize c * b = q at *
  rw [wr p (by omega), wr q (by omega)]
  by_cases h : p < q
  · rw [if_pos h]; simp [h]
  · rw [if_neg h]
    by_cases h3 : p > q
    · rw [if_pos h3]; simp [h]
    · rw [if_neg h3]; simp [h]
theorem raCmp_eq {a b c d : Int} (h1 : Bd a b) (h2 : Bd c d) : ∃ t, spec_raCmp.f a b c d = some t ∧ (t < 0 ↔ a * d < c * b) ∧ (t = 0 ↔ a * d = c * b) := by
  obtain ⟨m1, m2, _⟩ := cross_bd h1 h2
  unfold spec_raCmp.f spec_l1Sign.f
  generalize a * d = p at *
  generalize c * b = q at *
  rw [wr p (by omega), wr q (by omega), wr (p - q) (by omega)]
  by_cases h : p - q > 0
  · rw [if_pos h]
    exact ⟨1, rfl, by omega, by omega⟩
  · rw [if_neg h]
    by_cases h3 : p - q < 0
    · rw [if_pos h3]
      exact ⟨-1, rfl, by omega, by omega⟩
    · rw [if_neg h3]
      exact ⟨0, rfl, by omega, by omega⟩
def OkU (n d : Int) : Prop := OkR n d ∧ 0 ≤ n ∧ n ≤ d
instance (n d : Int) : Decidable (OkU n d) := by unfold OkU; infer_instance
def Co (n d : Int) : Prop := OkU n d ∧ d ≤ 100
instance (n d : Int) : Decidable (Co n d) := by unfold Co; infer_instance
theorem isUnit_eq (n d : Int) (k : Nat) (hk : 200 ≤ k) : impl_isUnit.f k n d = some (decide (OkU n d)) := by
  unfold impl_isUnit.f OkU
  rw [isRat_eq n d k hk]
  simp only [Option.bind_some, decide_eq_true_eq]
  by_cases h : OkR n d
  · rw [if_pos h]
    by_cases h2 : n ≥ 0
    · rw [if_pos h2]; simp [h, h2]
    · rw [if_neg h2]; simp [h2]
  · rw [if_neg h]; simp [h]
theorem raUnit_eq (n d : Int) (k : Nat) (hk : 200 ≤ k) : spec_raUnit.f k n d = some (decide (OkU n d)) := by
  unfold spec_raUnit.f spec_l1In.f OkU
  rw [raGood_eq n d k hk]
  simp only [Option.bind_some, decide_eq_true_eq]
  by_cases h : OkR n d
  · rw [if_pos h]
    by_cases h2 : n ≥ 0
    · rw [if_pos h2]; simp [h, h2]
    · rw [if_neg h2]; simp [h2]
  · rw [if_neg h]; simp [h]
abbrev Ra := S47
abbrev Pt := S79
def nr (l : List Ra) (i : Nat) : Ra := l.getD i z47
def np (l : List Pt) (i : Nat) : Pt := l.getD i z79
theorem rd_nr (l : List Ra) (i : Nat) : rd_T47 l (i : Int) = nr l i := rdRat l i
theorem rd_nr0 (l : List Ra) : rd_T47 l 0 = nr l 0 := rdRat l 0
theorem nr_mem (l : List Ra) (i : Nat) (h : i < l.length) : nr l i ∈ l := getD_mem l i _ h
theorem mem_nr (l : List Ra) (x : Ra) (h : x ∈ l) : ∃ i, i < l.length ∧ nr l i = x := by
  obtain ⟨i, hi, e⟩ := List.mem_iff_getElem.1 h
  exact ⟨i, hi, by simp [nr, List.getD_eq_getElem?_getD, hi, e]⟩
def Lt (a b : Ra) : Prop := a.f0 * b.f1 < b.f0 * a.f1
instance (a b : Ra) : Decidable (Lt a b) := by unfold Lt; infer_instance
def BdR (a : Ra) : Prop := Bd a.f0 a.f1
theorem rising_l (l : List Ra) (hl : l.length ≤ 1048576) (hb : ∀ x ∈ l, BdR x) : ∀ (d k i : Nat), 1 ≤ i → i + d = l.length ∨ d = 0 ∧ l.length ≤ i ∧ i ≤ 1048577 → d < k →
    ∃ b, impl_isRising.l0 k l (i : Int) = some b ∧ (b = true ↔ ∀ j, i ≤ j → j < l.length → Lt (nr l (j - 1)) (nr l j)) := by
  intro d
  induction d with
  | zero =>
    intro k i h1 hi hk
    obtain ⟨k, rfl⟩ : ∃ m, k = m + 1 := ⟨k - 1, by omega⟩
    simp only [impl_isRising.l0]
    rw [if_neg (by omega)]
    exact ⟨true, rfl, by simp; intro j _ _; omega⟩
  | succ d ih =>
    intro k i h1 hi hk
    obtain ⟨k, rfl⟩ : ∃ m, k = m + 1 := ⟨k - 1, by omega⟩
    simp only [impl_isRising.l0]
    rw [wr (_ - 1) (by omega), wr (_ + 1) (by omega), if_pos (by omega), if_pos (by omega), if_pos (by omega), if_pos (by omega),
      show (i : Int) - 1 = ((i - 1 : Nat) : Int) by omega, show (i : Int) + 1 = ((i + 1 : Nat) : Int) by omega, rd_nr, rd_nr, less_eq (hb _ (nr_mem l _ (by omega))) (hb _ (nr_mem l _ (by omega)))]
    simp only [Option.bind_some, decide_eq_true_eq]
    by_cases h : Lt (nr l (i - 1)) (nr l i)
    · rw [if_pos (show (nr l (i - 1)).f0 * (nr l i).f1 < (nr l i).f0 * (nr l (i - 1)).f1 from h)]
      obtain ⟨b, e, hb2⟩ := ih k (i + 1) (by omega) (by omega) (by omega)
      refine ⟨b, e, hb2.trans ⟨fun hh j hj hl2 => ?_, fun hh j hj hl2 => hh j (by omega) hl2⟩⟩
      by_cases ej : j = i
      · subst ej; exact h
      · exact hh j (by omega) hl2
    · rw [if_neg (show ¬ (nr l (i - 1)).f0 * (nr l i).f1 < (nr l i).f0 * (nr l (i - 1)).f1 from h)]
      exact ⟨false, rfl, by simp; exact ⟨i, Nat.le_refl _, by omega, h⟩⟩
def Rising (l : List Ra) : Prop := ∀ j, 1 ≤ j → j < l.length → Lt (nr l (j - 1)) (nr l j)
theorem rising_eq (l : List Ra) (hl : l.length ≤ 1048576) (hb : ∀ x ∈ l, BdR x) (k : Nat) (hk : l.length < k) : ∃ b, impl_isRising.f k l = some b ∧ (b = true ↔ Rising l) := by
  unfold impl_isRising.f
  exact rising_l l hl hb (l.length - 1) k 1 (by omega) (by omega) (by omega)
def CoP (p : Pt) : Prop := Co p.f0.f0 p.f0.f1 ∧ Co p.f1.f0 p.f1.f1
instance (p : Pt) : Decidable (CoP p) := by unfold CoP; infer_instance
structure IsMap (l : List Pt) : Prop where
  two : 2 ≤ l.length
  most : l.length ≤ 12
  co : ∀ i, i < l.length → CoP (np l i)
  up : ∀ i, 1 ≤ i → i < l.length → Lt (np l (i - 1)).f0 (np l i).f0
  first : (np l 0).f0 = ⟨0, 1⟩
  last : (np l (l.length - 1)).f0 = ⟨1, 1⟩
theorem CoP.by {p : Pt} (h : CoP p) : BdR p.f1 := h.2.1.1.bd
end Go.Proofs.Ytgejkhbehoabdaa.Pu
set_option linter.unusedVariables false
set_option linter.unusedSimpArgs false
namespace Go.Proofs.Ytgejkhbehoabdaa.Pu
open Go.RowKit Go.Proofs.Ytgejkhbehoabdaa.Q Go.Proofs.YtgejkhbehoabdaaW.PrintWords Go.Proofs.YtgejkhbehoabdaaW.PrintLast Go.Proofs.YtgejkhbehoabdaaW.PrintMore
abbrev Tri := Int × Int × Bool
def kp (s : Bool) (m : Tri) : Tri := if m.2.2 = true then (m.1, m.2.1, s) else (0, 1, true)
theorem keep_eq (s : Bool) (m : Tri) : impl_calc_keep.f s m.1 m.2.1 m.2.2 = some (kp s m) := by
  unfold impl_calc_keep.f kp impl_zero.f
  split <;> rfl
theorem ok_zero : OkR 0 1 := by unfold OkR; decide
theorem kp_ok {s : Bool} {m : Tri} (h : m.2.2 = true → OkR m.1 m.2.1) : OkR (kp s m).1 (kp s m).2.1 := by
  unfold kp
  split
  · rename_i h1; exact h h1
  · exact ok_zero
theorem kp_bad (s : Bool) (m : Tri) : (kp s m).2.2 = (s || !m.2.2) := by
  unfold kp
  cases m.2.2 <;> simp
theorem kp_val {s : Bool} {m : Tri} (h : m.2.2 = true) : kp s m = (m.1, m.2.1, s) := by
  unfold kp
  rw [if_pos h]
theorem areRats2 (a b : Ra) (k : Nat) (hk : 300 ≤ k) : impl_areRats.f k [a, b] = some (decide (OkR a.f0 a.f1) && decide (OkR b.f0 b.f1)) := by
  unfold impl_areRats.f
  obtain ⟨k, rfl⟩ : ∃ m, k = m + 3 := ⟨k - 3, by omega⟩
  have r0 : rd_T47 [a, b] 0 = a := rfl
  have r1 : rd_T47 [a, b] 1 = b := rfl
  simp only [impl_areRats.l0, List.length_cons, List.length_nil]
  rw [if_pos (by decide), if_pos (by decide), if_pos (by decide), r0, isRat_eq _ _ _ (by omega)]
  simp only [Option.bind_some, decide_eq_true_eq]
  by_cases h : OkR a.f0 a.f1
  · rw [if_pos h]
    have e1 : wrap64 (0 + 1) = 1 := wr _ (by decide)
    have e2 : wrap64 (1 + 1) = 2 := wr _ (by decide)
    rw [e1, if_pos (by decide), if_pos (by decide), if_pos (by decide), r1, isRat_eq _ _ _ (by omega)]
    simp only [Option.bind_some, decide_eq_true_eq]
    by_cases h2 : OkR b.f0 b.f1
    · rw [if_pos h2, e2, if_neg (by decide)]
      simp [h, h2]
    · rw [if_neg h2]; simp [h2]
  · rw [if_neg h]; simp [h]
def addT (a b c d : Int) : Tri := mk (a * d + c * b) (b * d)
def subT (a b c d : Int) : Tri := mk (a * d - c * b) (b * d)
def mulT (a b c d : Int) : Tri := mk (a * c) (b * d)
theorem addT_ok (a b c d : Int) (h : (addT a b c d).2.2 = true) : OkR (addT a b c d).1 (addT a b c d).2.1 := mk_ok _ _ h
theorem subT_ok (a b c d : Int) (h : (subT a b c d).2.2 = true) : OkR (subT a b c d).1 (subT a b c d).2.1 := mk_ok _ _ h
theorem mulT_ok (a b c d : Int) (h : (mulT a b c d).2.2 = true) : OkR (mulT a b c d).1 (mulT a b c d).2.1 := mk_ok _ _ h
theorem den_pos {a b c d : Int} (h1 : OkR a b) (h2 : OkR c d) : b * d ≠ 0 := by
  have := Int.mul_pos (show 0 < b by have := h1.1; omega) (show 0 < d by have := h2.1; omega)
  omega
section
variable {a b c d : Int} (h1 : OkR a b) (h2 : OkR c d) (k : Nat)
include h1 h2
theorem addRats_eq (hk : 300 ≤ k) : impl_AddRats.f k a b c d = some (addT a b c d) := by
  unfold impl_AddRats.f
  rw [areRats2 _ _ k hk, decide_eq_true h1, decide_eq_true h2]
  simp only [Option.bind_some, Bool.and_true, if_true]
  obtain ⟨m1, m2, m3, _⟩ := cross_bd h1.bd h2.bd
  have hd := den_pos h1 h2
  rw [wr (a * d) (by omega), wr (c * b) (by omega), wr (b * d) (by omega), wr _ (by omega), lowest_eq _ _ hd (by omega) (by omega) k (by omega)]
  rfl
theorem raAdd_eq (hk : 300 ≤ k) : spec_raAdd.f k a b c d = some (addT a b c d) := by
  unfold spec_raAdd.f
  obtain ⟨m1, m2, m3, _⟩ := cross_bd h1.bd h2.bd
  have hd := den_pos h1 h2
  rw [wr (a * d) (by omega), wr (c * b) (by omega), wr (b * d) (by omega), wr _ (by omega), raMake_eq _ _ hd (by omega) (by omega) k (by omega)]
  rfl
theorem raSub_eq (hk : 300 ≤ k) : spec_raSub.f k a b c d = some (subT a b c d) := by
  unfold spec_raSub.f
  obtain ⟨m1, m2, m3, _⟩ := cross_bd h1.bd h2.bd
  have hd := den_pos h1 h2
  rw [wr (a * d) (by omega), wr (c * b) (by omega), wr (b * d) (by omega), wr _ (by omega), raMake_eq _ _ hd (by omega) (by omega) k (by omega)]
  rfl
theorem raMul_eq (hk : 300 ≤ k) : spec_raMul.f k a b c d = some (mulT a b c d) := by
  unfold spec_raMul.f
  obtain ⟨m1, m2, m3, m4⟩ := cross_bd h1.bd h2.bd
  have hd := den_pos h1 h2
  rw [wr (a * c) (by omega), wr (b * d) (by omega), raMake_eq _ _ hd (by omega) (by omega) k (by omega)]
  rfl
omit h1 in
theorem negated_ok : OkR (-c) d := by
  obtain ⟨e1, e2, e3, e4, e5⟩ := h2
  exact ⟨e1, e2, by omega, by omega, by rw [Int.neg_gcd]; exact e5⟩
theorem subRats_eq (hk : 300 ≤ k) : impl_SubtractRats.f k a b c d = some (subT a b c d) := by
  unfold impl_SubtractRats.f impl_negated.f
  have hb := h2.bd
  simp only [Option.bind_some]
  rw [wr (-c) (by unfold Bd at hb; omega), addRats_eq h1 (negated_ok h2) k hk]
  simp only [Option.bind_some]
  unfold addT subT
  rw [Int.neg_mul]
  rfl
theorem mulRats_eq (hk : 300 ≤ k) : impl_MultiplyRats.f k a b c d = some (mulT a b c d) := by
  unfold impl_MultiplyRats.f
  rw [areRats2 _ _ k hk, decide_eq_true h1, decide_eq_true h2]
  simp only [Option.bind_some, Bool.and_true, if_true]
  obtain ⟨m1, m2, m3, m4⟩ := cross_bd h1.bd h2.bd
  have hd := den_pos h1 h2
  rw [wr (a * c) (by omega), wr (b * d) (by omega), lowest_eq _ _ hd (by omega) (by omega) k (by omega)]
  rfl
theorem calc_add (s : Bool) (hk : 300 ≤ k) : impl_calc_add.f k s a b c d = some (kp s (addT a b c d)) := by
  unfold impl_calc_add.f
  rw [addRats_eq h1 h2 k hk, Option.bind_some, keep_eq, Option.bind_some]
theorem calc_sub (s : Bool) (hk : 300 ≤ k) : impl_calc_sub.f k s a b c d = some (kp s (subT a b c d)) := by
  unfold impl_calc_sub.f
  rw [subRats_eq h1 h2 k hk, Option.bind_some, keep_eq, Option.bind_some]
theorem calc_mul (s : Bool) (hk : 300 ≤ k) : impl_calc_mul.f k s a b c d = some (kp s (mulT a b c d)) := by
  unfold impl_calc_mul.f
  rw [mulRats_eq h1 h2 k hk, Option.bind_some, keep_eq, Option.bind_some]
end
structure Seg (p q : Pt) : Prop where
  cp : CoP p
  cq : CoP q
  lt : Lt p.f0 q.f0
theorem IsMap.seg {l : List Pt} (h : IsMap l) (i : Nat) (hi : i + 1 < l.length) : Seg (np l i) (np l (i + 1)) :=
  ⟨h.co i (by omega), h.co (i + 1) hi, by have := h.up (i + 1) (by omega) hi; rwa [Nat.add_sub_cancel] at this⟩
end Go.Proofs.Ytgejkhbehoabdaa.Pu
set_option linter.unusedVariables false
set_option linter.unusedSimpArgs false
namespace Go.Proofs.Ytgejkhbehoabdaa.Pu
open Go.RowKit Go.Proofs.Ytgejkhbehoabdaa.Q Go.Proofs.YtgejkhbehoabdaaW.PrintWords Go.Proofs.YtgejkhbehoabdaaW.PrintLast Go.Proofs.YtgejkhbehoabdaaW.PrintMore
structure Rel (s : Bool) (v m : Tri) : Prop where
  ok : OkR v.1 v.2.1
  bad : v.2.2 = (s || !m.2.2)
  val : m.2.2 = true → v.1 = m.1 ∧ v.2.1 = m.2.1
theorem distance_eq {a b c d : Int} (h1 : OkR a b) (h2 : OkR c d) (s : Bool) (k : Nat) (hk : 300 ≤ k) : impl_calc_distance.f k s a b c d = some (kp s (if a * d < c * b then subT c d a b else subT a b c d)) := by
  unfold impl_calc_distance.f
  rw [less_eq h1.bd h2.bd, Option.bind_some]
  by_cases h : a * d < c * b
  · rw [if_pos (decide_eq_true h), if_pos h, calc_sub h2 h1 k s hk]; rfl
  · rw [if_neg (by simpa using h), if_neg h, calc_sub h1 h2 k s hk]; rfl
def dsT (a b c d : Int) : Tri := if a * d < c * b then subT c d a b else subT a b c d
theorem dsT_ok (a b c d : Int) (h : (dsT a b c d).2.2 = true) : OkR (dsT a b c d).1 (dsT a b c d).2.1 := by
  unfold dsT at h ⊢
  split
  · rename_i h1; rw [if_pos h1] at h; exact subT_ok _ _ _ _ h
  · rename_i h1; rw [if_neg h1] at h; exact subT_ok _ _ _ _ h
def Units (l : List Ra) : Prop := ∀ x ∈ l, OkU x.f0 x.f1
instance (l : List Ra) : Decidable (Units l) := by unfold Units; infer_instance
theorem areUnits_eq (l : List Ra) (k : Nat) (hk : 300 ≤ k) : impl_areUnits.f k l = some (decide (Units l)) := by
  unfold impl_areUnits.f ContainsFunc_impl_areUnits_1.f
  rw [anyS_of (p := fun x => !decide (OkU x.f0 x.f1)) (fun x _ => by
    unfold impl_areUnits_1.f
    rw [isUnit_eq _ _ k (by omega)]
    rfl), Option.bind_some]
  congr 1
  rw [Bool.eq_iff_iff]
  rw [Bool.not_eq_true', decide_eq_true_eq, ← Bool.not_eq_true, List.any_eq_true]
  constructor
  · intro h x hx
    by_cases hu : OkU x.f0 x.f1
    · exact hu
    · exact absurd ⟨x, hx, by simp [hu]⟩ h
  · rintro h ⟨x, hx, hn⟩
    simp [h x hx] at hn
def Pseudo (l : List Ra) : Prop := 1 ≤ l.length ∧ l.length ≤ 20 ∧ Units l
instance (l : List Ra) : Decidable (Pseudo l) := by unfold Pseudo; infer_instance
theorem Pseudo.unit {l : List Ra} (h : Pseudo l) (i : Nat) (hi : i < l.length) : OkU (nr l i).f0 (nr l i).f1 := h.2.2 _ (nr_mem l i hi)
end Go.Proofs.Ytgejkhbehoabdaa.Pu
set_option linter.unusedVariables false
set_option linter.unusedSimpArgs false
namespace Go.Proofs.Ytgejkhbehoabdaa.Pu
open Go.RowKit Go.Proofs.Ytgejkhbehoabdaa.Q Go.Proofs.YtgejkhbehoabdaaW.PrintWords Go.Proofs.YtgejkhbehoabdaaW.PrintLast Go.Proofs.YtgejkhbehoabdaaW.PrintMore
def buildO (g : Nat → Tri) : Nat → Nat → List Ra → Option (List Ra)
  | 0, _, out => some out
  | n + 1, i, out => if (g i).2.2 = true then buildO g n (i + 1) (out ++ [⟨(g i).1, (g i).2.1⟩]) else none
theorem buildO_len (g : Nat → Tri) : ∀ n i out o, buildO g n i out = some o → o.length = out.length + n := by
  intro n
  induction n with
  | zero => intro i out o h; cases h; rfl
  | succ n ih =>
    intro i out o h
    unfold buildO at h
    split at h
    · have := ih _ _ _ h
      simp at this
      omega
    · cases h
theorem buildO_ok (g : Nat → Tri) (hg : ∀ i, (g i).2.2 = true → OkR (g i).1 (g i).2.1) : ∀ n i out o, (∀ x ∈ out, OkR x.f0 x.f1) → buildO g n i out = some o → ∀ x ∈ o, OkR x.f0 x.f1 := by
  intro n
  induction n with
  | zero => intro i out o h1 h; cases h; exact h1
  | succ n ih =>
    intro i out o h1 h
    unfold buildO at h
    split at h
    · rename_i hh
      refine ih _ _ _ (fun x hx => ?_) h
      rcases List.mem_append.1 hx with hx | hx
      · exact h1 x hx
      · rw [List.mem_singleton.1 hx]; exact hg i hh
    · cases h
structure Flag (s : Bool) (o : List Ra) (t : Bool) (b : Option (List Ra)) (n : Nat) : Prop where
  len : o.length = n
  ok : ∀ x ∈ o, OkR x.f0 x.f1
  bad : s = true → t = true
  none : s = false → t = b.isNone
  val : s = false → ∀ z, b = some z → o = z
theorem flag_end (s : Bool) (out : List Ra) (h : ∀ x ∈ out, OkR x.f0 x.f1) : Flag s out s (some out) out.length := ⟨rfl, h, fun h => h, fun h => h, fun _ z hz => by cases hz; rfl⟩
theorem flag_step {g : Nat → Tri} {n i : Nat} {out o : List Ra} {s t : Bool} {m : Nat} (h : Flag (kp s (g i)).2.2 o t (buildO g n (i + 1) (out ++ [⟨(kp s (g i)).1, (kp s (g i)).2.1⟩])) m) : Flag s o t (buildO g (n + 1) i out) m := by
  refine ⟨h.len, h.ok, fun hs => h.bad (by rw [kp_bad, hs]; rfl), fun hs => ?_, fun hs z hz => ?_⟩
  · unfold buildO
    cases hg : (g i).2.2 with
    | true =>
      have h2 := h.none (by rw [kp_bad, hs, hg]; rfl)
      rw [if_pos rfl, h2, kp_val hg]
    | false =>
      rw [if_neg (by decide)]
      exact h.bad (by rw [kp_bad, hg]; simp)
  · unfold buildO at hz
    cases hg : (g i).2.2 with
    | true =>
      rw [hg, if_pos rfl] at hz
      refine h.val (by rw [kp_bad, hs, hg]; rfl) z ?_
      rw [kp_val hg]
      exact hz
    | false => rw [hg, if_neg (by decide)] at hz; cases hz
def Oks (l : List Ra) : Prop := ∀ x ∈ l, OkR x.f0 x.f1
theorem out_ok {out : List Ra} (h : Oks out) {a b : Int} (hx : OkR a b) : Oks (out ++ [(⟨a, b⟩ : Ra)]) := fun x hx2 => by
  rcases List.mem_append.1 hx2 with hx2 | hx2
  · exact h x hx2
  · rw [List.mem_singleton.1 hx2]; exact hx
def widthT (p : List Ra) (i : Nat) : Tri := subT (nr p i).f0 (nr p i).f1 (nr p (i - 1)).f0 (nr p (i - 1)).f1
def widthsO (p : List Ra) : Option (List Ra) := buildO (widthT p) (p.length - 1) 1 []
def retB (o : Option (List Ra)) : List Ra × Bool := match o with | some l => (l, true) | none => ([], false)
abbrev Iv := S63
def btL (p : List Ra) (d i : Nat) : List Iv := (List.range d).map fun (j : Nat) => ⟨nr p (i - 1 + j), nr p (i + j)⟩
theorem btL_succ (p : List Ra) (d i : Nat) (h : 1 ≤ i) : btL p (d + 1) i = ⟨nr p (i - 1), nr p i⟩ :: btL p d (i + 1) := by
  unfold btL
  rw [List.range_succ_eq_map, List.map_cons, List.map_map]
  congr 1
  apply List.map_congr_left
  intro j _
  simp only [Function.comp]
  congr 2 <;> omega
theorem between_l (p : List Ra) (hl : p.length ≤ 1048576) : ∀ (d k i : Nat) (out : List Iv), 1 ≤ i → i + d = p.length ∨ d = 0 ∧ p.length ≤ i → out.length ≤ i → d < k → impl_between.l0 k p out (i : Int) = some (out ++ btL p d i) := by
  intro d
  induction d with
  | zero =>
    intro k i out h1 hi ho hk
    obtain ⟨k, rfl⟩ : ∃ m, k = m + 1 := ⟨k - 1, by omega⟩
    simp only [impl_between.l0]
    rw [if_neg (by omega)]
    simp [btL]
  | succ d ih =>
    intro k i out h1 hi ho hk
    obtain ⟨k, rfl⟩ : ∃ m, k = m + 1 := ⟨k - 1, by omega⟩
    simp only [impl_between.l0]
    rw [wr (_ - 1) (by omega), wr (_ + 1) (by omega), if_pos (by omega), if_pos (by omega), if_pos (by omega), if_pos (by omega), if_pos (by omega), show (i : Int) - 1 = ((i - 1 : Nat) : Int) by omega, show (i : Int) + 1 = ((i + 1 : Nat) : Int) by omega, rd_nr, rd_nr, ih k (i + 1) _ (by omega) (by omega) (by simp; omega) (by omega), btL_succ p d i h1]
    simp
theorem between_eq (p : List Ra) (hl : p.length ≤ 1048576) (k : Nat) (hk : p.length + 1 < k) : impl_between.f k p = some (btL p (p.length - 1) 1) := by
  unfold impl_between.f
  have := between_l p hl (p.length - 1) k 1 [] (by omega) (by omega) (by simp) (by omega)
  simpa using this
theorem rd_bt (p : List Ra) (d i : Nat) (h : i < d) : rd_T63 (btL p d 1) (i : Int) = ⟨nr p i, nr p (i + 1)⟩ := by
  simp [rd_T63, btL, List.getD_eq_getElem?_getD, h, Nat.add_comm]
theorem impl_widths_l (p : List Ra) (hp : Oks p) (n : Nat) (hn : n + 1 = p.length) (hl : p.length ≤ 1048576) : ∀ (d k i : Nat) (out : List Ra) (s : Bool), i + d = n → out.length = i → Oks out → 400 + d < k →
    ∃ o t, impl_calc_widths.l0 k out (btL p n 1) (n : Int) (i : Int) s = some (o, t) ∧ Flag s o t (buildO (widthT p) d (i + 1) out) n := by
  intro d
  induction d with
  | zero =>
    intro k i out s hi ho hx hk
    obtain ⟨k, rfl⟩ : ∃ m, k = m + 1 := ⟨k - 1, by omega⟩
    simp only [impl_calc_widths.l0]
    rw [if_neg (by omega)]
    refine ⟨_, _, rfl, ?_⟩
    have := flag_end s out hx
    rw [show out.length = n by omega] at this
    exact this
  | succ d ih =>
    intro k i out s hi ho hx hk
    obtain ⟨k, rfl⟩ : ∃ m, k = m + 1 := ⟨k - 1, by omega⟩
    simp only [impl_calc_widths.l0]
    have hbl : (btL p n 1).length = n := by simp [btL]
    have h1 := hp _ (nr_mem p (i + 1) (by omega))
    have h0 := hp _ (nr_mem p i (by omega))
    rw [hbl, if_pos (by omega), if_pos (by omega), if_pos (by omega), rd_bt p n i (by omega), calc_sub h1 h0 k s (by omega), Option.bind_some, if_pos (by omega), wr _ (by omega), show (i : Int) + 1 = ((i + 1 : Nat) : Int) by omega]
    have hk2 : OkR (kp s (widthT p (i + 1))).1 (kp s (widthT p (i + 1))).2.1 := kp_ok (fun h => subT_ok _ _ _ _ h)
    obtain ⟨o, t, e, hf⟩ := ih k (i + 1) (out ++ [⟨(kp s (widthT p (i + 1))).1, (kp s (widthT p (i + 1))).2.1⟩]) (kp s (widthT p (i + 1))).2.2 (by omega) (by simp; omega) (out_ok hx hk2) (by omega)
    exact ⟨o, t, e, flag_step hf⟩
theorem impl_widths_eq (p : List Ra) (hp : Oks p) (h2 : 2 ≤ p.length) (hl : p.length ≤ 1000) (s : Bool) (k : Nat) (hk : 2000 ≤ k) : ∃ o t, impl_calc_widths.f k s p = some (o, t) ∧ Flag s o t (widthsO p) (p.length - 1) := by
  unfold impl_calc_widths.f widthsO
  rw [between_eq p (by omega) k (by omega), Option.bind_some, show (btL p (p.length - 1) 1).length = p.length - 1 by simp [btL]]
  exact impl_widths_l p hp (p.length - 1) (by omega) (by omega) (p.length - 1) k 0 [] s (by omega) rfl (fun x hx => by cases hx) (by omega)
theorem spec_widths_l (p : List Ra) (hp : Oks p) (hl : p.length ≤ 1048576) : ∀ (d k i : Nat) (out : List Ra), 1 ≤ i → i + d = p.length → out.length ≤ i → 400 + d < k → spec_mkWidths.l0 k p out (i : Int) = some (retB (buildO (widthT p) d i out)) := by
  intro d
  induction d with
  | zero =>
    intro k i out h1 hi ho hk
    obtain ⟨k, rfl⟩ : ∃ m, k = m + 1 := ⟨k - 1, by omega⟩
    simp only [spec_mkWidths.l0]
    rw [if_neg (by omega)]
    rfl
  | succ d ih =>
    intro k i out h1 hi ho hk
    obtain ⟨k, rfl⟩ : ∃ m, k = m + 1 := ⟨k - 1, by omega⟩
    simp only [spec_mkWidths.l0]
    have e1 := hp _ (nr_mem p i (by omega))
    have e0 := hp _ (nr_mem p (i - 1) (by omega))
    rw [wr (_ - 1) (by omega), wr (_ + 1) (by omega), if_pos (by omega), if_pos (by omega), if_pos (by omega), if_pos (by omega), show (i : Int) - 1 = ((i - 1 : Nat) : Int) by omega, show (i : Int) + 1 = ((i + 1 : Nat) : Int) by omega, rd_nr, rd_nr, raSub_eq e1 e0 k (by omega), Option.bind_some]
    unfold buildO
    rw [show subT (nr p i).f0 (nr p i).f1 (nr p (i - 1)).f0 (nr p (i - 1)).f1 = widthT p i from rfl]
    cases hg : (widthT p i).2.2 with
    | true => rw [if_pos rfl, if_pos rfl, if_pos (by omega), ih k (i + 1) _ (by omega) (by omega) (by simp; omega) (by omega)]
    | false => rw [if_neg (by decide), if_neg (by decide)]; rfl
theorem spec_widths_eq (p : List Ra) (hp : Oks p) (h2 : 2 ≤ p.length) (hl : p.length ≤ 1000) (k : Nat) (hk : 2000 ≤ k) : spec_mkWidths.f k p = some (retB (widthsO p)) := by
  unfold spec_mkWidths.f widthsO
  exact spec_widths_l p hp (by omega) (p.length - 1) k 1 [] (by omega) (by omega) (by simp) (by omega)
def sumO (l w : List Ra) : Nat → Nat → Ra → Option Ra
  | 0, _, a => some a
  | n + 1, i, a => if (mulT (nr l i).f0 (nr l i).f1 (nr w i).f0 (nr w i).f1).2.2 = true then
      if (addT a.f0 a.f1 (mulT (nr l i).f0 (nr l i).f1 (nr w i).f0 (nr w i).f1).1 (mulT (nr l i).f0 (nr l i).f1 (nr w i).f0 (nr w i).f1).2.1).2.2 = true then
        sumO l w n (i + 1) ⟨(addT a.f0 a.f1 (mulT (nr l i).f0 (nr l i).f1 (nr w i).f0 (nr w i).f1).1 (mulT (nr l i).f0 (nr l i).f1 (nr w i).f0 (nr w i).f1).2.1).1, (addT a.f0 a.f1 (mulT (nr l i).f0 (nr l i).f1 (nr w i).f0 (nr w i).f1).1 (mulT (nr l i).f0 (nr l i).f1 (nr w i).f0 (nr w i).f1).2.1).2.1⟩
      else none
    else none
def retS (o : Option Ra) : Tri := match o with | some s => (s.f0, s.f1, true) | none => (0, 0, false)
theorem spec_sum_l (l w : List Ra) (hl : Oks l) (hw : Oks w) (hlen : l.length ≤ w.length) (h9 : l.length ≤ 1000) : ∀ (d k i : Nat) (a : Ra), OkR a.f0 a.f1 → i + d = l.length → 400 + d < k → spec_dnSum.l0 k l w (l.length : Int) (i : Int) a.f0 a.f1 = some (retS (sumO l w d i a)) := by
  intro d
  induction d with
  | zero =>
    intro k i a ha hi hk
    obtain ⟨k, rfl⟩ : ∃ m, k = m + 1 := ⟨k - 1, by omega⟩
    simp only [spec_dnSum.l0]
    rw [if_neg (by omega)]
    rfl
  | succ d ih =>
    intro k i a ha hi hk
    obtain ⟨k, rfl⟩ : ∃ m, k = m + 1 := ⟨k - 1, by omega⟩
    simp only [spec_dnSum.l0]
    have e1 := hl _ (nr_mem l i (by omega))
    have e2 := hw _ (nr_mem w i (by omega))
    rw [if_pos (by omega), if_pos (by omega), if_pos (by omega), if_pos (by omega), rd_nr, rd_nr, raMul_eq e1 e2 k (by omega), Option.bind_some]
    unfold sumO
    have hmo := mulT_ok (nr l i).f0 (nr l i).f1 (nr w i).f0 (nr w i).f1
    generalize mulT (nr l i).f0 (nr l i).f1 (nr w i).f0 (nr w i).f1 = M at *
    cases hM : M.2.2 with
    | false => rw [if_neg (by decide), if_neg (by decide)]; rfl
    | true =>
      rw [if_pos rfl, if_pos rfl, raAdd_eq ha (hmo hM) k (by omega), Option.bind_some]
      have hao := addT_ok a.f0 a.f1 M.1 M.2.1
      generalize addT a.f0 a.f1 M.1 M.2.1 = A at *
      cases hA : A.2.2 with
      | false => rw [if_neg (by decide), if_neg (by decide)]; rfl
      | true =>
        rw [if_pos rfl, if_pos rfl, wr _ (by omega), show (i : Int) + 1 = ((i + 1 : Nat) : Int) by omega]
        exact ih k (i + 1) ⟨A.1, A.2.1⟩ (hao hA) (by omega) (by omega)
theorem spec_sum_eq (l w : List Ra) (hl : Oks l) (hw : Oks w) (hlen : l.length ≤ w.length) (h9 : l.length ≤ 1000) (k : Nat) (hk : 2000 ≤ k) : spec_dnSum.f k l w = some (retS (sumO l w l.length 0 ⟨0, 1⟩)) := by
  unfold spec_dnSum.f spec_raInt.f
  rw [Option.bind_some]
  exact spec_sum_l l w hl hw hlen h9 l.length k 0 ⟨0, 1⟩ ok_zero (by omega) (by omega)
theorem impl_sum_l (l w : List Ra) (hl : Oks l) (hw : Oks w) (hlen : l.length ≤ w.length) (h9 : l.length ≤ 1000) : ∀ (d k i : Nat) (a : Ra) (s : Bool), OkR a.f0 a.f1 → i + d = l.length → 400 + d < k →
    ∃ v : Tri, impl_calc_scalar.l0 k l w (l.length : Int) (i : Int) s a.f0 a.f1 = some v ∧ (s = true → v.2.2 = true) ∧ (s = false → v.2.2 = (sumO l w d i a).isNone ∧ ∀ z, sumO l w d i a = some z → v.1 = z.f0 ∧ v.2.1 = z.f1) := by
  intro d
  induction d with
  | zero =>
    intro k i a s ha hi hk
    obtain ⟨k, rfl⟩ : ∃ m, k = m + 1 := ⟨k - 1, by omega⟩
    simp only [impl_calc_scalar.l0]
    rw [if_neg (by omega)]
    exact ⟨_, rfl, fun h => h, fun h => ⟨h, fun z hz => by cases hz; exact ⟨rfl, rfl⟩⟩⟩
  | succ d ih =>
    intro k i a s ha hi hk
    obtain ⟨k, rfl⟩ : ∃ m, k = m + 1 := ⟨k - 1, by omega⟩
    simp only [impl_calc_scalar.l0]
    have e1 := hl _ (nr_mem l i (by omega))
    have e2 := hw _ (nr_mem w i (by omega))
    rw [if_pos (by omega), if_pos (by omega), if_pos (by omega), if_pos (by omega), rd_nr, rd_nr, calc_mul e1 e2 k s (by omega), Option.bind_some]
    unfold sumO
    have hmo := mulT_ok (nr l i).f0 (nr l i).f1 (nr w i).f0 (nr w i).f1
    generalize mulT (nr l i).f0 (nr l i).f1 (nr w i).f0 (nr w i).f1 = M at *
    have hkm : OkR (kp s M).1 (kp s M).2.1 := kp_ok hmo
    rw [calc_add ha hkm k (kp s M).2.2 (by omega), Option.bind_some, wr _ (by omega), show (i : Int) + 1 = ((i + 1 : Nat) : Int) by omega]
    have hao := addT_ok a.f0 a.f1 (kp s M).1 (kp s M).2.1
    have hka : OkR (kp (kp s M).2.2 (addT a.f0 a.f1 (kp s M).1 (kp s M).2.1)).1 (kp (kp s M).2.2 (addT a.f0 a.f1 (kp s M).1 (kp s M).2.1)).2.1 := kp_ok hao
    obtain ⟨v, ev, h1, h2⟩ := ih k (i + 1) ⟨(kp (kp s M).2.2 (addT a.f0 a.f1 (kp s M).1 (kp s M).2.1)).1, (kp (kp s M).2.2 (addT a.f0 a.f1 (kp s M).1 (kp s M).2.1)).2.1⟩ (kp (kp s M).2.2 (addT a.f0 a.f1 (kp s M).1 (kp s M).2.1)).2.2 hka (by omega) (by omega)
    refine ⟨v, ev, fun hs => h1 (by rw [kp_bad, kp_bad, hs]; rfl), fun hs => ?_⟩
    subst hs
    cases hM : M.2.2 with
    | false =>
      rw [if_neg (by decide)]
      exact ⟨h1 (by rw [kp_bad, kp_bad, hM]; rfl), fun z hz => by cases hz⟩
    | true =>
      rw [if_pos rfl]
      rw [kp_val hM] at h1 h2
      cases hA : (addT a.f0 a.f1 M.1 M.2.1).2.2 with
      | false =>
        rw [if_neg (by decide)]
        exact ⟨h1 (by rw [kp_bad, hA]; rfl), fun z hz => by cases hz⟩
      | true =>
        rw [if_pos rfl]
        rw [kp_val hA] at h2
        exact h2 rfl
theorem impl_sum_eq (l w : List Ra) (hl : Oks l) (hw : Oks w) (hlen : l.length ≤ w.length) (h9 : l.length ≤ 1000) (s : Bool) (k : Nat) (hk : 2000 ≤ k) :
    ∃ v : Tri, impl_calc_scalar.f k s l w = some v ∧ (s = true → v.2.2 = true) ∧ (s = false → v.2.2 = (sumO l w l.length 0 ⟨0, 1⟩).isNone ∧ ∀ z, sumO l w l.length 0 ⟨0, 1⟩ = some z → v.1 = z.f0 ∧ v.2.1 = z.f1) := by
  unfold impl_calc_scalar.f impl_zero.f
  rw [Option.bind_some]
  exact impl_sum_l l w hl hw hlen h9 l.length k 0 ⟨0, 1⟩ s ok_zero (by omega) (by omega)
structure Part (p : List Ra) : Prop where
  two : 2 ≤ p.length
  most : p.length ≤ 9
  unit : Units p
  up : Rising p
  first : (nr p 0).f0 = 0 ∧ (nr p 0).f1 = 1
  last : (nr p (p.length - 1)).f0 = 1 ∧ (nr p (p.length - 1)).f1 = 1
theorem Part.oks {p : List Ra} (h : Part p) : Oks p := fun x hx => (h.unit x hx).1
theorem isPart_eq (p : List Ra) (hl : p.length ≤ 1048576) (k : Nat) (hk : 2000 ≤ k) : ∃ b, impl_isPartition.f k p = some b ∧ (b = true ↔ Part p) := by
  unfold impl_isPartition.f impl_within.f impl_zero.f impl_oneRat.f
  by_cases h2 : 2 ≤ (p.length : Int)
  · rw [if_pos h2, Option.bind_some]
    by_cases h9 : (p.length : Int) ≤ 9
    · rw [if_pos (decide_eq_true h9), areUnits_eq p k (by omega), Option.bind_some]
      by_cases hu : Units p
      · obtain ⟨b, e, hb⟩ := rising_eq p hl (fun x hx => (hu x hx).1.bd) k (by omega)
        rw [if_pos (decide_eq_true hu), e, Option.bind_some]
        cases hb1 : b with
        | false => rw [if_neg (by decide)]; exact ⟨_, rfl, by simp; intro hp; have := hb.2 hp.up; rw [hb1] at this; cases this⟩
        | true =>
          rw [if_pos rfl, if_pos (by omega), Option.bind_some, rd_nr0]
          by_cases h0 : (nr p 0).f0 = 0 ∧ (nr p 0).f1 = 1
          · rw [if_pos (by simp [h0.1, h0.2]), wr _ (by omega), if_pos (by omega), if_pos (by omega), Option.bind_some, show (p.length : Int) - 1 = ((p.length - 1 : Nat) : Int) by omega, rd_nr]
            refine ⟨_, rfl, ?_⟩
            simp only [Bool.and_eq_true, beq_iff_eq]
            exact ⟨fun h => ⟨by omega, by omega, hu, hb.1 hb1, h0, h⟩, fun h => h.last⟩
          · rw [if_neg (by simp only [Bool.and_eq_true, beq_iff_eq]; exact h0)]
            exact ⟨_, rfl, by simp; intro hp; exact h0 hp.first⟩
      · rw [if_neg (by simpa using hu)]; exact ⟨_, rfl, by simp; intro hp; exact hu hp.unit⟩
    · rw [if_neg (by simpa using h9)]; exact ⟨_, rfl, by simp; intro hp; have := hp.most; omega⟩
  · rw [if_neg h2, Option.bind_some, if_neg (by decide)]; exact ⟨_, rfl, by simp; intro hp; have := hp.two; omega⟩
theorem mkGood_l (p : List Ra) (h2 : 2 ≤ p.length) (h9 : p.length ≤ 9) : ∀ (d k i : Nat), i + d = p.length → (∀ j, j < i → OkU (nr p j).f0 (nr p j).f1) → (∀ j, 1 ≤ j → j < i → Lt (nr p (j - 1)) (nr p j)) → 400 + d < k → ∃ b, spec_mkGood.l0 k p p (p.length : Int) (i : Int) = some b ∧ (b = true ↔ Part p) := by
  intro d
  induction d with
  | zero =>
    intro k i hi hu hup hk
    obtain ⟨k, rfl⟩ : ∃ m, k = m + 1 := ⟨k - 1, by omega⟩
    simp only [spec_mkGood.l0, spec_raInt.f, Option.bind_some]
    have hU : Units p := fun x hx => by
      obtain ⟨j, hj, e⟩ := mem_nr p x hx
      rw [← e]
      exact hu j (by omega)
    have hR : Rising p := fun j h1 hj => hup j h1 (by omega)
    rw [if_neg (by omega), if_pos (by omega), rd_nr0]
    by_cases h0 : (nr p 0).f0 = 0 ∧ (nr p 0).f1 = 1
    · rw [if_pos (by simp [h0.1, h0.2]), wr _ (by omega), if_pos (by omega), if_pos (by omega), show (p.length : Int) - 1 = ((p.length - 1 : Nat) : Int) by omega, rd_nr]
      refine ⟨_, rfl, ?_⟩
      simp only [Bool.and_eq_true, beq_iff_eq]
      exact ⟨fun h => ⟨h2, h9, hU, hR, h0, h⟩, fun h => h.last⟩
    · rw [if_neg (by simp only [Bool.and_eq_true, beq_iff_eq]; exact h0)]
      exact ⟨_, rfl, by simp; intro hp; exact h0 hp.first⟩
  | succ d ih =>
    intro k i hi hu hup hk
    obtain ⟨k, rfl⟩ : ∃ m, k = m + 1 := ⟨k - 1, by omega⟩
    simp only [spec_mkGood.l0]
    rw [if_pos (by omega), if_pos (by omega), if_pos (by omega), rd_nr, raUnit_eq _ _ k (by omega), Option.bind_some]
    by_cases hx : OkU (nr p i).f0 (nr p i).f1
    · rw [if_pos (decide_eq_true hx), wr (_ + 1) (by omega), show (i : Int) + 1 = ((i + 1 : Nat) : Int) by omega]
      have hu' : ∀ j, j < i + 1 → OkU (nr p j).f0 (nr p j).f1 := fun j hj => by
        by_cases ej : j = i
        · subst ej; exact hx
        · exact hu j (by omega)
      by_cases h0 : (i : Int) > 0
      · rw [if_pos h0, wr (_ - 1) (by omega), if_pos (by omega), if_pos (by omega), show (i : Int) - 1 = ((i - 1 : Nat) : Int) by omega, rd_nr]
        obtain ⟨t, e, hlt, _⟩ := raCmp_eq (hu (i - 1) (by omega)).1.bd hx.1.bd
        rw [e, Option.bind_some]
        by_cases ht : t ≥ 0
        · rw [if_pos ht]
          refine ⟨false, rfl, ⟨fun h => (by cases h), fun hm => ?_⟩⟩
          have := hm.up i (by omega) (by omega)
          have := hlt.2 this
          omega
        · rw [if_neg ht]
          refine ih k (i + 1) (by omega) hu' (fun j h1 hj => ?_) (by omega)
          by_cases ej : j = i
          · subst ej; exact hlt.1 (by omega)
          · exact hup j h1 (by omega)
      · rw [if_neg h0]
        exact ih k (i + 1) (by omega) hu' (fun j h1 hj => by omega) (by omega)
    · rw [if_neg (by simpa using hx)]
      exact ⟨false, rfl, by simp; intro hm; exact hx (hm.unit _ (nr_mem p i (by omega)))⟩
theorem mkGood_eq (p : List Ra) (k : Nat) (hk : 2000 ≤ k) : ∃ b, spec_mkGood.f k p = some b ∧ (b = true ↔ Part p) := by
  unfold spec_mkGood.f spec_l1In.f
  by_cases h2 : (p.length : Int) ≥ 2
  · rw [if_pos h2, Option.bind_some]
    by_cases h9 : (p.length : Int) ≤ 9
    · rw [if_pos (decide_eq_true h9)]
      exact mkGood_l p (by omega) (by omega) p.length k 0 (by omega) (fun j hj => by omega) (fun j _ hj => by omega) (by omega)
    · rw [if_neg (by simpa using h9)]; exact ⟨_, rfl, by simp; intro hp; have := hp.most; omega⟩
  · rw [if_neg h2, Option.bind_some, if_neg (by decide)]; exact ⟨_, rfl, by simp; intro hp; have := hp.two; omega⟩
end Go.Proofs.Ytgejkhbehoabdaa.Pu
set_option linter.unusedVariables false
set_option linter.unusedSimpArgs false
namespace Go.Proofs.Ytgejkhbehoabdaa.Pu
open Go.RowKit Go.Proofs.Ytgejkhbehoabdaa.Q Go.Proofs.YtgejkhbehoabdaaW.PrintWords Go.Proofs.YtgejkhbehoabdaaW.PrintLast Go.Proofs.YtgejkhbehoabdaaW.PrintMore
theorem areRats_l (l : List Ra) (hl : l.length ≤ 1048576) : ∀ (d k i : Nat), i + d = l.length → (∀ j, j < i → OkR (nr l j).f0 (nr l j).f1) → 400 + d < k → ∃ b, impl_areRats.l0 k l (l.length : Int) (i : Int) = some b ∧ (b = true ↔ Oks l) := by
  intro d
  induction d with
  | zero =>
    intro k i hi hj hk
    obtain ⟨k, rfl⟩ : ∃ m, k = m + 1 := ⟨k - 1, by omega⟩
    simp only [impl_areRats.l0]
    rw [if_neg (by omega)]
    refine ⟨_, rfl, fun _ x hx => ?_, fun _ => rfl⟩
    obtain ⟨j, h, e⟩ := mem_nr l x hx
    rw [← e]
    exact hj j (by omega)
  | succ d ih =>
    intro k i hi hj hk
    obtain ⟨k, rfl⟩ : ∃ m, k = m + 1 := ⟨k - 1, by omega⟩
    simp only [impl_areRats.l0]
    rw [if_pos (by omega), if_pos (by omega), if_pos (by omega), rd_nr, isRat_eq _ _ k (by omega), Option.bind_some]
    by_cases h : OkR (nr l i).f0 (nr l i).f1
    · rw [if_pos (decide_eq_true h), wr _ (by omega), show (i : Int) + 1 = ((i + 1 : Nat) : Int) by omega]
      refine ih k (i + 1) (by omega) (fun j hj2 => ?_) (by omega)
      by_cases e : j = i
      · subst e; exact h
      · exact hj j (by omega)
    · rw [if_neg (by simpa using h)]
      exact ⟨_, rfl, by simp; intro ho; exact h (ho _ (nr_mem l i (by omega)))⟩
theorem areShares_eq (p v : List Ra) (hp : p.length ≤ 1048576) (hv : v.length ≤ 1048576) (k : Nat) (hk : 1050000 ≤ k) : ∃ b, impl_areShares.f k p v = some b ∧ (b = true ↔ Part p ∧ v.length = p.length - 1 ∧ Oks v) := by
  unfold impl_areShares.f
  obtain ⟨b, e, hb⟩ := isPart_eq p hp k (by omega)
  rw [e, Option.bind_some]
  cases hb1 : b with
  | false => rw [if_neg (by decide)]; exact ⟨_, rfl, by simp; intro h; have := hb.2 h; rw [hb1] at this; cases this⟩
  | true =>
    have hP := hb.1 hb1
    have h2 := hP.two
    rw [if_pos rfl, wr _ (by omega)]
    by_cases hlen : (v.length : Int) = (p.length : Int) - 1
    · unfold impl_areRats.f
      obtain ⟨c, e2, hc⟩ := areRats_l v hv v.length k 0 (by omega) (fun j hj => by omega) (by omega)
      rw [show ((0 : Nat) : Int) = 0 from rfl] at e2
      rw [if_pos hlen, e2, Option.bind_some]
      exact ⟨_, rfl, hc.trans ⟨fun h => ⟨hP, by omega, h⟩, fun h => h.2.2⟩⟩
    · rw [if_neg hlen]
      exact ⟨_, rfl, by simp; intro _ h; omega⟩
theorem ra_one {z : Ra} (h : z.f0 = 1 ∧ z.f1 = 1) : z = ⟨1, 1⟩ := by
  cases z with
  | mk a b => exact congr (congrArg S47.mk (show a = 1 from h.1)) (show b = 1 from h.2)
structure Told (p v : List Ra) : Prop where
  part : Part p
  len : v.length = p.length - 1
  oks : Oks v
  nn : ∀ x ∈ v, 0 ≤ x.f0
  sum : ∃ w, widthsO p = some w ∧ sumO v w v.length 0 ⟨0, 1⟩ = some ⟨1, 1⟩
theorem widths_len {p w : List Ra} (h : widthsO p = some w) : w.length = p.length - 1 := by
  have := buildO_len _ _ _ _ _ h
  simpa using this
theorem widths_ok {p w : List Ra} (h : widthsO p = some w) : Oks w := buildO_ok _ (fun i h => subT_ok _ _ _ _ h) _ _ _ _ (fun x hx => by cases hx) h
theorem neg_eq (v : List Ra) : ContainsFunc_impl_isDensity_1.f v = some (v.any fun x => decide (x.f0 < 0)) := by
  unfold ContainsFunc_impl_isDensity_1.f
  exact anyS_of (fun x _ => rfl)
theorem isTold_ex (p v : List Ra) (hp : p.length ≤ 1048576) (hv : v.length ≤ 1048576) (k : Nat) (hk : 1050000 ≤ k) : ∃ b, impl_isTold.f k p v = some b ∧ (b = true ↔ Told p v) := by
  unfold impl_isTold.f impl_IsDensity.f
  obtain ⟨b, e, hb⟩ := areShares_eq p v hp hv k hk
  rw [e, Option.bind_some]
  cases hb1 : b with
  | false =>
    rw [if_neg (by decide)]
    exact ⟨false, rfl, by simp; intro h; have := hb.2 ⟨h.part, h.len, h.oks⟩; rw [hb1] at this; cases this⟩
  | true =>
    obtain ⟨hP, hlen, hok⟩ := hb.1 hb1
    have h2 := hP.two
    have h9 := hP.most
    rw [if_pos rfl]
    unfold impl_isDensity.f impl_oneRat.f
    obtain ⟨o, t, e1, hf⟩ := impl_widths_eq p hP.oks h2 (by omega) false k (by omega)
    rw [e1, Option.bind_some]
    obtain ⟨s, e2, hs1, hs2⟩ := impl_sum_eq v o hok hf.ok (by have := hf.len; omega) (by omega) t k (by omega)
    rw [e2, Option.bind_some]
    cases hw : widthsO p with
    | none =>
      have ht : t = true := by rw [hf.none rfl, hw]; rfl
      rw [if_pos (hs1 ht)]
      refine ⟨false, rfl, by simp; intro h; obtain ⟨w, h3, _⟩ := h.sum; rw [hw] at h3; cases h3⟩
    | some w =>
      have ht : t = false := by rw [hf.none rfl, hw]; rfl
      have ho : o = w := hf.val rfl w hw
      subst ho
      obtain ⟨hs3, hs4⟩ := hs2 ht
      cases hsum : sumO v o v.length 0 ⟨0, 1⟩ with
      | none =>
        rw [hsum] at hs3
        have hs5 : s.2.2 = true := hs3
        rw [if_pos hs5]
        refine ⟨false, rfl, by simp; intro h; obtain ⟨w, h3, h4⟩ := h.sum; rw [hw] at h3; cases h3; rw [hsum] at h4; cases h4⟩
      | some z =>
        rw [hsum] at hs3
        obtain ⟨z1, z2⟩ := hs4 z hsum
        rw [if_neg (by rw [hs3]; simp), Option.bind_some, z1, z2]
        by_cases h1 : z.f0 = 1 ∧ z.f1 = 1
        · rw [if_pos (by simp [h1.1, h1.2]), neg_eq, Option.bind_some, Option.bind_some, Option.bind_some]
          have hz : z = ⟨1, 1⟩ := ra_one h1
          subst hz
          cases hany : (v.any fun x => decide (x.f0 < 0)) with
          | false =>
            refine ⟨true, rfl, fun _ => ⟨hP, hlen, hok, fun x hx => ?_, o, hw, hsum⟩, fun _ => rfl⟩
            have : ¬ x.f0 < 0 := fun hn => by
              have h8 : (v.any fun x => decide (x.f0 < 0)) = true := List.any_eq_true.2 ⟨x, hx, decide_eq_true hn⟩
              rw [hany] at h8
              cases h8
            omega
          | true =>
            refine ⟨false, rfl, (fun h => by cases h), (fun h => ?_)⟩
            obtain ⟨x, hx, hn⟩ := List.any_eq_true.1 hany
            have := h.nn x hx
            have := of_decide_eq_true hn
            omega
        · rw [if_neg (by simp only [Bool.and_eq_true, beq_iff_eq]; exact h1)]
          refine ⟨false, rfl, by simp; intro h; obtain ⟨w, h3, h4⟩ := h.sum; rw [hw] at h3; cases h3; rw [hsum] at h4; cases h4; exact h1 ⟨rfl, rfl⟩⟩
theorem dnList_l (p v : List Ra) (hp : p.length ≤ 1048576) (hv : v.length ≤ 1048576) : ∀ (d k i : Nat), i + d = v.length → (∀ j, j < i → OkR (nr v j).f0 (nr v j).f1 ∧ 0 ≤ (nr v j).f0) → 3000 + d < k → ∃ b, spec_dnList.l0 k p v v (v.length : Int) (i : Int) = some b ∧ (b = true ↔ Part p ∧ v.length = p.length - 1 ∧ Oks v ∧ ∀ x ∈ v, 0 ≤ x.f0) := by
  intro d
  induction d with
  | zero =>
    intro k i hi hj hk
    obtain ⟨k, rfl⟩ : ∃ m, k = m + 1 := ⟨k - 1, by omega⟩
    simp only [spec_dnList.l0]
    rw [if_neg (by omega)]
    obtain ⟨b, e, hb⟩ := mkGood_eq p k (by omega)
    rw [e, Option.bind_some]
    have hall : ∀ x ∈ v, OkR x.f0 x.f1 ∧ 0 ≤ x.f0 := fun x hx => by
      obtain ⟨j, h, e⟩ := mem_nr v x hx
      rw [← e]
      exact hj j (by omega)
    cases hb1 : b with
    | false => rw [if_neg (by decide)]; exact ⟨false, rfl, by simp; intro h; have := hb.2 h; rw [hb1] at this; cases this⟩
    | true =>
      have hP := hb.1 hb1
      have h2 := hP.two
      rw [if_pos rfl, wr _ (by omega)]
      refine ⟨_, rfl, ?_⟩
      rw [beq_iff_eq]
      exact ⟨fun h => ⟨hP, by omega, fun x hx => (hall x hx).1, fun x hx => (hall x hx).2⟩, fun h => by have := h.2.1; omega⟩
  | succ d ih =>
    intro k i hi hj hk
    obtain ⟨k, rfl⟩ : ∃ m, k = m + 1 := ⟨k - 1, by omega⟩
    simp only [spec_dnList.l0]
    have hm := nr_mem v i (by omega)
    rw [if_pos (by omega), if_pos (by omega), if_pos (by omega), rd_nr, raGood_eq _ _ k (by omega), Option.bind_some]
    by_cases h : OkR (nr v i).f0 (nr v i).f1
    · rw [if_pos (decide_eq_true h)]
      by_cases h0 : (nr v i).f0 < 0
      · rw [if_pos h0]
        exact ⟨false, rfl, (fun h => by cases h), (fun hh => absurd (hh.2.2.2 _ hm) (by omega))⟩
      · rw [if_neg h0, wr _ (by omega), show (i : Int) + 1 = ((i + 1 : Nat) : Int) by omega]
        refine ih k (i + 1) (by omega) (fun j hj2 => ?_) (by omega)
        by_cases e : j = i
        · subst e; exact ⟨h, by omega⟩
        · exact hj j (by omega)
    · rw [if_neg (by simpa using h)]
      exact ⟨false, rfl, (fun h => by cases h), (fun hh => absurd (hh.2.2.1 _ hm) h)⟩
theorem dnIs_ex (p v : List Ra) (hp : p.length ≤ 1048576) (hv : v.length ≤ 1048576) (k : Nat) (hk : 1060000 ≤ k) : ∃ b, spec_dnIs.f k p v = some b ∧ (b = true ↔ Told p v) := by
  unfold spec_dnIs.f spec_dnList.f
  obtain ⟨b, e, hb⟩ := dnList_l p v hp hv v.length k 0 (by omega) (fun j hj => by omega) (by omega)
  rw [show ((0 : Nat) : Int) = 0 from rfl] at e
  rw [e, Option.bind_some]
  cases hb1 : b with
  | false =>
    rw [if_neg (by decide)]
    exact ⟨false, rfl, by simp; intro h; have := hb.2 ⟨h.part, h.len, h.oks, h.nn⟩; rw [hb1] at this; cases this⟩
  | true =>
    obtain ⟨hP, hlen, hok, hnn⟩ := hb.1 hb1
    have h2 := hP.two
    have h9 := hP.most
    rw [if_pos rfl]
    unfold spec_dnGood.f spec_raInt.f
    rw [spec_widths_eq p hP.oks h2 (by omega) k (by omega), Option.bind_some]
    cases hw : widthsO p with
    | none =>
      rw [show retB none = ([], false) from rfl, if_neg (show ¬ (([], false) : List Ra × Bool).2 = true by decide)]
      refine ⟨false, rfl, by simp; intro h; obtain ⟨w, h3, _⟩ := h.sum; rw [hw] at h3; cases h3⟩
    | some w =>
      have hwl := widths_len hw
      rw [show retB (some w) = (w, true) from rfl, if_pos (show ((w, true) : List Ra × Bool).2 = true from rfl), spec_sum_eq v w hok (widths_ok hw) (by omega) (by omega) k (by omega), Option.bind_some]
      cases hsum : sumO v w v.length 0 ⟨0, 1⟩ with
      | none =>
        rw [show retS none = (0, 0, false) from rfl, if_neg (show ¬ ((0, 0, false) : Tri).2.2 = true by decide)]
        refine ⟨false, rfl, by simp; intro h; obtain ⟨w, h3, h4⟩ := h.sum; rw [hw] at h3; cases h3; rw [hsum] at h4; cases h4⟩
      | some z =>
        rw [show retS (some z) = (z.f0, z.f1, true) from rfl, if_pos (show ((z.f0, z.f1, true) : Tri).2.2 = true from rfl), Option.bind_some, Option.bind_some]
        by_cases h1 : z.f0 = 1 ∧ z.f1 = 1
        · have hz : z = ⟨1, 1⟩ := ra_one h1
          subst hz
          exact ⟨true, rfl, fun _ => ⟨hP, hlen, hok, hnn, w, hw, hsum⟩, fun _ => rfl⟩
        · rw [if_neg (by simp only [Bool.and_eq_true, beq_iff_eq]; exact h1)]
          refine ⟨false, rfl, by simp; intro h; obtain ⟨w, h3, h4⟩ := h.sum; rw [hw] at h3; cases h3; rw [hsum] at h4; cases h4; exact h1 ⟨rfl, rfl⟩⟩
noncomputable def toldB (p v : List Ra) : Bool := @decide (Told p v) (Classical.propDecidable _)
theorem toldB_iff (p v : List Ra) : toldB p v = true ↔ Told p v := by
  unfold toldB
  exact @decide_eq_true_iff _ (Classical.propDecidable _)
theorem isTold_eq (p v : List Ra) (hp : p.length ≤ 1048576) (hv : v.length ≤ 1048576) (k : Nat) (hk : 1060000 ≤ k) : impl_isTold.f k p v = some (toldB p v) := by
  obtain ⟨b, e, h⟩ := isTold_ex p v hp hv k (by omega)
  rw [e]
  congr 1
  rw [Bool.eq_iff_iff, h, toldB_iff]
theorem dnIs_eq (p v : List Ra) (hp : p.length ≤ 1048576) (hv : v.length ≤ 1048576) (k : Nat) (hk : 1060000 ≤ k) : spec_dnIs.f k p v = some (toldB p v) := by
  obtain ⟨b, e, h⟩ := dnIs_ex p v hp hv k (by omega)
  rw [e]
  congr 1
  rw [Bool.eq_iff_iff, h, toldB_iff]
end Go.Proofs.Ytgejkhbehoabdaa.Pu
set_option linter.unusedVariables false
set_option linter.unusedSimpArgs false
namespace Go.Proofs.Ytgejkhbehoabdaa.Pure
open Go.RowKit Go.Proofs.Ytgejkhbehoabdaa.Q Go.Proofs.Ytgejkhbehoabdaa.Pu Go.Proofs.YtgejkhbehoabdaaW.PrintWords Go.Proofs.YtgejkhbehoabdaaW.PrintLast Go.Proofs.YtgejkhbehoabdaaW.PrintMore
theorem mk_neg (n d : Int) : mk (-n) d = if (mk n d).2.2 = true then (-(mk n d).1, (mk n d).2.1, true) else (0, 0, false) := by
  have hs : sg (-n) d = sg n d := by unfold sg; rw [Int.neg_gcd]
  unfold mk
  rw [hs, Int.neg_tdiv]
  by_cases h : OkR (n.tdiv (sg n d)) (d.tdiv (sg n d))
  · rw [if_pos h, if_pos (negated_ok h), if_pos (by rfl)]
  · rw [if_neg h, if_neg (fun h2 => h (by have := negated_ok h2; rwa [Int.neg_neg] at this)), if_neg (by decide)]
theorem mk_nonneg {n d : Int} (hn : 0 ≤ n) (hd : 0 < d) : 0 ≤ (mk n d).1 := by
  have hs : 0 ≤ sg n d := by unfold sg; rw [if_neg (by omega)]; omega
  unfold mk
  split
  · exact Int.tdiv_nonneg hn hs
  · exact Int.le_refl 0
theorem ds_abs {a b c d : Int} (h1 : OkR a b) (h2 : OkR c d) : (dsT a b c d).2.2 = (subT a b c d).2.2 ∧ ((subT a b c d).2.2 = true → (dsT a b c d).1 = ((subT a b c d).1.natAbs : Int) ∧ (dsT a b c d).2.1 = (subT a b c d).2.1) := by
  have hbd : 0 < b * d := Int.mul_pos (by have := h1.1; omega) (by have := h2.1; omega)
  unfold dsT
  by_cases h : a * d < c * b
  · rw [if_pos h]
    have e : subT a b c d = mk (-(c * b - a * d)) (d * b) := by unfold subT; rw [Int.neg_sub, Int.mul_comm d b]
    have hn : 0 ≤ (mk (c * b - a * d) (d * b)).1 := mk_nonneg (by omega) (by rw [Int.mul_comm]; exact hbd)
    rw [e, mk_neg, show subT c d a b = mk (c * b - a * d) (d * b) from rfl]
    generalize mk (c * b - a * d) (d * b) = M at *
    cases hM : M.2.2 with
    | true => rw [if_pos rfl]; exact ⟨rfl, fun _ => ⟨by show M.1 = ((-M.1).natAbs : Int); omega, rfl⟩⟩
    | false => rw [if_neg (by decide)]; exact ⟨rfl, fun h => by cases h⟩
  · rw [if_neg h]
    have hn : 0 ≤ (subT a b c d).1 := mk_nonneg (show 0 ≤ a * d - c * b by omega) hbd
    exact ⟨rfl, fun _ => ⟨by omega, rfl⟩⟩
def dT (a b : List Ra) (i : Nat) : Tri := dsT (nr a i).f0 (nr a i).f1 (nr b i).f0 (nr b i).f1
def distO (a b : List Ra) : Option (List Ra) := buildO (dT a b) a.length 0 []
noncomputable def ddR (p a b : List Ra) : Tri :=
  if toldB p a = true ∧ toldB p b = true then
    match distO a b with
    | none => (0, 0, false)
    | some o => match widthsO p with
      | none => (0, 0, false)
      | some w => retS (sumO o w o.length 0 ⟨0, 1⟩)
  else (0, 0, false)
def tailF (p : List Ra) (k : Nat) (o : List Ra) (t : Bool) : Option Tri :=
  (impl_calc_widths.f k t p).bind fun q => (impl_calc_scalar.f k q.2 o q.1).bind fun s => (impl_calc_finished.f s.2.2 s.1 s.2.1).bind fun r => some (r.1, r.2.1, r.2.2.1)
theorem impl_dd_l (p a b : List Ra) (ha : Oks a) (hb : Oks b) (hlen : a.length ≤ b.length) (h9 : a.length ≤ 1000) : ∀ (d k i : Nat) (out : List Ra) (s : Bool), i + d = a.length → out.length = i → Oks out → 4000 + d < k →
    ∃ o t k', impl_DensityDistance.l0 k p a b out (a.length : Int) (i : Int) s = tailF p k' o t ∧ Flag s o t (buildO (dT a b) d i out) a.length ∧ 3000 ≤ k' := by
  intro d
  induction d with
  | zero =>
    intro k i out s hi ho hx hk
    obtain ⟨k, rfl⟩ : ∃ m, k = m + 1 := ⟨k - 1, by omega⟩
    simp only [impl_DensityDistance.l0]
    rw [if_neg (by omega)]
    refine ⟨out, s, k, rfl, ?_, by omega⟩
    have := flag_end s out hx
    rw [show out.length = a.length by omega] at this
    exact this
  | succ d ih =>
    intro k i out s hi ho hx hk
    obtain ⟨k, rfl⟩ : ∃ m, k = m + 1 := ⟨k - 1, by omega⟩
    simp only [impl_DensityDistance.l0]
    have e1 := ha _ (nr_mem a i (by omega))
    have e2 := hb _ (nr_mem b i (by omega))
    rw [if_pos (by omega), if_pos (by omega), if_pos (by omega), if_pos (by omega), rd_nr, rd_nr, distance_eq e1 e2 s k (by omega), Option.bind_some, if_pos (by omega), wr _ (by omega), show (i : Int) + 1 = ((i + 1 : Nat) : Int) by omega]
    have ed : (if (nr a i).f0 * (nr b i).f1 < (nr b i).f0 * (nr a i).f1 then subT (nr b i).f0 (nr b i).f1 (nr a i).f0 (nr a i).f1 else subT (nr a i).f0 (nr a i).f1 (nr b i).f0 (nr b i).f1) = dT a b i := rfl
    rw [ed]
    have hk2 : OkR (kp s (dT a b i)).1 (kp s (dT a b i)).2.1 := kp_ok (dsT_ok _ _ _ _)
    obtain ⟨o, t, k', e, hf, hk'⟩ := ih k (i + 1) (out ++ [⟨(kp s (dT a b i)).1, (kp s (dT a b i)).2.1⟩]) (kp s (dT a b i)).2.2 (by omega) (by simp; omega) (out_ok hx hk2) (by omega)
    exact ⟨o, t, k', e, flag_step hf, hk'⟩
theorem impl_eq (p a b : List Ra) (hp : p.length ≤ 1048576) (ha : a.length ≤ 1048576) (hb : b.length ≤ 1048576) (k : Nat) (hk : 2000000 ≤ k) : impl_DensityDistance.f k p a b = some (ddR p a b) := by
  unfold impl_DensityDistance.f ddR
  obtain ⟨k, rfl⟩ : ∃ m, k = m + 1 := ⟨k - 1, by omega⟩
  rw [isTold_eq p a hp ha (k + 1) (by omega), Option.bind_some]
  cases h1 : toldB p a with
  | false =>
    rw [if_neg (by decide), if_neg (fun h => by cases h.1)]
    simp only [impl_DensityDistance.j0, if_true]
  | true =>
    rw [if_pos rfl, isTold_eq p b hp hb (k + 1) (by omega), Option.bind_some]
    simp only [impl_DensityDistance.j0]
    cases h2 : toldB p b with
    | false => rw [Bool.not_false, if_pos (by rfl), if_neg (fun h => by cases h.2)]
    | true =>
      have hA := (toldB_iff p a).1 h1
      have hB := (toldB_iff p b).1 h2
      have q2 := hA.part.two
      have q9 := hA.part.most
      have l1 := hA.len
      have l2 := hB.len
      rw [Bool.not_true, if_neg (by decide), if_pos (by refine ⟨?_, ?_⟩ <;> first | rfl | trivial)]
      obtain ⟨o, t, k', e, hf, hk'⟩ := impl_dd_l p a b hA.oks hB.oks (by omega) (by omega) a.length k 0 [] false (by omega) rfl (fun x hx => by cases hx) (by omega)
      rw [show ((0 : Nat) : Int) = 0 from rfl] at e
      rw [e]
      have hd : distO a b = buildO (dT a b) a.length 0 [] := rfl
      rw [← hd] at hf
      unfold tailF
      obtain ⟨w, t2, e2, hf2⟩ := impl_widths_eq p hA.part.oks q2 (by omega) t k' (by omega)
      rw [e2, Option.bind_some]
      obtain ⟨s, e3, hs1, hs2⟩ := impl_sum_eq o w hf.ok hf2.ok (by have := hf.len; have := hf2.len; omega) (by have := hf.len; omega) t2 k' (by omega)
      rw [e3, Option.bind_some]
      unfold impl_calc_finished.f
      cases hdo : distO a b with
      | none =>
        have ht : t = true := by rw [hf.none rfl, hdo]; rfl
        rw [hs1 (hf2.bad ht), if_pos rfl]
        rfl
      | some z =>
        have ht : t = false := by rw [hf.none rfl, hdo]; rfl
        have ho : o = z := hf.val rfl z hdo
        subst ho
        cases hw : widthsO p with
        | none =>
          have ht2 : t2 = true := by rw [hf2.none ht, hw]; rfl
          rw [hs1 ht2, if_pos rfl]
          rfl
        | some y =>
          have ht2 : t2 = false := by rw [hf2.none ht, hw]; rfl
          have hy : w = y := hf2.val ht y hw
          subst hy
          obtain ⟨hs3, hs4⟩ := hs2 ht2
          cases hsum : sumO o w o.length 0 ⟨0, 1⟩ with
          | none =>
            rw [hsum] at hs3
            have hs5 : s.2.2 = true := hs3
            rw [hs5, if_pos rfl]
            simp only [hsum]
            rfl
          | some x =>
            rw [hsum] at hs3
            have hs5 : s.2.2 = false := hs3
            obtain ⟨y1, y2⟩ := hs4 x hsum
            rw [hs5, if_neg (by decide), y1, y2]
            simp only [hsum]
            rfl
theorem spec_dd_l (a b w : List Ra) (ha : Oks a) (hb : Oks b) (hw : Oks w) (hlen : a.length ≤ b.length) (hl2 : a.length ≤ w.length) (h9 : a.length ≤ 1000) : ∀ (d k i : Nat) (out : List Ra), i + d = a.length → out.length = i → Oks out → 4000 + d < k →
    spec_DensityDistance.l0 k a b w out (a.length : Int) (i : Int) = some (match buildO (dT a b) d i out with | none => (0, 0, false) | some o => retS (sumO o w o.length 0 ⟨0, 1⟩)) := by
  intro d
  induction d with
  | zero =>
    intro k i out hi ho hx hk
    obtain ⟨k, rfl⟩ : ∃ m, k = m + 1 := ⟨k - 1, by omega⟩
    simp only [spec_DensityDistance.l0]
    rw [if_neg (by omega), spec_sum_eq out w hx hw (by omega) (by omega) k (by omega)]
    rfl
  | succ d ih =>
    intro k i out hi ho hx hk
    obtain ⟨k, rfl⟩ : ∃ m, k = m + 1 := ⟨k - 1, by omega⟩
    simp only [spec_DensityDistance.l0]
    have e1 := ha _ (nr_mem a i (by omega))
    have e2 := hb _ (nr_mem b i (by omega))
    rw [if_pos (by omega), if_pos (by omega), if_pos (by omega), if_pos (by omega), rd_nr, rd_nr, raSub_eq e1 e2 k (by omega), Option.bind_some]
    obtain ⟨g1, g2⟩ := ds_abs e1 e2
    have hso := subT_ok (nr a i).f0 (nr a i).f1 (nr b i).f0 (nr b i).f1
    have hdo := dsT_ok (nr a i).f0 (nr a i).f1 (nr b i).f0 (nr b i).f1
    unfold buildO
    rw [show dT a b i = dsT (nr a i).f0 (nr a i).f1 (nr b i).f0 (nr b i).f1 from rfl, g1]
    cases hS : (subT (nr a i).f0 (nr a i).f1 (nr b i).f0 (nr b i).f1).2.2 with
    | false => rw [if_neg (by decide), if_neg (by decide)]
    | true =>
      obtain ⟨g3, g4⟩ := g2 hS
      have hbd := (hso hS).bd.1
      rw [if_pos rfl, if_pos rfl, l1Abs_eq _ (by omega), Option.bind_some, if_pos (by omega), wr _ (by omega), show (i : Int) + 1 = ((i + 1 : Nat) : Int) by omega, ← g3, ← g4]
      exact ih k (i + 1) _ (by omega) (by simp; omega) (out_ok hx (hdo (by rw [g1]; exact hS))) (by omega)
theorem spec_eq (p a b : List Ra) (hp : p.length ≤ 1048576) (ha : a.length ≤ 1048576) (hb : b.length ≤ 1048576) (k : Nat) (hk : 2000000 ≤ k) : spec_DensityDistance.f k p a b = some (ddR p a b) := by
  unfold spec_DensityDistance.f ddR
  obtain ⟨k, rfl⟩ : ∃ m, k = m + 1 := ⟨k - 1, by omega⟩
  rw [dnIs_eq p a hp ha (k + 1) (by omega), Option.bind_some]
  cases h1 : toldB p a with
  | false =>
    rw [if_neg (by decide), if_neg (fun h => by cases h.1)]
    simp only [spec_DensityDistance.j0, if_true]
  | true =>
    rw [if_pos rfl, dnIs_eq p b hp hb (k + 1) (by omega), Option.bind_some]
    simp only [spec_DensityDistance.j0]
    cases h2 : toldB p b with
    | false => rw [Bool.not_false, if_pos (by rfl), if_neg (fun h => by cases h.2)]
    | true =>
      have hA := (toldB_iff p a).1 h1
      have hB := (toldB_iff p b).1 h2
      have q2 := hA.part.two
      have q9 := hA.part.most
      have l1 := hA.len
      have l2 := hB.len
      obtain ⟨w, hw, _⟩ := hA.sum
      have hwl := widths_len hw
      rw [Bool.not_true, if_neg (by decide), if_pos (by refine ⟨?_, ?_⟩ <;> first | rfl | trivial), spec_widths_eq p hA.part.oks q2 (by omega) k (by omega), Option.bind_some, hw, show retB (some w) = (w, true) from rfl, if_pos (show ((w, true) : List Ra × Bool).2 = true from rfl)]
      have e := spec_dd_l a b w hA.oks hB.oks (widths_ok hw) (by omega) (by omega) (by omega) a.length k 0 [] (by omega) rfl (fun x hx => by cases hx) (by omega)
      rw [show ((0 : Nat) : Int) = 0 from rfl] at e
      exact e
theorem FnExactDensityDistance : laws_FnExactDensityDistance.Pure := by
  intro l0 l1 l2 _ _ _ _ _ _
  refine ⟨4000005, ?_⟩
  unfold laws_FnExactDensityDistance.f laws_szRatS.f
  have hm0 : (maxLen : Nat) ≤ 9223372036854775807 := by decide
  by_cases hb : (wrap64 (1048576 - (l0.length : Int))) < 0
  · rw [if_pos hb]; rfl
  · rw [if_neg hb]
    have hl0 : l0.length ≤ 1048576 := by rw [wr _ (by omega)] at hb; omega
    simp only [Option.bind_some]
    rw [if_neg hb, wr (1048576 - _) (by omega)]
    by_cases hc : (wrap64 (1048576 - (l0.length : Int) - (l1.length : Int))) < 0
    · rw [if_pos hc]; rfl
    · rw [if_neg hc]
      have hl1 : l1.length ≤ 1048576 := by rw [wr _ (by omega)] at hc; omega
      have hl01 : l0.length + l1.length ≤ 1048576 := by rw [wr _ (by omega)] at hc; omega
      simp only [Option.bind_some]
      rw [if_neg hc, wr (1048576 - _ - _) (by omega)]
      by_cases hd : (wrap64 (1048576 - (l0.length : Int) - (l1.length : Int) - (l2.length : Int))) < 0
      · rw [if_pos hd]; rfl
      · rw [if_neg hd]
        have hl2 : l2.length ≤ 1048576 := by rw [wr _ (by omega)] at hd; omega
        simp only [Option.bind_some]
        rw [if_neg hd, toRatS l0 hl0 _ (by omega), toRatS l1 hl1 _ (by omega), toRatS l2 hl2 _ (by omega)]
        simp only [Option.bind_some]
        have hr0 : (l0.map cvRat).length ≤ 1048576 := by simpa using hl0
        have hr1 : (l1.map cvRat).length ≤ 1048576 := by simpa using hl1
        have hr2 : (l2.map cvRat).length ≤ 1048576 := by simpa using hl2
        generalize hR0 : l0.map cvRat = R0 at hr0
        generalize hR1 : l1.map cvRat = R1 at hr1
        generalize hR2 : l2.map cvRat = R2 at hr2
        rw [spec_eq R0 R1 R2 hr0 hr1 hr2 _ (by omega), impl_eq R0 R1 R2 hr0 hr1 hr2 _ (by omega)]
        generalize ddR R0 R1 R2 = v
        simp only [Option.bind_some]
        rw [eqRat_self ⟨v.1, v.2.1⟩]
        simp only [Option.bind_some, if_true, bne_self_eq_false, laws_FnExactDensityDistance.j0]
        rw [if_neg (by decide), toRatS l0 hl0 _ (by omega), hR0]
        simp only [Option.bind_some]
        rw [eqRatS_self R0 (by omega) _ (by omega)]
        simp only [Option.bind_some, if_true]
        rw [toRatS l1 hl1 _ (by omega), hR1]
        simp only [Option.bind_some]
        rw [eqRatS_self R1 (by omega) _ (by omega)]
        simp only [Option.bind_some, if_true]
        rw [toRatS l2 hl2 _ (by omega), hR2]
        simp only [Option.bind_some]
        rw [eqRatS_self R2 (by omega) _ (by omega)]
        simp only [Option.bind_some, if_true]
end Go.Proofs.Ytgejkhbehoabdaa.Pure

-- Laid by wip/tools/lay.py (a program of this session) over the kit's print.py and hand-proved contracts.
import Derived.Test.YtgdglnpgfngdoaaQx0
import Derived.Test.YtgdglnpgfngdoaaQx10
namespace Go.Proofs.Ytgdglnpgfngdoaa.Q
open Go.RowKit Go.Proofs.YtgdglnpgfngdoaaW.PrintWords Go.Proofs.YtgdglnpgfngdoaaW.PrintLast Go.Proofs.YtgdglnpgfngdoaaW.PrintMore
attribute [local go_sem] max2_int min2_int max_two min_two max_three min_three max_four min_four   -- for this text's walks alone
set_option linter.unusedVariables false
set_option linter.unusedSimpArgs false

/-! ### impl_moebius: function 95 -/
def impl_moebius.l0 : Nat → Int → Int → Int → Option (Int)
  | 0, _, _, _ => none
  | k + 1, x0, x3, x4 => if x4 ≤ x0 then (if x4 = 0 then (none) else (if (Int.tmod x0 x4) = 0 then (if (Int.tmod (wrap64 (Int.tdiv x0 x4)) x4) = 0 then (some 0) else (impl_moebius.l0 k (wrap64 (Int.tdiv x0 x4)) (wrap64 (-x3)) (wrap64 (x4 + 1)))) else (impl_moebius.l0 k x0 x3 (wrap64 (x4 + 1))))) else (some x3)
def impl_moebius.f (k : Nat) (a0 : Int) : Option (Int) := impl_moebius.l0 k a0 1 2
theorem impl_moebius.mono_l : ∀ k, (∀ y0 y1 y2, LeO (impl_moebius.l0 k y0 y1 y2) (impl_moebius.l0 (k + 1) y0 y1 y2))
  | 0 => fun _ _ _ r h => by simp [impl_moebius.l0] at h
  | k + 1 => by
    have ih0 := impl_moebius.mono_l k
    · intro y0 y1 y2
      unfold impl_moebius.l0
      repeat' first
      | (with_reducible exact ih0 _ _ _)
      | (with_reducible exact LeO.refl _)
      | (with_reducible exact LeO.none _)
      | (with_reducible refine LeO.ite ?_ ?_)
      | (with_reducible refine LeO.bind ?_ (fun _ => ?_))
      | exact ih0 _ _ _
      | exact LeO.none _
      | refine LeO.ite ?_ ?_
      | refine LeO.bind ?_ (fun _ => ?_)
theorem impl_moebius.mono : ∀ a0 k, LeO (impl_moebius.f k a0) (impl_moebius.f (k + 1) a0) := by
  intro a0 k
  have ih0 := impl_moebius.mono_l k
  unfold impl_moebius.f
  repeat' first
      | (with_reducible exact ih0 _ _ _)
      | (with_reducible exact LeO.refl _)
      | (with_reducible exact LeO.none _)
      | (with_reducible refine LeO.ite ?_ ?_)
      | (with_reducible refine LeO.bind ?_ (fun _ => ?_))
      | exact ih0 _ _ _
      | exact LeO.none _
      | refine LeO.ite ?_ ?_
      | refine LeO.bind ?_ (fun _ => ?_)
set_option maxHeartbeats 8000000 in
set_option maxRecDepth 100000 in
theorem impl_moebius.calls (k : Nat) (a0 : Int) (r : Int) (w : World) (h : impl_moebius.f k a0 = some r) :
    Calls Try.prog 95 #[.int .i64 a0] w fun e w' => e = .returned (.int .i64 r) ∧ Drawn0 w w' := by
  have H : (impl_moebius.l0 k a0 1 2) = some r := h
  clear h
  have H' := Aside0.mk H
  clear H
  go_enter Try.func95, Try.ntmps95
  go_wp2
  go_loopg [0, 3, 4] k (fun kq v0 v3 v4 w' => ∃ (x0_1 : Int) (x3_1 : Int) (x4_1 : Int), v0 = .int .i64 x0_1 ∧ v3 = .int .i64 x3_1 ∧ v4 = .int .i64 x4_1 ∧ Aside0 (impl_moebius.l0 kq x0_1 x3_1 x4_1 = some r) ∧ Aside0 (kq ≤ k) ∧ Drawn0 w w')
  case atStart => exact ⟨(a0), (1), (2), (by first | rfl | (simp; done) | (simp [*]; done)), (by first | rfl | (simp; done) | (simp [*]; done)), (by first | rfl | (simp; done) | (simp [*]; done)), H', ⟨Nat.le_refl _⟩, by repeat (first | exact Drawn0.refl _ | apply Drawn0.step)⟩
  case round =>
    clear H'
    obtain ⟨x0_1, x3_1, x4_1, rfl, rfl, rfl, HA, HK1, ⟨m1, rfl⟩⟩ := hrel
    cases gk with
    | zero => exact absurd HA.out (by simp [impl_moebius.l0])
    | succ k1 =>
      have H := HA.out
      clear HA
      simp only [impl_moebius.l0] at H
      by_cases c2 : x4_1 ≤ x0_1
      · rw [if_pos c2] at H
        have c2b0 : decide (x4_1 ≤ x0_1) = true := decide_eq_true c2
        clear c2
        by_cases c3 : x4_1 = 0
        · rw [if_pos c3] at H
          exact absurd H (by simp)
        · rw [if_neg c3] at H
          have c3b0 : (x4_1 == 0) = false := beq_eq_false_iff_ne.mpr c3
          have c3b1 : (x4_1 != 0) = true := bne_iff_ne.mpr c3
          by_cases c4 : (Int.tmod x0_1 x4_1) = 0
          · rw [if_pos c4] at H
            have c4b0 : ((Int.tmod x0_1 x4_1) == 0) = true := beq_iff_eq.mpr c4
            (try (have c4b0t := c4b0; simp only [tdiv_len, tmod_len] at c4b0t))
            have c4b1 : ((Int.tmod x0_1 x4_1) != 0) = false := bne_eq_false_iff_eq.mpr c4
            (try (have c4b1t := c4b1; simp only [tdiv_len, tmod_len] at c4b1t))
            clear c4
            by_cases c5 : (Int.tmod (wrap64 (Int.tdiv x0_1 x4_1)) x4_1) = 0
            · rw [if_pos c5] at H
              have c5b0 : ((Int.tmod (wrap64 (Int.tdiv x0_1 x4_1)) x4_1) == 0) = true := beq_iff_eq.mpr c5
              (try (have c5b0t := c5b0; simp only [tdiv_len, tmod_len] at c5b0t))
              have c5b1 : ((Int.tmod (wrap64 (Int.tdiv x0_1 x4_1)) x4_1) != 0) = false := bne_eq_false_iff_eq.mpr c5
              (try (have c5b1t := c5b1; simp only [tdiv_len, tmod_len] at c5b1t))
              clear c5
              obtain rfl := Option.some.inj H
              go_wp2
              go_ret
              exact ⟨by first | rfl | (simp; done) | (simp [*]; done), by repeat (first | exact Drawn0.refl _ | apply Drawn0.step)⟩
            · rw [if_neg c5] at H
              have c5b0 : ((Int.tmod (wrap64 (Int.tdiv x0_1 x4_1)) x4_1) == 0) = false := beq_eq_false_iff_ne.mpr c5
              (try (have c5b0t := c5b0; simp only [tdiv_len, tmod_len] at c5b0t))
              have c5b1 : ((Int.tmod (wrap64 (Int.tdiv x0_1 x4_1)) x4_1) != 0) = true := bne_iff_ne.mpr c5
              (try (have c5b1t := c5b1; simp only [tdiv_len, tmod_len] at c5b1t))
              have H' := Aside0.mk H
              clear H
              go_wp2
              go_roundg k1
              case measure => have := HK1.out; omega
              case rel => exact ⟨(wrap64 (Int.tdiv x0_1 x4_1)), (wrap64 (-x3_1)), (wrap64 (x4_1 + 1)), (by first | rfl | (simp; done) | (simp [*]; done)), (by first | rfl | (simp; done) | (simp [*]; done)), (by first | rfl | (simp; done) | (simp [*]; done)), H', ⟨by have := HK1.out; omega⟩, by repeat (first | exact Drawn0.refl _ | apply Drawn0.step)⟩
          · rw [if_neg c4] at H
            have c4b0 : ((Int.tmod x0_1 x4_1) == 0) = false := beq_eq_false_iff_ne.mpr c4
            (try (have c4b0t := c4b0; simp only [tdiv_len, tmod_len] at c4b0t))
            have c4b1 : ((Int.tmod x0_1 x4_1) != 0) = true := bne_iff_ne.mpr c4
            (try (have c4b1t := c4b1; simp only [tdiv_len, tmod_len] at c4b1t))
            have H' := Aside0.mk H
            clear H
            go_wp2
            go_roundg k1
            case measure => have := HK1.out; omega
            case rel => exact ⟨(x0_1), (x3_1), (wrap64 (x4_1 + 1)), (by first | rfl | (simp; done) | (simp [*]; done)), (by first | rfl | (simp; done) | (simp [*]; done)), (by first | rfl | (simp; done) | (simp [*]; done)), H', ⟨by have := HK1.out; omega⟩, by repeat (first | exact Drawn0.refl _ | apply Drawn0.step)⟩
      · rw [if_neg c2] at H
        have c2b0 : decide (x4_1 ≤ x0_1) = false := decide_eq_false c2
        clear c2
        obtain rfl := Option.some.inj H
        go_wp2
        go_ret
        exact ⟨by first | rfl | (simp; done) | (simp [*]; done), by repeat (first | exact Drawn0.refl _ | apply Drawn0.step)⟩

/-! ### impl_loopCount: function 74 -/
mutual
def impl_loopCount.l0 : Nat → List (List Int) → Int → Int → Int → Option (Int)
  | 0, _, _, _, _ => none
  | k + 1, x0, x1, x5, x6 => if x6 ≤ x1 then (if x6 = 0 then (none) else (if (Int.tmod x1 x6) = 0 then ((impl_powerUpTo.f k x0 x6 1000000000000000000).bind fun t189 => (impl_loopCount.l1 k x0 x1 x5 x6 t189 (t189.length : Int) 0)) else (impl_loopCount.l0 k x0 x1 x5 (wrap64 (x6 + 1))))) else (if x1 = 0 then (none) else (some (wrap64 (Int.tdiv x5 x1))))
def impl_loopCount.l1 : Nat → List (List Int) → Int → Int → Int → List (List Int) → Int → Int → Option (Int)
  | 0, _, _, _, _, _, _, _ => none
  | k + 1, x0, x1, x5, x6, x20, x21, x22 => if x22 < x21 then (if 0 ≤ x22 then (if x22 < (x20.length : Int) then (if x6 = 0 then (none) else ((impl_moebius.f k (wrap64 (Int.tdiv x1 x6))).bind fun t193 => (if x22 < ((rd_L1 x20 x22).length : Int) then (impl_loopCount.l1 k x0 x1 (wrap64 (x5 + (wrap64 (t193 * (rd (rd_L1 x20 x22) x22))))) x6 x20 x21 (wrap64 (x22 + 1))) else (none)))) else (none)) else (none)) else (impl_loopCount.l0 k x0 x1 x5 (wrap64 (x6 + 1)))
end
def impl_loopCount.f (k : Nat) (l0 : List (List Int)) (a1 : Int) : Option (Int) := impl_loopCount.l0 k l0 a1 0 1
theorem impl_loopCount.mono_l : ∀ k, (∀ y0 y1 y2 y3, LeO (impl_loopCount.l0 k y0 y1 y2 y3) (impl_loopCount.l0 (k + 1) y0 y1 y2 y3)) ∧ (∀ y0 y1 y2 y3 y4 y5 y6, LeO (impl_loopCount.l1 k y0 y1 y2 y3 y4 y5 y6) (impl_loopCount.l1 (k + 1) y0 y1 y2 y3 y4 y5 y6))
  | 0 => ⟨fun _ _ _ _ r h => by simp [impl_loopCount.l0] at h, fun _ _ _ _ _ _ _ r h => by simp [impl_loopCount.l1] at h⟩
  | k + 1 => by
    obtain ⟨ih0, ih1⟩ := impl_loopCount.mono_l k
    refine ⟨?_, ?_⟩
    · intro y0 y1 y2 y3
      unfold impl_loopCount.l0
      repeat' first
      | (with_reducible exact ih0 _ _ _ _)
      | (with_reducible exact ih1 _ _ _ _ _ _ _)
      | (with_reducible exact impl_moebius.mono _ _)
      | (with_reducible exact impl_powerUpTo.mono _ _ _ _)
      | (with_reducible exact LeO.refl _)
      | (with_reducible exact LeO.none _)
      | (with_reducible refine LeO.ite ?_ ?_)
      | (with_reducible refine LeO.bind ?_ (fun _ => ?_))
      | exact ih0 _ _ _ _
      | exact ih1 _ _ _ _ _ _ _
      | exact impl_moebius.mono _ _
      | exact impl_powerUpTo.mono _ _ _ _
      | exact LeO.none _
      | refine LeO.ite ?_ ?_
      | refine LeO.bind ?_ (fun _ => ?_)
    · intro y0 y1 y2 y3 y4 y5 y6
      unfold impl_loopCount.l1
      repeat' first
      | (with_reducible exact ih0 _ _ _ _)
      | (with_reducible exact ih1 _ _ _ _ _ _ _)
      | (with_reducible exact impl_moebius.mono _ _)
      | (with_reducible exact impl_powerUpTo.mono _ _ _ _)
      | (with_reducible exact LeO.refl _)
      | (with_reducible exact LeO.none _)
      | (with_reducible refine LeO.ite ?_ ?_)
      | (with_reducible refine LeO.bind ?_ (fun _ => ?_))
      | exact ih0 _ _ _ _
      | exact ih1 _ _ _ _ _ _ _
      | exact impl_moebius.mono _ _
      | exact impl_powerUpTo.mono _ _ _ _
      | exact LeO.none _
      | refine LeO.ite ?_ ?_
      | refine LeO.bind ?_ (fun _ => ?_)
theorem impl_loopCount.mono : ∀ a0 a1 k, LeO (impl_loopCount.f k a0 a1) (impl_loopCount.f (k + 1) a0 a1) := by
  intro a0 a1 k
  obtain ⟨ih0, ih1⟩ := impl_loopCount.mono_l k
  unfold impl_loopCount.f
  repeat' first
      | (with_reducible exact ih0 _ _ _ _)
      | (with_reducible exact ih1 _ _ _ _ _ _ _)
      | (with_reducible exact impl_moebius.mono _ _)
      | (with_reducible exact impl_powerUpTo.mono _ _ _ _)
      | (with_reducible exact LeO.refl _)
      | (with_reducible exact LeO.none _)
      | (with_reducible refine LeO.ite ?_ ?_)
      | (with_reducible refine LeO.bind ?_ (fun _ => ?_))
      | exact ih0 _ _ _ _
      | exact ih1 _ _ _ _ _ _ _
      | exact impl_moebius.mono _ _
      | exact impl_powerUpTo.mono _ _ _ _
      | exact LeO.none _
      | refine LeO.ite ?_ ?_
      | refine LeO.bind ?_ (fun _ => ?_)
set_option maxHeartbeats 8000000 in
set_option maxRecDepth 100000 in
theorem impl_loopCount.calls (k : Nat) (A0 : Option Addr) (c0 : Nat) (l0 : List (List Int)) (a1 : Int) (r : Int) (w : World) (hr0 : Kd.C (Kd.slice 3 (Kd.int .i64)) w A0 l0.length l0) (hc0 : l0.length ≤ c0) (h : impl_loopCount.f k l0 a1 = some r) :
    Calls Try.prog 74 #[.slice A0 l0.length c0, .int .i64 a1] w fun e w' => e = .returned (.int .i64 r) ∧ Below w.heap.size w w' := by
  have HR0 := Aside0.mk hr0
  have HC0 := Aside0.mk hc0
  clear hr0 hc0
  have HB := Aside0.mk (Below.refl w.heap.size w)
  have H : (impl_loopCount.l0 k l0 a1 0 1) = some r := h
  clear h
  have H' := Aside0.mk H
  clear H
  go_enter Try.func74, Try.ntmps74
  go_wp2
  repeat (go_quiet (fail); try go_wp2)
  go_loopg [5, 6] k (fun kq v5 v6 w' => ∃ (x5_1 : Int) (x6_1 : Int), v5 = .int .i64 x5_1 ∧ v6 = .int .i64 x6_1 ∧ Aside0 (impl_loopCount.l0 kq l0 a1 x5_1 x6_1 = some r) ∧ Aside0 (kq ≤ k) ∧ Aside0 (Below w.heap.size w w'))
  case atStart => exact ⟨(0), (1), (by first | rfl | (simp; done) | (simp [*]; done)), (by first | rfl | (simp; done) | (simp [*]; done)), H', ⟨Nat.le_refl _⟩, ⟨by repeat (first | (with_reducible first | exact HB.out | apply below_alloc | apply pw_below_drewN | apply below_drew1) | exact HB.out)⟩⟩
  case round =>
    clear H'
    try clear p2
    obtain ⟨x5_1, x6_1, rfl, rfl, HA, HK1, HB⟩ := hrel
    cases gk with
    | zero => exact absurd HA.out (by simp [impl_loopCount.l0])
    | succ k1 =>
      have H := HA.out
      clear HA
      simp only [impl_loopCount.l0] at H
      by_cases c3 : x6_1 ≤ a1
      · rw [if_pos c3] at H
        have c3b0 : decide (x6_1 ≤ a1) = true := decide_eq_true c3
        clear c3
        by_cases c4 : x6_1 = 0
        · rw [if_pos c4] at H
          exact absurd H (by simp)
        · rw [if_neg c4] at H
          have c4b0 : (x6_1 == 0) = false := beq_eq_false_iff_ne.mpr c4
          have c4b1 : (x6_1 != 0) = true := bne_iff_ne.mpr c4
          by_cases c5 : (Int.tmod a1 x6_1) = 0
          · rw [if_pos c5] at H
            have c5b0 : ((Int.tmod a1 x6_1) == 0) = true := beq_iff_eq.mpr c5
            (try (have c5b0t := c5b0; simp only [tdiv_len, tmod_len] at c5b0t))
            have c5b1 : ((Int.tmod a1 x6_1) != 0) = false := bne_eq_false_iff_eq.mpr c5
            (try (have c5b1t := c5b1; simp only [tdiv_len, tmod_len] at c5b1t))
            clear c5
            replace H := Option.bind_eq_some_iff.mp H
            obtain ⟨t189, A60, H⟩ := H
            replace H : (impl_loopCount.l1 k1 l0 a1 x5_1 x6_1 t189 (t189.length : Int) 0) = some r := H
            have A6 := Aside0.mk A60
            clear A60
            have H' := Aside0.mk H
            clear H
            go_wp2_with (first | (go_at_call 94; (with_reducible refine (impl_powerUpTo.calls k1 _ _ l0 x6_1 1000000000000000000 t189 _ ?side1 ?side2 A6.out).mono ?_); (case side1 => repeat (first | exact (Kd.C_below HR0.out HB.out) | (with_reducible refine Kd.C_alloc ?_ _) | (with_reducible refine Kd.C_drewN ?_ _) | (with_reducible refine Kd.C_drew ?_))); (case side2 => exact HC0.out); rintro e w7 ⟨v190, rfl, ho0, hb⟩; have n0_ := Aside0.mk (Kd.S_lower ho0 (below_size (by repeat (first | (with_reducible first | exact HB.out | apply below_alloc | apply pw_below_drewN | apply below_drew1) | exact HB.out)))); have n1_ := Aside0.mk (below_step (by repeat (first | (with_reducible first | exact HB.out | apply below_alloc | apply pw_below_drewN | apply below_drew1) | exact HB.out)) hb); clear HB; have HO191 := n0_; have HB := n1_; clear n0_ n1_; (try clear hb); (try clear hb2); (try clear hk); (try clear hi); (try clear ho0); obtain ⟨Ao8, co8, eo8⟩ := Kd.S_slice HO191.out; subst eo8))
            repeat (go_quiet (first | (go_at_call 94; (with_reducible refine (impl_powerUpTo.calls k1 _ _ l0 x6_1 1000000000000000000 t189 _ ?side1 ?side2 A6.out).mono ?_); (case side1 => repeat (first | exact (Kd.C_below HR0.out HB.out) | (with_reducible refine Kd.C_alloc ?_ _) | (with_reducible refine Kd.C_drewN ?_ _) | (with_reducible refine Kd.C_drew ?_))); (case side2 => exact HC0.out); rintro e w7 ⟨v190, rfl, ho0, hb⟩; have n0_ := Aside0.mk (Kd.S_lower ho0 (below_size (by repeat (first | (with_reducible first | exact HB.out | apply below_alloc | apply pw_below_drewN | apply below_drew1) | exact HB.out)))); have n1_ := Aside0.mk (below_step (by repeat (first | (with_reducible first | exact HB.out | apply below_alloc | apply pw_below_drewN | apply below_drew1) | exact HB.out)) hb); clear HB; have HO191 := n0_; have HB := n1_; clear n0_ n1_; (try clear hb); (try clear hb2); (try clear hk); (try clear hi); (try clear ho0); obtain ⟨Ao8, co8, eo8⟩ := Kd.S_slice HO191.out; subst eo8)); try go_wp2_with (first | (go_at_call 94; (with_reducible refine (impl_powerUpTo.calls k1 _ _ l0 x6_1 1000000000000000000 t189 _ ?side1 ?side2 A6.out).mono ?_); (case side1 => repeat (first | exact (Kd.C_below HR0.out HB.out) | (with_reducible refine Kd.C_alloc ?_ _) | (with_reducible refine Kd.C_drewN ?_ _) | (with_reducible refine Kd.C_drew ?_))); (case side2 => exact HC0.out); rintro e w7 ⟨v190, rfl, ho0, hb⟩; have n0_ := Aside0.mk (Kd.S_lower ho0 (below_size (by repeat (first | (with_reducible first | exact HB.out | apply below_alloc | apply pw_below_drewN | apply below_drew1) | exact HB.out)))); have n1_ := Aside0.mk (below_step (by repeat (first | (with_reducible first | exact HB.out | apply below_alloc | apply pw_below_drewN | apply below_drew1) | exact HB.out)) hb); clear HB; have HO191 := n0_; have HB := n1_; clear n0_ n1_; (try clear hb); (try clear hb2); (try clear hk); (try clear hi); (try clear ho0); obtain ⟨Ao8, co8, eo8⟩ := Kd.S_slice HO191.out; subst eo8)))
            go_loopg [5, 22] k1 (fun kq v5 v22 w' => ∃ (x5_2 : Int) (x22_2 : Int), v5 = .int .i64 x5_2 ∧ v22 = .int .i64 x22_2 ∧ Aside0 (impl_loopCount.l1 kq l0 a1 x5_2 x6_1 t189 (t189.length : Int) x22_2 = some r) ∧ Aside0 (kq ≤ k1) ∧ Aside0 (Kd.S (Kd.slice 3 (Kd.int .i64)) 22 w' w.heap.size (fun _ => True) (.slice Ao8 t189.length co8) t189) ∧ Aside0 (Below w.heap.size w w'))
            case atStart => exact ⟨(x5_1), (0), (by first | rfl | (simp; done) | (simp [*]; done)), (by first | rfl | (simp; done) | (simp [*]; done)), H', ⟨Nat.le_refl _⟩, ⟨by (with_reducible repeat (first | apply Kd.S_alloc | apply Kd.S_drewN | apply Kd.S_drew)); exact HO191.out⟩, ⟨by repeat (first | (with_reducible first | exact HB.out | apply below_alloc | apply pw_below_drewN | apply below_drew1) | exact HB.out)⟩⟩
            case round =>
              clear H'
              try clear p2
              try clear c3
              try clear c3b0
              try clear c4
              try clear c4b0
              try clear c4b1
              try clear c5
              try clear c5b0
              try clear c5b1
              try clear c7
              try clear p2
              obtain ⟨x5_2, x22_2, rfl, rfl, HA, HK2, HO_20, HB⟩ := hrel
              cases gk with
              | zero => exact absurd HA.out (by simp [impl_loopCount.l1])
              | succ k2 =>
                have H := HA.out
                clear HA
                simp only [impl_loopCount.l1] at H
                by_cases c9 : x22_2 < (t189.length : Int)
                · rw [if_pos c9] at H
                  have c9b0 : decide (x22_2 < (t189.length : Int)) = true := decide_eq_true c9
                  clear c9
                  by_cases c10 : 0 ≤ x22_2
                  · rw [if_pos c10] at H
                    have c10b0 : decide (0 ≤ x22_2) = true := decide_eq_true c10
                    clear c10
                    by_cases c11 : x22_2 < (t189.length : Int)
                    · rw [if_pos c11] at H
                      have c11b0 : decide (x22_2 < (t189.length : Int)) = true := decide_eq_true c11
                      clear c11
                      by_cases c12 : x6_1 = 0
                      · rw [if_pos c12] at H
                        exact absurd H (by simp)
                      · rw [if_neg c12] at H
                        have c12b0 : (x6_1 == 0) = false := beq_eq_false_iff_ne.mpr c12
                        have c12b1 : (x6_1 != 0) = true := bne_iff_ne.mpr c12
                        replace H := Option.bind_eq_some_iff.mp H
                        obtain ⟨t193, A130, H⟩ := H
                        replace H : (if x22_2 < ((rd_L1 t189 x22_2).length : Int) then (impl_loopCount.l1 k2 l0 a1 (wrap64 (x5_2 + (wrap64 (t193 * (rd (rd_L1 t189 x22_2) x22_2))))) x6_1 t189 (t189.length : Int) (wrap64 (x22_2 + 1))) else (none)) = some r := H
                        have A13 := Aside0.mk A130
                        clear A130
                        by_cases c14 : x22_2 < ((rd_L1 t189 x22_2).length : Int)
                        · rw [if_pos c14] at H
                          have c14b0 : decide (x22_2 < ((rd_L1 t189 x22_2).length : Int)) = true := decide_eq_true c14
                          clear c14
                          have H' := Aside0.mk H
                          clear H
                          have p192 : 0 ≤ (x22_2 : Int) := of_decide_eq_true (by first | (with_reducible assumption) | assumption)
                          have q192 : x22_2 < (t189.length : Int) := of_decide_eq_true (by first | (with_reducible assumption) | assumption)
                          obtain ⟨ad192, A192_0, c192_0, e192, hx192_0, hl192_0, hi192_0⟩ := at_L1 (Kd.S_reads' HO_20.out).2.2 x22_2 p192 q192
                          cases e192
                          obtain ⟨ce192, hce192, hMe192, hcc192⟩ := Kd.S_get HO_20.out [] x22_2 p192 (by first | exact q192 | exact of_decide_eq_true (by first | (with_reducible assumption) | assumption) | (have e_ := (Kd.S_reads' HO_20.out).1; omega))
                          obtain ⟨ve192_0, rfl, ge192_0⟩ := hMe192
                          have hv192_0 := hcc192 0 _ rfl
                          rw [Nat.add_zero, show ((Kd.slice 3 (Kd.int .i64))).sz = 1 from rfl, Nat.mul_one] at hv192_0
                          replace hv192_0 := Option.some.inj (hv192_0.symm.trans hx192_0)
                          rw [hv192_0] at ge192_0
                          have HL192_0 := Aside0.mk (show Kd.R (Kd.int .i64) 3 _ _ _ _ (rd_L1 t189 x22_2) from ge192_0)
                          clear hv192_0 ge192_0
                          clear hcc192 hce192
                          have HR192_0 := Aside0.mk hi192_0
                          have HC192_0 := Aside0.mk hl192_0
                          clear hi192_0 hl192_0
                          replace p192 := eq_true p192
                          replace q192 := eq_true q192
                          go_wp2_with (first | (go_at_call 95; (with_reducible refine (impl_moebius.calls k2 (wrap64 (Int.tdiv a1 x6_1)) t193 _ A13.out).mono ?_); rintro e w' ⟨rfl, ⟨nd, rfl⟩⟩; (try first | exact ⟨rfl, _, World.drewN_drewN _ _ _⟩ | exact ⟨rfl, _, Eq.trans (World.drewN_drewN _ _ _) (congrArg (World.drewN _) (Nat.add_assoc _ _ _))⟩); have p194 : 0 ≤ (x22_2 : Int) := of_decide_eq_true (by first | (with_reducible assumption) | assumption); have q194 : x22_2 < ((rd_L1 t189 x22_2).length : Int) := of_decide_eq_true (by first | (with_reducible assumption) | assumption); obtain ⟨ad194, e194, hx194_0⟩ := Kd.at_int (by repeat (first | (with_reducible exact HR192_0.out) | (with_reducible refine Kd.C_alloc ?_ _) | (with_reducible refine Kd.C_drewN ?_ _) | (with_reducible refine Kd.C_drew ?_) | exact HR192_0.out)) x22_2 p194 q194; cases e194; replace p194 := eq_true p194; replace q194 := eq_true q194))
                          (try (have p194 : 0 ≤ (x22_2 : Int) := of_decide_eq_true (by first | (with_reducible assumption) | assumption); have q194 : x22_2 < ((rd_L1 t189 x22_2).length : Int) := of_decide_eq_true (by first | (with_reducible assumption) | assumption); obtain ⟨ad194, e194, hx194_0⟩ := Kd.at_int (by repeat (first | (with_reducible exact HR192_0.out) | (with_reducible refine Kd.C_alloc ?_ _) | (with_reducible refine Kd.C_drewN ?_ _) | (with_reducible refine Kd.C_drew ?_) | exact HR192_0.out)) x22_2 p194 q194; cases e194; replace p194 := eq_true p194; replace q194 := eq_true q194))
                          repeat (go_quiet (first | (go_at_call 95; (with_reducible refine (impl_moebius.calls k2 (wrap64 (Int.tdiv a1 x6_1)) t193 _ A13.out).mono ?_); rintro e w' ⟨rfl, ⟨nd, rfl⟩⟩; (first | exact ⟨rfl, _, World.drewN_drewN _ _ _⟩ | exact ⟨rfl, _, Eq.trans (World.drewN_drewN _ _ _) (congrArg (World.drewN _) (Nat.add_assoc _ _ _))⟩))); (try (have p194 : 0 ≤ (x22_2 : Int) := of_decide_eq_true (by first | (with_reducible assumption) | assumption); have q194 : x22_2 < ((rd_L1 t189 x22_2).length : Int) := of_decide_eq_true (by first | (with_reducible assumption) | assumption); obtain ⟨ad194, e194, hx194_0⟩ := Kd.at_int (by repeat (first | (with_reducible exact HR192_0.out) | (with_reducible refine Kd.C_alloc ?_ _) | (with_reducible refine Kd.C_drewN ?_ _) | (with_reducible refine Kd.C_drew ?_) | exact HR192_0.out)) x22_2 p194 q194; cases e194; replace p194 := eq_true p194; replace q194 := eq_true q194)); try go_wp2_with (first | (go_at_call 95; (with_reducible refine (impl_moebius.calls k2 (wrap64 (Int.tdiv a1 x6_1)) t193 _ A13.out).mono ?_); rintro e w' ⟨rfl, ⟨nd, rfl⟩⟩; (try first | exact ⟨rfl, _, World.drewN_drewN _ _ _⟩ | exact ⟨rfl, _, Eq.trans (World.drewN_drewN _ _ _) (congrArg (World.drewN _) (Nat.add_assoc _ _ _))⟩); have p194 : 0 ≤ (x22_2 : Int) := of_decide_eq_true (by first | (with_reducible assumption) | assumption); have q194 : x22_2 < ((rd_L1 t189 x22_2).length : Int) := of_decide_eq_true (by first | (with_reducible assumption) | assumption); obtain ⟨ad194, e194, hx194_0⟩ := Kd.at_int (by repeat (first | (with_reducible exact HR192_0.out) | (with_reducible refine Kd.C_alloc ?_ _) | (with_reducible refine Kd.C_drewN ?_ _) | (with_reducible refine Kd.C_drew ?_) | exact HR192_0.out)) x22_2 p194 q194; cases e194; replace p194 := eq_true p194; replace q194 := eq_true q194)))
                          go_roundg k2
                          case measure => have := HK1.out; have := HK2.out; omega
                          case rel => exact ⟨(wrap64 (x5_2 + (wrap64 (t193 * (rd (rd_L1 t189 x22_2) x22_2))))), (wrap64 (x22_2 + 1)), (by first | rfl | (simp; done) | (simp [*]; done)), (by first | rfl | (simp; done) | (simp [*]; done)), H', ⟨by have := HK1.out; have := HK2.out; omega⟩, ⟨by (with_reducible repeat (first | apply Kd.S_alloc | apply Kd.S_drewN | apply Kd.S_drew)); exact HO_20.out⟩, ⟨by repeat (first | (with_reducible first | exact HB.out | apply below_alloc | apply pw_below_drewN | apply below_drew1) | exact HB.out)⟩⟩
                        · rw [if_neg c14] at H
                          exact absurd H (by simp)
                    · rw [if_neg c11] at H
                      exact absurd H (by simp)
                  · rw [if_neg c10] at H
                    exact absurd H (by simp)
                · rw [if_neg c9] at H
                  have c9b0 : decide (x22_2 < (t189.length : Int)) = false := decide_eq_false c9
                  clear c9
                  have H' := Aside0.mk H
                  clear H
                  go_wp2
                  repeat (go_quiet (fail); try go_wp2)
                  go_roundg k2
                  case measure => have := HK1.out; have := HK2.out; omega
                  case rel => exact ⟨(x5_2), (wrap64 (x6_1 + 1)), (by first | rfl | (simp; done) | (simp [*]; done)), (by first | rfl | (simp; done) | (simp [*]; done)), H', ⟨by have := HK1.out; have := HK2.out; omega⟩, ⟨by repeat (first | (with_reducible first | exact HB.out | apply below_alloc | apply pw_below_drewN | apply below_drew1) | exact HB.out)⟩⟩
          · rw [if_neg c5] at H
            have c5b0 : ((Int.tmod a1 x6_1) == 0) = false := beq_eq_false_iff_ne.mpr c5
            (try (have c5b0t := c5b0; simp only [tdiv_len, tmod_len] at c5b0t))
            have c5b1 : ((Int.tmod a1 x6_1) != 0) = true := bne_iff_ne.mpr c5
            (try (have c5b1t := c5b1; simp only [tdiv_len, tmod_len] at c5b1t))
            have H' := Aside0.mk H
            clear H
            go_wp2
            repeat (go_quiet (fail); try go_wp2)
            go_roundg k1
            case measure => have := HK1.out; omega
            case rel => exact ⟨(x5_1), (wrap64 (x6_1 + 1)), (by first | rfl | (simp; done) | (simp [*]; done)), (by first | rfl | (simp; done) | (simp [*]; done)), H', ⟨by have := HK1.out; omega⟩, ⟨by repeat (first | (with_reducible first | exact HB.out | apply below_alloc | apply pw_below_drewN | apply below_drew1) | exact HB.out)⟩⟩
      · rw [if_neg c3] at H
        have c3b0 : decide (x6_1 ≤ a1) = false := decide_eq_false c3
        clear c3
        by_cases c15 : a1 = 0
        · rw [if_pos c15] at H
          exact absurd H (by simp)
        · rw [if_neg c15] at H
          have c15b0 : (a1 == 0) = false := beq_eq_false_iff_ne.mpr c15
          have c15b1 : (a1 != 0) = true := bne_iff_ne.mpr c15
          obtain rfl := Option.some.inj H
          go_wp2
          repeat (go_quiet (fail); try go_wp2)
          go_ret
          exact ⟨by first | rfl | (simp [errW_none, errW_some] <;> rfl) | (simp [*, errW_none, errW_some] <;> rfl), by repeat (first | (with_reducible first | exact HB.out | apply below_alloc | apply pw_below_drewN | apply below_drew1) | exact HB.out)⟩

end Go.Proofs.Ytgdglnpgfngdoaa.Q

-- Laid by wip/tools/lay.py (a program of this session) over the kit's print.py and hand-proved contracts.
import Derived.Test.YtgdglnpgfngdoaaQx0
namespace Go.Proofs.Ytgdglnpgfngdoaa.Q
open Go.RowKit Go.Proofs.YtgdglnpgfngdoaaW.PrintWords Go.Proofs.YtgdglnpgfngdoaaW.PrintLast Go.Proofs.YtgdglnpgfngdoaaW.PrintMore
attribute [local go_sem] max2_int min2_int max_two min_two max_three min_three max_four min_four   -- for this text's walks alone
set_option linter.unusedVariables false
set_option linter.unusedSimpArgs false

/-! ### impl_hasBlocks: function 60 -/
mutual
def impl_hasBlocks.j0 : Nat → List Int → Int → Bool → Option (Bool)
  | 0, _, _, _ => none
  | k + 1, x0, x1, x21 => if x21 = true then (some false) else (impl_hasBlocks.l0 k x0 x1 x0 (x0.length : Int) 0)
def impl_hasBlocks.l0 : Nat → List Int → Int → List Int → Int → Int → Option (Bool)
  | 0, _, _, _, _, _ => none
  | k + 1, x0, x1, x22, x23, x24 => if x24 < x23 then (if 0 ≤ x24 then (if x24 < (x22.length : Int) then (if x1 = 0 then (none) else (if 0 ≤ (wrap64 (x24 - (Int.tmod x24 x1))) then (if (wrap64 (x24 - (Int.tmod x24 x1))) < (x0.length : Int) then (if (wrap64 (Int.tdiv (rd x22 x24) x1)) = (wrap64 (Int.tdiv (rd x0 (wrap64 (x24 - (Int.tmod x24 x1)))) x1)) then (impl_hasBlocks.l0 k x0 x1 x22 x23 (wrap64 (x24 + 1))) else (some false)) else (none)) else (none))) else (none)) else (none)) else (some true)
end
def impl_hasBlocks.f (k : Nat) (l0 : List Int) (a1 : Int) : Option (Bool) := if a1 ≤ 1 then (impl_hasBlocks.j0 k l0 a1 true) else (if a1 ≥ (l0.length : Int) then (impl_hasBlocks.j0 k l0 a1 true) else (if a1 = 0 then (none) else (impl_hasBlocks.j0 k l0 a1 (((l0.length : Int) % a1) != 0))))
theorem impl_hasBlocks.mono_l : ∀ k, (∀ y0 y1 y2, LeO (impl_hasBlocks.j0 k y0 y1 y2) (impl_hasBlocks.j0 (k + 1) y0 y1 y2)) ∧ (∀ y0 y1 y2 y3 y4, LeO (impl_hasBlocks.l0 k y0 y1 y2 y3 y4) (impl_hasBlocks.l0 (k + 1) y0 y1 y2 y3 y4))
  | 0 => ⟨fun _ _ _ r h => by simp [impl_hasBlocks.j0] at h, fun _ _ _ _ _ r h => by simp [impl_hasBlocks.l0] at h⟩
  | k + 1 => by
    obtain ⟨ih0, ih1⟩ := impl_hasBlocks.mono_l k
    refine ⟨?_, ?_⟩
    · intro y0 y1 y2
      unfold impl_hasBlocks.j0
      repeat' first
      | (with_reducible exact ih0 _ _ _)
      | (with_reducible exact ih1 _ _ _ _ _)
      | (with_reducible exact LeO.refl _)
      | (with_reducible exact LeO.none _)
      | (with_reducible refine LeO.ite ?_ ?_)
      | (with_reducible refine LeO.bind ?_ (fun _ => ?_))
      | exact ih0 _ _ _
      | exact ih1 _ _ _ _ _
      | exact LeO.none _
      | refine LeO.ite ?_ ?_
      | refine LeO.bind ?_ (fun _ => ?_)
    · intro y0 y1 y2 y3 y4
      unfold impl_hasBlocks.l0
      repeat' first
      | (with_reducible exact ih0 _ _ _)
      | (with_reducible exact ih1 _ _ _ _ _)
      | (with_reducible exact LeO.refl _)
      | (with_reducible exact LeO.none _)
      | (with_reducible refine LeO.ite ?_ ?_)
      | (with_reducible refine LeO.bind ?_ (fun _ => ?_))
      | exact ih0 _ _ _
      | exact ih1 _ _ _ _ _
      | exact LeO.none _
      | refine LeO.ite ?_ ?_
      | refine LeO.bind ?_ (fun _ => ?_)
theorem impl_hasBlocks.mono : ∀ a0 a1 k, LeO (impl_hasBlocks.f k a0 a1) (impl_hasBlocks.f (k + 1) a0 a1) := by
  intro a0 a1 k
  obtain ⟨ih0, ih1⟩ := impl_hasBlocks.mono_l k
  unfold impl_hasBlocks.f
  repeat' first
      | (with_reducible exact ih0 _ _ _)
      | (with_reducible exact ih1 _ _ _ _ _)
      | (with_reducible exact LeO.refl _)
      | (with_reducible exact LeO.none _)
      | (with_reducible refine LeO.ite ?_ ?_)
      | (with_reducible refine LeO.bind ?_ (fun _ => ?_))
      | exact ih0 _ _ _
      | exact ih1 _ _ _ _ _
      | exact LeO.none _
      | refine LeO.ite ?_ ?_
      | refine LeO.bind ?_ (fun _ => ?_)
set_option maxHeartbeats 8000000 in
set_option maxRecDepth 100000 in
theorem impl_hasBlocks.calls (k : Nat) (A0 : Option Addr) (c0 : Nat) (l0 : List Int) (a1 : Int) (r : Bool) (w : World) (hr0 : Kd.C (Kd.int .i64) w A0 l0.length l0) (hc0 : l0.length ≤ c0) (h : impl_hasBlocks.f k l0 a1 = some r) :
    Calls Try.prog 60 #[.slice A0 l0.length c0, .int .i64 a1] w fun e w' => e = .returned (.bool r) ∧ Drawn0 w w' := by
  have HR0 := Aside0.mk hr0
  have HC0 := Aside0.mk hc0
  clear hr0 hc0
  have H : (if a1 ≤ 1 then (impl_hasBlocks.j0 k l0 a1 true) else (if a1 ≥ (l0.length : Int) then (impl_hasBlocks.j0 k l0 a1 true) else (if a1 = 0 then (none) else (impl_hasBlocks.j0 k l0 a1 (((l0.length : Int) % a1) != 0))))) = some r := h
  clear h
  have HC3 := Aside0.mk H
  clear H
  go_enter Try.func60, Try.ntmps60
  go_upto_region 1 with (fail)
  repeat (go_quiet (fail); go_upto_region 1 with (fail))
  go_cut [21] (fun v21 wc => ∃ (kq : Nat) (x21_2 : Bool), v21 = .bool x21_2 ∧ Aside0 (impl_hasBlocks.j0 kq l0 a1 x21_2 = some r) ∧ Aside0 (kq ≤ k) ∧ Drawn0 w wc)
  case first =>
    have H := HC3.out
    clear HC3
    by_cases c4 : a1 ≤ 1
    · rw [if_pos c4] at H
      have c4b0 : decide (a1 ≤ 1) = true := decide_eq_true c4
      clear c4
      (first | rw [c4b0] | (simp only [i64_w, i32_w]; rw [c4b0]) | skip)
      have H' := Aside0.mk H
      clear H
      go_wp2
      repeat (go_quiet (fail); try go_wp2)
      go_meet
      case rel => exact ⟨_, (true), (by first | rfl | (simp; done) | (simp [*]; done)), H', ⟨by first | omega | exact Nat.le_refl _⟩, by repeat (first | exact Drawn0.refl _ | apply Drawn0.step)⟩
    · rw [if_neg c4] at H
      have c4b0 : decide (a1 ≤ 1) = false := decide_eq_false c4
      clear c4
      (first | rw [c4b0] | (simp only [i64_w, i32_w]; rw [c4b0]) | skip)
      by_cases c5 : a1 ≥ (l0.length : Int)
      · rw [if_pos c5] at H
        have c5b0 : decide ((l0.length : Int) ≤ a1) = true := decide_eq_true c5
        clear c5
        have H' := Aside0.mk H
        clear H
        go_wp2
        repeat (go_quiet (fail); try go_wp2)
        go_meet
        case rel => exact ⟨_, (true), (by first | rfl | (simp; done) | (simp [*]; done)), H', ⟨by first | omega | exact Nat.le_refl _⟩, by repeat (first | exact Drawn0.refl _ | apply Drawn0.step)⟩
      · rw [if_neg c5] at H
        have c5b0 : decide ((l0.length : Int) ≤ a1) = false := decide_eq_false c5
        clear c5
        by_cases c6 : a1 = 0
        · rw [if_pos c6] at H
          exact absurd H (by simp)
        · rw [if_neg c6] at H
          have c6b0 : (a1 == 0) = false := beq_eq_false_iff_ne.mpr c6
          have c6b1 : (a1 != 0) = true := bne_iff_ne.mpr c6
          have H' := Aside0.mk H
          clear H
          go_wp2
          repeat (go_quiet (fail); try go_wp2)
          go_meet
          case rel => exact ⟨_, ((((l0.length : Int) % a1) != 0)), (by first | rfl | (simp; done) | (simp [*]; done)), H', ⟨by first | omega | exact Nat.le_refl _⟩, by repeat (first | exact Drawn0.refl _ | apply Drawn0.step)⟩
  case rest =>
    clear HC3
    try clear p2
    try clear c4
    try clear c4b0
    try clear c5
    try clear c5b0
    try clear c6
    try clear c6b0
    try clear c6b1
    obtain ⟨kq, x21_2, rfl, HA, HJ2, ⟨mc2, rfl⟩⟩ := hcut
    cases kq with
    | zero => exact absurd HA.out (by simp [impl_hasBlocks.j0])
    | succ kj2 =>
      have H := HA.out
      clear HA
      simp only [impl_hasBlocks.j0] at H
      by_cases c7 : x21_2 = true
      · subst c7
        have H1 : (some false) = some r := by rw [if_pos rfl] at H; exact H
        clear H
        have H := H1
        clear H1
        obtain rfl := Option.some.inj H
        go_wp2
        repeat (go_quiet (fail); try go_wp2)
        go_ret
        exact ⟨by first | rfl | (simp; done) | (simp [*]; done), by repeat (first | exact Drawn0.refl _ | apply Drawn0.step)⟩
      · replace c7 := Bool.eq_false_iff.mpr c7
        subst c7
        have H1 : (impl_hasBlocks.l0 kj2 l0 a1 l0 (l0.length : Int) 0) = some r := by rw [if_neg (show ¬ (false = true) by decide)] at H; exact H
        clear H
        have H := H1
        clear H1
        have H' := Aside0.mk H
        clear H
        go_wp2
        repeat (go_quiet (fail); try go_wp2)
        go_loopg [24] kj2 (fun kq v24 w' => ∃ (x24_2 : Int), v24 = .int .i64 x24_2 ∧ Aside0 (impl_hasBlocks.l0 kq l0 a1 l0 (l0.length : Int) x24_2 = some r) ∧ Aside0 (kq ≤ kj2) ∧ Drawn0 w w')
        case atStart => exact ⟨(0), (by first | rfl | (simp; done) | (simp [*]; done)), H', ⟨Nat.le_refl _⟩, by repeat (first | exact Drawn0.refl _ | apply Drawn0.step)⟩
        case round =>
          clear H'
          try clear c2
          try clear p2
          try clear c4
          try clear c4b0
          try clear c5
          try clear c5b0
          try clear c6
          try clear c6b0
          try clear c6b1
          try clear c7
          try clear p2
          obtain ⟨x24_2, rfl, HA, HK2, ⟨m2, rfl⟩⟩ := hrel
          cases gk with
          | zero => exact absurd HA.out (by simp [impl_hasBlocks.l0])
          | succ k2 =>
            have H := HA.out
            clear HA
            simp only [impl_hasBlocks.l0] at H
            by_cases c8 : x24_2 < (l0.length : Int)
            · rw [if_pos c8] at H
              have c8b0 : decide (x24_2 < (l0.length : Int)) = true := decide_eq_true c8
              clear c8
              by_cases c9 : 0 ≤ x24_2
              · rw [if_pos c9] at H
                have c9b0 : decide (0 ≤ x24_2) = true := decide_eq_true c9
                clear c9
                by_cases c10 : x24_2 < (l0.length : Int)
                · rw [if_pos c10] at H
                  have c10b0 : decide (x24_2 < (l0.length : Int)) = true := decide_eq_true c10
                  clear c10
                  by_cases c11 : a1 = 0
                  · rw [if_pos c11] at H
                    exact absurd H (by simp)
                  · rw [if_neg c11] at H
                    have c11b0 : (a1 == 0) = false := beq_eq_false_iff_ne.mpr c11
                    have c11b1 : (a1 != 0) = true := bne_iff_ne.mpr c11
                    obtain ⟨ji12, hji12⟩ : ∃ j_ : Int, (wrap64 (x24_2 - (Int.tmod x24_2 a1))) = j_ := ⟨_, rfl⟩
                    replace H : (if 0 ≤ (ji12) then (if (ji12) < (l0.length : Int) then (if (wrap64 (Int.tdiv (rd l0 x24_2) a1)) = (wrap64 (Int.tdiv (rd l0 (ji12)) a1)) then (impl_hasBlocks.l0 k2 l0 a1 l0 (l0.length : Int) (wrap64 (x24_2 + 1))) else (some false)) else (none)) else (none)) = some r := by first | (rw [hji12] at H; exact H) | (simp only [hji12] at H ⊢; exact H)
                    have hji12w : (IntKind.i64.wrap (x24_2 - (Int.tmod x24_2 a1))) = ji12 := (i64_w _).trans hji12
                    by_cases c13 : 0 ≤ (ji12)
                    · rw [if_pos c13] at H
                      have c13b0 : decide (0 ≤ (ji12)) = true := decide_eq_true c13
                      clear c13
                      by_cases c14 : (ji12) < (l0.length : Int)
                      · rw [if_pos c14] at H
                        have c14b0 : decide ((ji12) < (l0.length : Int)) = true := decide_eq_true c14
                        clear c14
                        by_cases c15 : (wrap64 (Int.tdiv (rd l0 x24_2) a1)) = (wrap64 (Int.tdiv (rd l0 (ji12)) a1))
                        · rw [if_pos c15] at H
                          have c15b0 : ((wrap64 (Int.tdiv (rd l0 x24_2) a1)) == (wrap64 (Int.tdiv (rd l0 (ji12)) a1))) = true := beq_iff_eq.mpr c15
                          (try (have c15b0t := c15b0; simp only [tdiv_len, tmod_len] at c15b0t))
                          have c15b1 : ((wrap64 (Int.tdiv (rd l0 x24_2) a1)) != (wrap64 (Int.tdiv (rd l0 (ji12)) a1))) = false := bne_eq_false_iff_eq.mpr c15
                          (try (have c15b1t := c15b1; simp only [tdiv_len, tmod_len] at c15b1t))
                          clear c15
                          have H' := Aside0.mk H
                          clear H
                          have p365 : 0 ≤ (x24_2 : Int) := of_decide_eq_true (by first | (with_reducible assumption) | assumption)
                          have q365 : x24_2 < (l0.length : Int) := of_decide_eq_true (by first | (with_reducible assumption) | assumption)
                          obtain ⟨ad365, e365, hx365_0⟩ := Kd.at_int HR0.out x24_2 p365 q365
                          cases e365
                          replace p365 := eq_true p365
                          replace q365 := eq_true q365
                          have p366 : 0 ≤ ((ji12) : Int) := of_decide_eq_true (by first | (with_reducible assumption) | assumption)
                          have q366 : (ji12) < (l0.length : Int) := of_decide_eq_true (by first | (with_reducible assumption) | assumption)
                          obtain ⟨ad366, e366, hx366_0⟩ := Kd.at_int HR0.out (ji12) p366 q366
                          obtain rfl : ad365 = ad366 := (by injection e366)
                          replace p366 := eq_true p366
                          replace q366 := eq_true q366
                          go_wp2
                          repeat (go_quiet (fail); try go_wp2)
                          go_roundg k2
                          case measure => have := HJ2.out; have := HK2.out; omega
                          case rel => exact ⟨(wrap64 (x24_2 + 1)), (by first | rfl | (simp; done) | (simp [*]; done)), H', ⟨by have := HJ2.out; have := HK2.out; omega⟩, by repeat (first | exact Drawn0.refl _ | apply Drawn0.step)⟩
                        · rw [if_neg c15] at H
                          have c15b0 : ((wrap64 (Int.tdiv (rd l0 x24_2) a1)) == (wrap64 (Int.tdiv (rd l0 (ji12)) a1))) = false := beq_eq_false_iff_ne.mpr c15
                          (try (have c15b0t := c15b0; simp only [tdiv_len, tmod_len] at c15b0t))
                          have c15b1 : ((wrap64 (Int.tdiv (rd l0 x24_2) a1)) != (wrap64 (Int.tdiv (rd l0 (ji12)) a1))) = true := bne_iff_ne.mpr c15
                          (try (have c15b1t := c15b1; simp only [tdiv_len, tmod_len] at c15b1t))
                          obtain rfl := Option.some.inj H
                          have p365 : 0 ≤ (x24_2 : Int) := of_decide_eq_true (by first | (with_reducible assumption) | assumption)
                          have q365 : x24_2 < (l0.length : Int) := of_decide_eq_true (by first | (with_reducible assumption) | assumption)
                          obtain ⟨ad365, e365, hx365_0⟩ := Kd.at_int HR0.out x24_2 p365 q365
                          cases e365
                          replace p365 := eq_true p365
                          replace q365 := eq_true q365
                          have p366 : 0 ≤ ((ji12) : Int) := of_decide_eq_true (by first | (with_reducible assumption) | assumption)
                          have q366 : (ji12) < (l0.length : Int) := of_decide_eq_true (by first | (with_reducible assumption) | assumption)
                          obtain ⟨ad366, e366, hx366_0⟩ := Kd.at_int HR0.out (ji12) p366 q366
                          obtain rfl : ad365 = ad366 := (by injection e366)
                          replace p366 := eq_true p366
                          replace q366 := eq_true q366
                          go_wp2
                          repeat (go_quiet (fail); try go_wp2)
                          go_ret
                          exact ⟨by first | rfl | (simp; done) | (simp only [← hji12] <;> (first | rfl | simp)) | (simp [*]; done), by repeat (first | exact Drawn0.refl _ | apply Drawn0.step)⟩
                      · rw [if_neg c14] at H
                        exact absurd H (by simp)
                    · rw [if_neg c13] at H
                      exact absurd H (by simp)
                · rw [if_neg c10] at H
                  exact absurd H (by simp)
              · rw [if_neg c9] at H
                exact absurd H (by simp)
            · rw [if_neg c8] at H
              have c8b0 : decide (x24_2 < (l0.length : Int)) = false := decide_eq_false c8
              clear c8
              obtain rfl := Option.some.inj H
              go_wp2
              repeat (go_quiet (fail); try go_wp2)
              go_ret
              exact ⟨by first | rfl | (simp; done) | (simp [*]; done), by repeat (first | exact Drawn0.refl _ | apply Drawn0.step)⟩

end Go.Proofs.Ytgdglnpgfngdoaa.Q

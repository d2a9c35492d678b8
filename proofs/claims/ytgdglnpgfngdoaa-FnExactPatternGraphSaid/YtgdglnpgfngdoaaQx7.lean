-- Laid by wip/tools/lay.py (a program of this session) over the kit's print.py and hand-proved contracts.
import Derived.Test.YtgdglnpgfngdoaaQx0
import Derived.Test.YtgdglnpgfngdoaaQx6
namespace Go.Proofs.Ytgdglnpgfngdoaa.Q
open Go.RowKit Go.Proofs.YtgdglnpgfngdoaaW.PrintWords Go.Proofs.YtgdglnpgfngdoaaW.PrintLast Go.Proofs.YtgdglnpgfngdoaaW.PrintMore
attribute [local go_sem] max2_int min2_int max_two min_two max_three min_three max_four min_four   -- for this text's walks alone
set_option linter.unusedVariables false
set_option linter.unusedSimpArgs false

/-! ### impl_patternGraph: function 69 -/
mutual
def impl_patternGraph.l0 : Nat → List Int → List (List Int) → Int → Int → Option ((List (List Int)))
  | 0, _, _, _, _ => none
  | k + 1, x0, x3, x11, x12 => if x12 < x11 then (if 0 ≤ x12 then (if x12 < (x0.length : Int) then (if 0 ≤ (wrap64 (x12 + 1)) then (if (wrap64 (x12 + 1)) < (x0.length : Int) then (impl_patternGraph.l1 k x0 x3 x12 (mn (rd x0 x12) (rd x0 (wrap64 (x12 + 1)))) x11 x12) else (none)) else (none)) else (none)) else (none)) else (some x3)
def impl_patternGraph.l1 : Nat → List Int → List (List Int) → Int → Int → Int → Int → Option ((List (List Int)))
  | 0, _, _, _, _, _, _ => none
  | k + 1, x0, x3, x4, x5, x11, x12 => if 0 ≤ x4 then (if x4 < (x0.length : Int) then (if 0 ≤ (wrap64 (x4 + 1)) then (if (wrap64 (x4 + 1)) < (x0.length : Int) then (if x5 < (mx (rd x0 x4) (rd x0 (wrap64 (x4 + 1)))) then (if x4 < (x3.length : Int) then (if 0 ≤ x5 then (if x5 < ((rd_L1 x3 x4).length : Int) then (impl_patternGraph.l1 k x0 (x3.set (x4 : Int).toNat ((rd_L1 x3 x4).set (x5 : Int).toNat 1)) x4 (wrap64 (x5 + 1)) x11 x12) else (none)) else (none)) else (none)) else (impl_patternGraph.l0 k x0 x3 x11 (wrap64 (x12 + 1)))) else (none)) else (none)) else (none)) else (none)
end
def impl_patternGraph.f (k : Nat) (l0 : List Int) : Option ((List (List Int))) := (impl_emptyGraph.f k (wrap64 ((l0.length : Int) - 1))).bind fun t159 => (impl_patternGraph.l0 k l0 t159 (t159.length : Int) 0)
theorem impl_patternGraph.mono_l : ∀ k, (∀ y0 y1 y2 y3, LeO (impl_patternGraph.l0 k y0 y1 y2 y3) (impl_patternGraph.l0 (k + 1) y0 y1 y2 y3)) ∧ (∀ y0 y1 y2 y3 y4 y5, LeO (impl_patternGraph.l1 k y0 y1 y2 y3 y4 y5) (impl_patternGraph.l1 (k + 1) y0 y1 y2 y3 y4 y5))
  | 0 => ⟨fun _ _ _ _ r h => by simp [impl_patternGraph.l0] at h, fun _ _ _ _ _ _ r h => by simp [impl_patternGraph.l1] at h⟩
  | k + 1 => by
    obtain ⟨ih0, ih1⟩ := impl_patternGraph.mono_l k
    refine ⟨?_, ?_⟩
    · intro y0 y1 y2 y3
      unfold impl_patternGraph.l0
      repeat' first
      | (with_reducible exact ih0 _ _ _ _)
      | (with_reducible exact ih1 _ _ _ _ _ _)
      | (with_reducible exact impl_emptyGraph.mono _ _)
      | (with_reducible exact LeO.refl _)
      | (with_reducible exact LeO.none _)
      | (with_reducible refine LeO.ite ?_ ?_)
      | (with_reducible refine LeO.bind ?_ (fun _ => ?_))
      | exact ih0 _ _ _ _
      | exact ih1 _ _ _ _ _ _
      | exact impl_emptyGraph.mono _ _
      | exact LeO.none _
      | refine LeO.ite ?_ ?_
      | refine LeO.bind ?_ (fun _ => ?_)
    · intro y0 y1 y2 y3 y4 y5
      unfold impl_patternGraph.l1
      repeat' first
      | (with_reducible exact ih0 _ _ _ _)
      | (with_reducible exact ih1 _ _ _ _ _ _)
      | (with_reducible exact impl_emptyGraph.mono _ _)
      | (with_reducible exact LeO.refl _)
      | (with_reducible exact LeO.none _)
      | (with_reducible refine LeO.ite ?_ ?_)
      | (with_reducible refine LeO.bind ?_ (fun _ => ?_))
      | exact ih0 _ _ _ _
      | exact ih1 _ _ _ _ _ _
      | exact impl_emptyGraph.mono _ _
      | exact LeO.none _
      | refine LeO.ite ?_ ?_
      | refine LeO.bind ?_ (fun _ => ?_)
theorem impl_patternGraph.mono : ∀ a0 k, LeO (impl_patternGraph.f k a0) (impl_patternGraph.f (k + 1) a0) := by
  intro a0 k
  obtain ⟨ih0, ih1⟩ := impl_patternGraph.mono_l k
  unfold impl_patternGraph.f
  repeat' first
      | (with_reducible exact ih0 _ _ _ _)
      | (with_reducible exact ih1 _ _ _ _ _ _)
      | (with_reducible exact impl_emptyGraph.mono _ _)
      | (with_reducible exact LeO.refl _)
      | (with_reducible exact LeO.none _)
      | (with_reducible refine LeO.ite ?_ ?_)
      | (with_reducible refine LeO.bind ?_ (fun _ => ?_))
      | exact ih0 _ _ _ _
      | exact ih1 _ _ _ _ _ _
      | exact impl_emptyGraph.mono _ _
      | exact LeO.none _
      | refine LeO.ite ?_ ?_
      | refine LeO.bind ?_ (fun _ => ?_)
set_option maxHeartbeats 8000000 in
set_option maxRecDepth 100000 in
theorem impl_patternGraph.calls (k : Nat) (A0 : Option Addr) (c0 : Nat) (l0 : List Int) (r : List (List Int)) (w : World) (hr0 : Kd.C (Kd.int .i64) w A0 l0.length l0) (hc0 : l0.length ≤ c0) (h : impl_patternGraph.f k l0 = some r) :
    Calls Try.prog 69 #[.slice A0 l0.length c0] w fun e w' => ∃ v0_ : Value, e = .returned (v0_) ∧ Kd.S (Kd.slice 3 (Kd.int .i64)) 22 w' w.heap.size (fun _ => True) v0_ r ∧ Below w.heap.size w w' := by
  have HR0 := Aside0.mk hr0
  have HC0 := Aside0.mk hc0
  clear hr0 hc0
  have HB := Aside0.mk (Below.refl w.heap.size w)
  have H : ((impl_emptyGraph.f k (wrap64 ((l0.length : Int) - 1))).bind fun t159 => (impl_patternGraph.l0 k l0 t159 (t159.length : Int) 0)) = some r := h
  clear h
  replace H := Option.bind_eq_some_iff.mp H
  obtain ⟨t159, A20, H⟩ := H
  replace H : (impl_patternGraph.l0 k l0 t159 (t159.length : Int) 0) = some r := H
  have A2 := Aside0.mk A20
  clear A20
  have H' := Aside0.mk H
  clear H
  go_enter Try.func69, Try.ntmps69
  go_wp2_with (first | (go_at_call 90; (with_reducible refine (impl_emptyGraph.calls k (wrap64 ((l0.length : Int) - 1)) t159 _ A2.out).mono ?_); rintro e w3 ⟨v160, rfl, ho0, hb⟩; have n0_ := Aside0.mk (Kd.S_lower ho0 (below_size (by repeat (first | (with_reducible first | exact HB.out | apply below_alloc | apply pw_below_drewN | apply below_drew1) | exact HB.out)))); have n1_ := Aside0.mk (below_step (by repeat (first | (with_reducible first | exact HB.out | apply below_alloc | apply pw_below_drewN | apply below_drew1) | exact HB.out)) hb); clear HB; have HO161 := n0_; have HB := n1_; clear n0_ n1_; (try clear hb); (try clear hb2); (try clear hk); (try clear hi); (try clear ho0); obtain ⟨Ao4, co4, eo4⟩ := Kd.S_slice HO161.out; subst eo4))
  repeat (go_quiet (first | (go_at_call 90; (with_reducible refine (impl_emptyGraph.calls k (wrap64 ((l0.length : Int) - 1)) t159 _ A2.out).mono ?_); rintro e w3 ⟨v160, rfl, ho0, hb⟩; have n0_ := Aside0.mk (Kd.S_lower ho0 (below_size (by repeat (first | (with_reducible first | exact HB.out | apply below_alloc | apply pw_below_drewN | apply below_drew1) | exact HB.out)))); have n1_ := Aside0.mk (below_step (by repeat (first | (with_reducible first | exact HB.out | apply below_alloc | apply pw_below_drewN | apply below_drew1) | exact HB.out)) hb); clear HB; have HO161 := n0_; have HB := n1_; clear n0_ n1_; (try clear hb); (try clear hb2); (try clear hk); (try clear hi); (try clear ho0); obtain ⟨Ao4, co4, eo4⟩ := Kd.S_slice HO161.out; subst eo4)); try go_wp2_with (first | (go_at_call 90; (with_reducible refine (impl_emptyGraph.calls k (wrap64 ((l0.length : Int) - 1)) t159 _ A2.out).mono ?_); rintro e w3 ⟨v160, rfl, ho0, hb⟩; have n0_ := Aside0.mk (Kd.S_lower ho0 (below_size (by repeat (first | (with_reducible first | exact HB.out | apply below_alloc | apply pw_below_drewN | apply below_drew1) | exact HB.out)))); have n1_ := Aside0.mk (below_step (by repeat (first | (with_reducible first | exact HB.out | apply below_alloc | apply pw_below_drewN | apply below_drew1) | exact HB.out)) hb); clear HB; have HO161 := n0_; have HB := n1_; clear n0_ n1_; (try clear hb); (try clear hb2); (try clear hk); (try clear hi); (try clear ho0); obtain ⟨Ao4, co4, eo4⟩ := Kd.S_slice HO161.out; subst eo4)))
  go_loopg [12] k (fun kq v12 w' => ∃ (x3_1 : List (List Int)) (x12_1 : Int), v12 = .int .i64 x12_1 ∧ Aside0 (impl_patternGraph.l0 kq l0 x3_1 (t159.length : Int) x12_1 = some r) ∧ Aside0 (kq ≤ k) ∧ Aside0 (Kd.S (Kd.slice 3 (Kd.int .i64)) 22 w' w.heap.size (fun _ => True) (.slice Ao4 t159.length co4) x3_1) ∧ Aside0 (Below w.heap.size w w'))
  case atStart => exact ⟨(t159), (0), (by first | rfl | (simp; done) | (simp [*]; done)), H', ⟨Nat.le_refl _⟩, ⟨by (with_reducible repeat (first | apply Kd.S_alloc | apply Kd.S_drewN | apply Kd.S_drew)); exact HO161.out⟩, ⟨by repeat (first | (with_reducible first | exact HB.out | apply below_alloc | apply pw_below_drewN | apply below_drew1) | exact HB.out)⟩⟩
  case round =>
    clear H'
    try clear p2
    obtain ⟨x3_1, x12_1, rfl, HA, HK1, HO_3, HB⟩ := hrel
    have hl3_1 := (Kd.S_reads' HO_3.out).1
    rw [hl3_1] at HO_3
    (try simp only [hl3_1])
    cases gk with
    | zero => exact absurd HA.out (by simp [impl_patternGraph.l0])
    | succ k1 =>
      have H := HA.out
      clear HA
      simp only [impl_patternGraph.l0] at H
      by_cases c5 : x12_1 < (t159.length : Int)
      · rw [if_pos c5] at H
        have c5b0 : decide (x12_1 < (t159.length : Int)) = true := decide_eq_true c5
        (try (have c5b0z := c5b0; simp only [hl3_1] at c5b0z))
        clear c5
        by_cases c6 : 0 ≤ x12_1
        · rw [if_pos c6] at H
          have c6b0 : decide (0 ≤ x12_1) = true := decide_eq_true c6
          clear c6
          by_cases c7 : x12_1 < (l0.length : Int)
          · rw [if_pos c7] at H
            have c7b0 : decide (x12_1 < (l0.length : Int)) = true := decide_eq_true c7
            (try (have c7b0z := c7b0; simp only [hl3_1] at c7b0z))
            clear c7
            obtain ⟨ji8, hji8⟩ : ∃ j_ : Int, (wrap64 (x12_1 + 1)) = j_ := ⟨_, rfl⟩
            replace H : (if 0 ≤ (ji8) then (if (ji8) < (l0.length : Int) then (impl_patternGraph.l1 k1 l0 x3_1 x12_1 (mn (rd l0 x12_1) (rd l0 (ji8))) (t159.length : Int) x12_1) else (none)) else (none)) = some r := by first | (rw [hji8] at H; exact H) | (simp only [hji8] at H ⊢; exact H)
            have hji8w : (IntKind.i64.wrap (x12_1 + 1)) = ji8 := (i64_w _).trans hji8
            by_cases c9 : 0 ≤ (ji8)
            · rw [if_pos c9] at H
              have c9b0 : decide (0 ≤ (ji8)) = true := decide_eq_true c9
              clear c9
              by_cases c10 : (ji8) < (l0.length : Int)
              · rw [if_pos c10] at H
                have c10b0 : decide ((ji8) < (l0.length : Int)) = true := decide_eq_true c10
                (try (have c10b0z := c10b0; simp only [hl3_1] at c10b0z))
                clear c10
                obtain ⟨ji11, hji11⟩ : ∃ j_ : Int, (mn (rd l0 x12_1) (rd l0 (ji8))) = j_ := ⟨_, rfl⟩
                replace H : (impl_patternGraph.l1 k1 l0 x3_1 x12_1 ji11 (t159.length : Int) x12_1) = some r := by first | (rw [hji11] at H; exact H) | (simp only [hji11] at H ⊢; exact H)
                have hji11_ : (if (rd l0 (ji8)) < (rd l0 x12_1) then (rd l0 (ji8)) else (rd l0 x12_1)) = ji11 := hji11
                have H' := Aside0.mk H
                clear H
                have p162 : 0 ≤ (x12_1 : Int) := of_decide_eq_true (by first | (with_reducible assumption) | assumption)
                have q162 : x12_1 < (l0.length : Int) := of_decide_eq_true (by first | (with_reducible assumption) | assumption)
                obtain ⟨ad162, e162, hx162_0⟩ := Kd.at_int HR0.out x12_1 p162 q162
                cases e162
                replace hx162_0 := (HB.out.cell (World.block_lt_of_cell? w _ hx162_0)).trans hx162_0
                replace p162 := eq_true p162
                replace q162 := eq_true q162
                have p163 : 0 ≤ ((ji8) : Int) := of_decide_eq_true (by first | (with_reducible assumption) | assumption)
                have q163 : (ji8) < (l0.length : Int) := of_decide_eq_true (by first | (with_reducible assumption) | assumption)
                obtain ⟨ad163, e163, hx163_0⟩ := Kd.at_int HR0.out (ji8) p163 q163
                obtain rfl : ad162 = ad163 := (by injection e163)
                replace hx163_0 := (HB.out.cell (World.block_lt_of_cell? w _ hx163_0)).trans hx163_0
                replace p163 := eq_true p163
                replace q163 := eq_true q163
                go_wp2
                repeat (go_quiet (fail); try go_wp2)
                go_loopg [5] k1 (fun kq v5 w' => ∃ (x3_2 : List (List Int)) (x5_2 : Int), v5 = .int .i64 x5_2 ∧ Aside0 (impl_patternGraph.l1 kq l0 x3_2 x12_1 x5_2 (t159.length : Int) x12_1 = some r) ∧ Aside0 (kq ≤ k1) ∧ Aside0 (Kd.S (Kd.slice 3 (Kd.int .i64)) 22 w' w.heap.size (fun _ => True) (.slice Ao4 x3_1.length co4) x3_2) ∧ Aside0 (Below w.heap.size w w'))
                case atStart => exact ⟨(x3_1), (ji11), (by first | rfl | (simp; done) | (simp only [← hji11] <;> (first | rfl | simp)) | (simp [*]; done)), H', ⟨Nat.le_refl _⟩, ⟨by (try simp only [hl3_1]); (with_reducible repeat (first | apply Kd.S_alloc | apply Kd.S_drewN | apply Kd.S_drew)); exact HO_3.out⟩, ⟨by repeat (first | (with_reducible first | exact HB.out | apply below_alloc | apply pw_below_drewN | apply below_drew1) | exact HB.out)⟩⟩
                case round =>
                  clear H'
                  try clear c1
                  try clear p1
                  try clear q1
                  try clear hx1
                  try clear p2
                  try clear c5
                  try clear c5b0
                  try clear c6
                  try clear c6b0
                  try clear p6
                  try clear c7
                  try clear c7b0
                  try clear c9
                  try clear c9b0
                  try clear c10
                  try clear c10b0
                  try clear hx162_0
                  try clear hx163_0
                  try clear p162
                  try clear p163
                  try clear p2
                  try clear q162
                  try clear q163
                  obtain ⟨x3_2, x5_2, rfl, HA, HK2, HO_3, HB⟩ := hrel
                  have hl3_2 := (Kd.S_reads' HO_3.out).1
                  rw [hl3_2] at HO_3
                  (try simp only [hl3_2])
                  cases gk with
                  | zero => exact absurd HA.out (by simp [impl_patternGraph.l1])
                  | succ k2 =>
                    have H := HA.out
                    clear HA
                    simp only [impl_patternGraph.l1] at H
                    by_cases c12 : 0 ≤ x12_1
                    · rw [if_pos c12] at H
                      have c12b0 : decide (0 ≤ x12_1) = true := decide_eq_true c12
                      clear c12
                      by_cases c13 : x12_1 < (l0.length : Int)
                      · rw [if_pos c13] at H
                        have c13b0 : decide (x12_1 < (l0.length : Int)) = true := decide_eq_true c13
                        (try (have c13b0z := c13b0; simp only [hl3_1, hl3_2] at c13b0z))
                        clear c13
                        (try clear hji8w)
                        (try clear hji8)
                        obtain ⟨ji14, hji14⟩ : ∃ j_ : Int, (wrap64 (x12_1 + 1)) = j_ := ⟨_, rfl⟩
                        replace H : (if 0 ≤ (ji14) then (if (ji14) < (l0.length : Int) then (if x5_2 < (mx (rd l0 x12_1) (rd l0 (ji14))) then (if x12_1 < (x3_2.length : Int) then (if 0 ≤ x5_2 then (if x5_2 < ((rd_L1 x3_2 x12_1).length : Int) then (impl_patternGraph.l1 k2 l0 (x3_2.set (x12_1 : Int).toNat ((rd_L1 x3_2 x12_1).set (x5_2 : Int).toNat 1)) x12_1 (wrap64 (x5_2 + 1)) (t159.length : Int) x12_1) else (none)) else (none)) else (none)) else (impl_patternGraph.l0 k2 l0 x3_2 (t159.length : Int) ji14)) else (none)) else (none)) = some r := by first | (rw [hji14] at H; exact H) | (simp only [hji14] at H ⊢; exact H)
                        have hji14w : (IntKind.i64.wrap (x12_1 + 1)) = ji14 := (i64_w _).trans hji14
                        by_cases c15 : 0 ≤ (ji14)
                        · rw [if_pos c15] at H
                          have c15b0 : decide (0 ≤ (ji14)) = true := decide_eq_true c15
                          clear c15
                          by_cases c16 : (ji14) < (l0.length : Int)
                          · rw [if_pos c16] at H
                            have c16b0 : decide ((ji14) < (l0.length : Int)) = true := decide_eq_true c16
                            (try (have c16b0z := c16b0; simp only [hl3_1, hl3_2] at c16b0z))
                            clear c16
                            obtain ⟨ji17, hji17⟩ : ∃ j_ : Int, (mx (rd l0 x12_1) (rd l0 (ji14))) = j_ := ⟨_, rfl⟩
                            replace H : (if x5_2 < (ji17) then (if x12_1 < (x3_2.length : Int) then (if 0 ≤ x5_2 then (if x5_2 < ((rd_L1 x3_2 x12_1).length : Int) then (impl_patternGraph.l1 k2 l0 (x3_2.set (x12_1 : Int).toNat ((rd_L1 x3_2 x12_1).set (x5_2 : Int).toNat 1)) x12_1 (wrap64 (x5_2 + 1)) (t159.length : Int) x12_1) else (none)) else (none)) else (none)) else (impl_patternGraph.l0 k2 l0 x3_2 (t159.length : Int) ji14)) = some r := by first | (rw [hji17] at H; exact H) | (simp only [hji17] at H ⊢; exact H)
                            have hji17_ : (if (rd l0 x12_1) < (rd l0 (ji14)) then (rd l0 (ji14)) else (rd l0 x12_1)) = ji17 := hji17
                            by_cases c18 : x5_2 < (ji17)
                            · rw [if_pos c18] at H
                              have c18b0 : decide (x5_2 < (ji17)) = true := decide_eq_true c18
                              clear c18
                              by_cases c19 : x12_1 < (x3_2.length : Int)
                              · rw [if_pos c19] at H
                                have c19b0 : decide (x12_1 < (x3_2.length : Int)) = true := decide_eq_true c19
                                (try (have c19b0z := c19b0; simp only [hl3_1, hl3_2] at c19b0z))
                                clear c19
                                by_cases c20 : 0 ≤ x5_2
                                · rw [if_pos c20] at H
                                  have c20b0 : decide (0 ≤ x5_2) = true := decide_eq_true c20
                                  clear c20
                                  by_cases c21 : x5_2 < ((rd_L1 x3_2 x12_1).length : Int)
                                  · rw [if_pos c21] at H
                                    have c21b0 : decide (x5_2 < ((rd_L1 x3_2 x12_1).length : Int)) = true := decide_eq_true c21
                                    (try (have c21b0z := c21b0; simp only [hl3_1, hl3_2] at c21b0z))
                                    clear c21
                                    obtain ⟨y167, hy167⟩ : ∃ y_ : List Int, y_ = ((rd_L1 x3_2 x12_1).set (x5_2 : Int).toNat 1) := ⟨_, rfl⟩
                                    replace H : (impl_patternGraph.l1 k2 l0 (x3_2.set (x12_1 : Int).toNat y167) x12_1 (wrap64 (x5_2 + 1)) (t159.length : Int) x12_1) = some r := by first | (rw [hy167]; with_reducible exact H) | (have H2_ := (Option.bind_some _ _).symm.trans H; rw [hy167]; with_reducible exact H2_) | (have H2_ := (Option.bind_some _ _).symm.trans H; with_reducible exact H2_) | with_reducible exact H | (rw [hy167]; exact H) | exact H
                                    have Ny167 := Aside0.mk hy167
                                    clear hy167
                                    obtain ⟨y169, hy169⟩ : ∃ y_ : List (List Int), y_ = (x3_2.set (x12_1 : Int).toNat y167) := ⟨_, rfl⟩
                                    replace H : (impl_patternGraph.l1 k2 l0 y169 x12_1 (wrap64 (x5_2 + 1)) (t159.length : Int) x12_1) = some r := by first | (rw [hy169]; with_reducible exact H) | (have H2_ := (Option.bind_some _ _).symm.trans H; rw [hy169]; with_reducible exact H2_) | (have H2_ := (Option.bind_some _ _).symm.trans H; with_reducible exact H2_) | with_reducible exact H | (rw [hy169]; exact H) | exact H
                                    have Ny169 := Aside0.mk hy169
                                    clear hy169
                                    have H' := Aside0.mk H
                                    clear H
                                    have p164 : 0 ≤ (x12_1 : Int) := of_decide_eq_true (by first | (with_reducible assumption) | assumption)
                                    have q164 : x12_1 < (l0.length : Int) := of_decide_eq_true (by first | (with_reducible assumption) | assumption)
                                    obtain ⟨ad164, e164, hx164_0⟩ := Kd.at_int HR0.out x12_1 p164 q164
                                    obtain rfl : ad162 = ad164 := (by injection e164)
                                    replace hx164_0 := (HB.out.cell (World.block_lt_of_cell? w _ hx164_0)).trans hx164_0
                                    replace p164 := eq_true p164
                                    replace q164 := eq_true q164
                                    have p165 : 0 ≤ ((ji14) : Int) := of_decide_eq_true (by first | (with_reducible assumption) | assumption)
                                    have q165 : (ji14) < (l0.length : Int) := of_decide_eq_true (by first | (with_reducible assumption) | assumption)
                                    obtain ⟨ad165, e165, hx165_0⟩ := Kd.at_int HR0.out (ji14) p165 q165
                                    obtain rfl : ad162 = ad165 := (by injection e165)
                                    replace hx165_0 := (HB.out.cell (World.block_lt_of_cell? w _ hx165_0)).trans hx165_0
                                    replace p165 := eq_true p165
                                    replace q165 := eq_true q165
                                    have p166 : 0 ≤ (x12_1 : Int) := of_decide_eq_true (by first | (with_reducible assumption) | assumption)
                                    have q166 : x12_1 < (x3_2.length : Int) := of_decide_eq_true (by first | (with_reducible assumption) | assumption)
                                    obtain ⟨ad166, A166_0, c166_0, e166, hx166_0, hl166_0, hi166_0⟩ := at_L1 (Kd.S_reads' HO_3.out).2.2 x12_1 p166 q166
                                    cases e166
                                    obtain ⟨ce166, hce166, hMe166, hcc166⟩ := Kd.S_get HO_3.out [] x12_1 p166 (by first | exact q166 | exact of_decide_eq_true (by first | (with_reducible assumption) | assumption) | (have e_ := (Kd.S_reads' HO_3.out).1; omega))
                                    obtain ⟨ve166_0, rfl, ge166_0⟩ := hMe166
                                    have hv166_0 := hcc166 0 _ rfl
                                    rw [Nat.add_zero, show ((Kd.slice 3 (Kd.int .i64))).sz = 1 from rfl, Nat.mul_one] at hv166_0
                                    replace hv166_0 := Option.some.inj (hv166_0.symm.trans hx166_0)
                                    rw [hv166_0] at ge166_0
                                    have HL166_0 := Aside0.mk (show Kd.R (Kd.int .i64) 3 _ _ _ _ (rd_L1 x3_2 x12_1) from ge166_0)
                                    clear hv166_0 ge166_0
                                    have HX166_0 := Aside0.mk hx166_0
                                    clear hcc166 hce166
                                    have HR166_0 := Aside0.mk hi166_0
                                    have HC166_0 := Aside0.mk hl166_0
                                    clear hi166_0 hl166_0
                                    replace p166 := eq_true p166
                                    replace q166 := eq_true q166
                                    have p22 : 0 ≤ (x5_2 : Int) := of_decide_eq_true (by first | (with_reducible assumption) | assumption)
                                    have q22 : (x5_2 : Int) < (((rd_L1 x3_2 x12_1).length : Int) : Int) := of_decide_eq_true (by first | (with_reducible assumption) | assumption)
                                    obtain ⟨go22, co22, eo22, gb22, gl22, cl22, HG22⟩ := Kd.R_form HL166_0.out (by omega)
                                    (first | cases eo22 | (injection eo22 with ea_ en_ ec_; (first | subst ea_ | (injection ea_ with ea_; subst ea_)); subst ec_; clear en_))
                                    have GB22 := Aside0.mk gb22
                                    have GG22 := Aside0.mk HG22
                                    clear gb22 gl22 HG22
                                    obtain ⟨hx22_0, hf22_0⟩ := Kd.R_celln 0 HL166_0.out (x5_2 : Int) p22 q22
                                    replace p22 := eq_true p22
                                    replace q22 := eq_true q22
                                    have hq23 : (x12_1 : Int) < (x3_2.length : Int) := (by have h_ : (x12_1 : Int) < ((x3_2.length : Int) : Int) := of_decide_eq_true (by first | (with_reducible assumption) | assumption); first | exact h_ | (have e_ := (Kd.S_reads' HO_3.out).1; omega) | simpa only [List.length_set, List.length_set] using h_)
                                    obtain ⟨oki23, ce23, hcl23, hM23, hcc23, hok23, hbk23⟩ := Kd.S_borrow HO_3.out [] (x12_1 : Int) (of_decide_eq_true (by first | (with_reducible assumption) | assumption)) hq23
                                    obtain ⟨ve23_0, rfl, ge23_0⟩ := hM23
                                    have hv23 := hcc23 0 _ rfl
                                    rw [Nat.add_zero, show ((Kd.slice 3 (Kd.int .i64))).sz = 1 from rfl, Nat.mul_one] at hv23
                                    replace hv23 := Option.some.inj (hv23.symm.trans HX166_0.out)
                                    subst hv23
                                    clear hcc23 hcl23
                                    replace ge23_0 := (show Kd.R (Kd.int .i64) 3 _ _ _ _ (rd_L1 x3_2 x12_1) from ge23_0)
                                    have HP23 := Kd.R_putg ge23_0 (x5_2 : Int) 1
                                    go_wp2_with (first | ((with_reducible refine gate_store (t := 3) (p := 44) rfl ?_); (try (rw [drewN_self wr]; generalize hq_ : World.drewN wr _ = wr; have n0_ := Aside0.mk (Kd.S_at hq_ HO_3.out); have n1_ := Aside0.mk (Kd.R_at hq_ HL166_0.out); have n2_ := Aside0.mk (below_at hq_ HB.out); have z_ := Aside0.mk (cell_at hq_ HX166_0.out); clear HX166_0; have HX166_0 := z_; clear z_; clear hq_ HO_3 HL166_0 HB; have HO_3 := n0_; have HL166_0 := n1_; have HB := n2_; clear n0_ n1_ n2_; (try (have hq23 : (x12_1 : Int) < (x3_2.length : Int) := (by have h_ : (x12_1 : Int) < ((x3_2.length : Int) : Int) := of_decide_eq_true (by first | (with_reducible assumption) | assumption); first | exact h_ | (have e_ := (Kd.S_reads' HO_3.out).1; omega) | simpa only [List.length_set, List.length_set] using h_))); (try (obtain ⟨oki23, ce23, hcl23, hM23, hcc23, hok23, hbk23⟩ := Kd.S_borrow HO_3.out [] (x12_1 : Int) (of_decide_eq_true (by first | (with_reducible assumption) | assumption)) hq23)); (try (obtain ⟨ve23_0, rfl, ge23_0⟩ := hM23)); (try (have hv23 := hcc23 0 _ rfl)); (try (rw [Nat.add_zero, show ((Kd.slice 3 (Kd.int .i64))).sz = 1 from rfl, Nat.mul_one] at hv23)); (try (replace hv23 := Option.some.inj (hv23.symm.trans HX166_0.out))); (try (subst hv23)); (try (clear hcc23 hcl23)); (try (replace ge23_0 := (show Kd.R (Kd.int .i64) 3 _ _ _ _ (rd_L1 x3_2 x12_1) from ge23_0))); (try (have HP23 := Kd.R_putg ge23_0 (x5_2 : Int) 1)); (try (obtain ⟨hyr_, hzr_⟩ := Kd.R_celln 0 HL166_0.out (x5_2 : Int) (of_eq_true p22) (of_eq_true q22))))); refine store_event (t := 3) (p := 44) (v := ?vo_w24) (w1 := (wr.setCell ⟨go22, (x5_2 : Int).toNat, none⟩ (.int .i64 1))) ?hg ?ho ?hn ?hr ?_; (case ho => rfl); (case hg => rfl); (case hn => rfl); (case hr => first | (go_simp; done) | (go_simp; rfl)); intro w24 hw; have hg : wr.grownBy w24 (some go22) := (by rw [hw]; exact HP23.2); have hz_ : Kd.R (Kd.int .i64) 3 w24 w.heap.size oki23 (.slice (some ⟨go22, 0, none⟩) (rd_L1 x3_2 x12_1).length c166_0) y167 := (by rw [hw, Ny167.out]; exact HP23.1); have hp_ : Kd.S (Kd.slice 3 (Kd.int .i64)) 22 w24 w.heap.size (fun _ => True) (.slice (some ad166) x3_2.length co4) y169 := (by rw [Ny169.out]; exact hbk23 hg (fun k_ e_ => by injection e_ with e_; subst e_; exact ge23_0.1 _ rfl) (Kd.M_row hz_)); have hm_ := Kd.R_mono hz_ hok23; clear HP23 hbk23; have n0_ := Aside0.mk (hp_); have n1_ := Aside0.mk ((by rw [hw]; exact below_set (HB.out) GB22.out : Below w.heap.size w w24)); have n2_ := Aside0.mk (hm_); have n3_ := Aside0.mk ((Kd.R_reads' hm_).2.1); clear HO_3; clear HB; clear HL166_0; have HO_3 := n0_; have HB := n1_; have HL170 := n2_; have HC168 := n3_; clear n0_ n1_ n2_ n3_; clear hg hw hp_ hz_ hm_ hok23))
                                    repeat (go_quiet (first | ((with_reducible refine gate_store (t := 3) (p := 44) rfl ?_); (try (rw [drewN_self wr]; generalize hq_ : World.drewN wr _ = wr; have n0_ := Aside0.mk (Kd.S_at hq_ HO_3.out); have n1_ := Aside0.mk (Kd.R_at hq_ HL166_0.out); have n2_ := Aside0.mk (below_at hq_ HB.out); have z_ := Aside0.mk (cell_at hq_ HX166_0.out); clear HX166_0; have HX166_0 := z_; clear z_; clear hq_ HO_3 HL166_0 HB; have HO_3 := n0_; have HL166_0 := n1_; have HB := n2_; clear n0_ n1_ n2_; (try (have hq23 : (x12_1 : Int) < (x3_2.length : Int) := (by have h_ : (x12_1 : Int) < ((x3_2.length : Int) : Int) := of_decide_eq_true (by first | (with_reducible assumption) | assumption); first | exact h_ | (have e_ := (Kd.S_reads' HO_3.out).1; omega) | simpa only [List.length_set, List.length_set] using h_))); (try (obtain ⟨oki23, ce23, hcl23, hM23, hcc23, hok23, hbk23⟩ := Kd.S_borrow HO_3.out [] (x12_1 : Int) (of_decide_eq_true (by first | (with_reducible assumption) | assumption)) hq23)); (try (obtain ⟨ve23_0, rfl, ge23_0⟩ := hM23)); (try (have hv23 := hcc23 0 _ rfl)); (try (rw [Nat.add_zero, show ((Kd.slice 3 (Kd.int .i64))).sz = 1 from rfl, Nat.mul_one] at hv23)); (try (replace hv23 := Option.some.inj (hv23.symm.trans HX166_0.out))); (try (subst hv23)); (try (clear hcc23 hcl23)); (try (replace ge23_0 := (show Kd.R (Kd.int .i64) 3 _ _ _ _ (rd_L1 x3_2 x12_1) from ge23_0))); (try (have HP23 := Kd.R_putg ge23_0 (x5_2 : Int) 1)); (try (obtain ⟨hyr_, hzr_⟩ := Kd.R_celln 0 HL166_0.out (x5_2 : Int) (of_eq_true p22) (of_eq_true q22))))); refine store_event (t := 3) (p := 44) (v := ?vo_w24) (w1 := (wr.setCell ⟨go22, (x5_2 : Int).toNat, none⟩ (.int .i64 1))) ?hg ?ho ?hn ?hr ?_; (case ho => rfl); (case hg => rfl); (case hn => rfl); (case hr => first | (go_simp; done) | (go_simp; rfl)); intro w24 hw; have hg : wr.grownBy w24 (some go22) := (by rw [hw]; exact HP23.2); have hz_ : Kd.R (Kd.int .i64) 3 w24 w.heap.size oki23 (.slice (some ⟨go22, 0, none⟩) (rd_L1 x3_2 x12_1).length c166_0) y167 := (by rw [hw, Ny167.out]; exact HP23.1); have hp_ : Kd.S (Kd.slice 3 (Kd.int .i64)) 22 w24 w.heap.size (fun _ => True) (.slice (some ad166) x3_2.length co4) y169 := (by rw [Ny169.out]; exact hbk23 hg (fun k_ e_ => by injection e_ with e_; subst e_; exact ge23_0.1 _ rfl) (Kd.M_row hz_)); have hm_ := Kd.R_mono hz_ hok23; clear HP23 hbk23; have n0_ := Aside0.mk (hp_); have n1_ := Aside0.mk ((by rw [hw]; exact below_set (HB.out) GB22.out : Below w.heap.size w w24)); have n2_ := Aside0.mk (hm_); have n3_ := Aside0.mk ((Kd.R_reads' hm_).2.1); clear HO_3; clear HB; clear HL166_0; have HO_3 := n0_; have HB := n1_; have HL170 := n2_; have HC168 := n3_; clear n0_ n1_ n2_ n3_; clear hg hw hp_ hz_ hm_ hok23)); try go_wp2_with (first | ((with_reducible refine gate_store (t := 3) (p := 44) rfl ?_); (try (rw [drewN_self wr]; generalize hq_ : World.drewN wr _ = wr; have n0_ := Aside0.mk (Kd.S_at hq_ HO_3.out); have n1_ := Aside0.mk (Kd.R_at hq_ HL166_0.out); have n2_ := Aside0.mk (below_at hq_ HB.out); have z_ := Aside0.mk (cell_at hq_ HX166_0.out); clear HX166_0; have HX166_0 := z_; clear z_; clear hq_ HO_3 HL166_0 HB; have HO_3 := n0_; have HL166_0 := n1_; have HB := n2_; clear n0_ n1_ n2_; (try (have hq23 : (x12_1 : Int) < (x3_2.length : Int) := (by have h_ : (x12_1 : Int) < ((x3_2.length : Int) : Int) := of_decide_eq_true (by first | (with_reducible assumption) | assumption); first | exact h_ | (have e_ := (Kd.S_reads' HO_3.out).1; omega) | simpa only [List.length_set, List.length_set] using h_))); (try (obtain ⟨oki23, ce23, hcl23, hM23, hcc23, hok23, hbk23⟩ := Kd.S_borrow HO_3.out [] (x12_1 : Int) (of_decide_eq_true (by first | (with_reducible assumption) | assumption)) hq23)); (try (obtain ⟨ve23_0, rfl, ge23_0⟩ := hM23)); (try (have hv23 := hcc23 0 _ rfl)); (try (rw [Nat.add_zero, show ((Kd.slice 3 (Kd.int .i64))).sz = 1 from rfl, Nat.mul_one] at hv23)); (try (replace hv23 := Option.some.inj (hv23.symm.trans HX166_0.out))); (try (subst hv23)); (try (clear hcc23 hcl23)); (try (replace ge23_0 := (show Kd.R (Kd.int .i64) 3 _ _ _ _ (rd_L1 x3_2 x12_1) from ge23_0))); (try (have HP23 := Kd.R_putg ge23_0 (x5_2 : Int) 1)); (try (obtain ⟨hyr_, hzr_⟩ := Kd.R_celln 0 HL166_0.out (x5_2 : Int) (of_eq_true p22) (of_eq_true q22))))); refine store_event (t := 3) (p := 44) (v := ?vo_w24) (w1 := (wr.setCell ⟨go22, (x5_2 : Int).toNat, none⟩ (.int .i64 1))) ?hg ?ho ?hn ?hr ?_; (case ho => rfl); (case hg => rfl); (case hn => rfl); (case hr => first | (go_simp; done) | (go_simp; rfl)); intro w24 hw; have hg : wr.grownBy w24 (some go22) := (by rw [hw]; exact HP23.2); have hz_ : Kd.R (Kd.int .i64) 3 w24 w.heap.size oki23 (.slice (some ⟨go22, 0, none⟩) (rd_L1 x3_2 x12_1).length c166_0) y167 := (by rw [hw, Ny167.out]; exact HP23.1); have hp_ : Kd.S (Kd.slice 3 (Kd.int .i64)) 22 w24 w.heap.size (fun _ => True) (.slice (some ad166) x3_2.length co4) y169 := (by rw [Ny169.out]; exact hbk23 hg (fun k_ e_ => by injection e_ with e_; subst e_; exact ge23_0.1 _ rfl) (Kd.M_row hz_)); have hm_ := Kd.R_mono hz_ hok23; clear HP23 hbk23; have n0_ := Aside0.mk (hp_); have n1_ := Aside0.mk ((by rw [hw]; exact below_set (HB.out) GB22.out : Below w.heap.size w w24)); have n2_ := Aside0.mk (hm_); have n3_ := Aside0.mk ((Kd.R_reads' hm_).2.1); clear HO_3; clear HB; clear HL166_0; have HO_3 := n0_; have HB := n1_; have HL170 := n2_; have HC168 := n3_; clear n0_ n1_ n2_ n3_; clear hg hw hp_ hz_ hm_ hok23)))
                                    (try simp only [← hl3_2])
                                    go_roundg k2
                                    case measure => have := HK1.out; have := HK2.out; omega
                                    case rel => exact ⟨(y169), (wrap64 (x5_2 + 1)), (by first | rfl | (simp; done) | (simp [*]; done)), H', ⟨by have := HK1.out; have := HK2.out; omega⟩, ⟨by (try simp only [hl3_1]); (try simp only [hl3_2]); (with_reducible repeat (first | apply Kd.S_alloc | apply Kd.S_drewN | apply Kd.S_drew)); exact HO_3.out⟩, ⟨by repeat (first | (with_reducible first | exact HB.out | apply below_alloc | apply pw_below_drewN | apply below_drew1) | exact HB.out)⟩⟩
                                  · rw [if_neg c21] at H
                                    exact absurd H (by simp)
                                · rw [if_neg c20] at H
                                  exact absurd H (by simp)
                              · rw [if_neg c19] at H
                                exact absurd H (by simp)
                            · rw [if_neg c18] at H
                              have c18b0 : decide (x5_2 < (ji17)) = false := decide_eq_false c18
                              clear c18
                              have H' := Aside0.mk H
                              clear H
                              have p164 : 0 ≤ (x12_1 : Int) := of_decide_eq_true (by first | (with_reducible assumption) | assumption)
                              have q164 : x12_1 < (l0.length : Int) := of_decide_eq_true (by first | (with_reducible assumption) | assumption)
                              obtain ⟨ad164, e164, hx164_0⟩ := Kd.at_int HR0.out x12_1 p164 q164
                              obtain rfl : ad162 = ad164 := (by injection e164)
                              replace hx164_0 := (HB.out.cell (World.block_lt_of_cell? w _ hx164_0)).trans hx164_0
                              replace p164 := eq_true p164
                              replace q164 := eq_true q164
                              have p165 : 0 ≤ ((ji14) : Int) := of_decide_eq_true (by first | (with_reducible assumption) | assumption)
                              have q165 : (ji14) < (l0.length : Int) := of_decide_eq_true (by first | (with_reducible assumption) | assumption)
                              obtain ⟨ad165, e165, hx165_0⟩ := Kd.at_int HR0.out (ji14) p165 q165
                              obtain rfl : ad162 = ad165 := (by injection e165)
                              replace hx165_0 := (HB.out.cell (World.block_lt_of_cell? w _ hx165_0)).trans hx165_0
                              replace p165 := eq_true p165
                              replace q165 := eq_true q165
                              go_wp2
                              repeat (go_quiet (fail); try go_wp2)
                              (try simp only [← hl3_1, ← hl3_2])
                              go_roundg k2
                              case measure => have := HK1.out; have := HK2.out; omega
                              case rel => exact ⟨(x3_2), (ji14), (by first | rfl | (simp; done) | (simp only [← hji14] <;> (first | rfl | simp)) | (simp [*]; done)), H', ⟨by have := HK1.out; have := HK2.out; omega⟩, ⟨by (try simp only [hl3_1]); (try simp only [hl3_2]); (with_reducible repeat (first | apply Kd.S_alloc | apply Kd.S_drewN | apply Kd.S_drew)); exact HO_3.out⟩, ⟨by repeat (first | (with_reducible first | exact HB.out | apply below_alloc | apply pw_below_drewN | apply below_drew1) | exact HB.out)⟩⟩
                          · rw [if_neg c16] at H
                            exact absurd H (by simp)
                        · rw [if_neg c15] at H
                          exact absurd H (by simp)
                      · rw [if_neg c13] at H
                        exact absurd H (by simp)
                    · rw [if_neg c12] at H
                      exact absurd H (by simp)
              · rw [if_neg c10] at H
                exact absurd H (by simp)
            · rw [if_neg c9] at H
              exact absurd H (by simp)
          · rw [if_neg c7] at H
            exact absurd H (by simp)
        · rw [if_neg c6] at H
          exact absurd H (by simp)
      · rw [if_neg c5] at H
        have c5b0 : decide (x12_1 < (t159.length : Int)) = false := decide_eq_false c5
        (try (have c5b0z := c5b0; simp only [hl3_1] at c5b0z))
        clear c5
        obtain rfl := Option.some.inj H
        go_wp2
        repeat (go_quiet (fail); try go_wp2)
        go_ret
        exact ⟨_, by first | rfl | (simp [errW_none, errW_some] <;> rfl) | (simp [*, errW_none, errW_some] <;> rfl), by (with_reducible repeat (first | apply Kd.S_alloc | apply Kd.S_drewN | apply Kd.S_drew)); exact HO_3.out, by repeat (first | (with_reducible first | exact HB.out | apply below_alloc | apply pw_below_drewN | apply below_drew1) | exact HB.out)⟩

/-! ### impl_PatternGraph: function 34 -/
def impl_PatternGraph.f (k : Nat) (l0 : List Int) : Option ((List (List Int)) × Bool) := (impl_isForcing.f k l0).bind fun t171 => (if t171 = true then ((impl_patternGraph.f k l0).bind fun t172 => (some (t172, true))) else (some (([] : List (List Int)), false)))
theorem impl_PatternGraph.mono : ∀ a0 k, LeO (impl_PatternGraph.f k a0) (impl_PatternGraph.f (k + 1) a0) := by
  intro a0 k
  unfold impl_PatternGraph.f
  repeat' first
      | (with_reducible exact impl_isForcing.mono _ _)
      | (with_reducible exact impl_patternGraph.mono _ _)
      | (with_reducible exact LeO.refl _)
      | (with_reducible exact LeO.none _)
      | (with_reducible refine LeO.ite ?_ ?_)
      | (with_reducible refine LeO.bind ?_ (fun _ => ?_))
      | exact impl_isForcing.mono _ _
      | exact impl_patternGraph.mono _ _
      | exact LeO.none _
      | refine LeO.ite ?_ ?_
      | refine LeO.bind ?_ (fun _ => ?_)
set_option maxHeartbeats 8000000 in
set_option maxRecDepth 100000 in
theorem impl_PatternGraph.calls (k : Nat) (A0 : Option Addr) (c0 : Nat) (l0 : List Int) (r1 : List (List Int)) (r2 : Bool) (w : World) (hr0 : Kd.C (Kd.int .i64) w A0 l0.length l0) (hc0 : l0.length ≤ c0) (h : impl_PatternGraph.f k l0 = some (r1, r2)) :
    Calls Try.prog 34 #[.slice A0 l0.length c0] w fun e w' => ∃ v0_ : Value, e = .returned (.tuple #[v0_, .bool r2]) ∧ Kd.S (Kd.slice 3 (Kd.int .i64)) 22 w' w.heap.size (fun _ => True) v0_ r1 ∧ Below w.heap.size w w' := by
  have HR0 := Aside0.mk hr0
  have HC0 := Aside0.mk hc0
  clear hr0 hc0
  have HB := Aside0.mk (Below.refl w.heap.size w)
  have H : ((impl_isForcing.f k l0).bind fun t171 => (if t171 = true then ((impl_patternGraph.f k l0).bind fun t172 => (some (t172, true))) else (some (([] : List (List Int)), false)))) = some (r1, r2) := h
  clear h
  replace H := Option.bind_eq_some_iff.mp H
  obtain ⟨t171, A20, H⟩ := H
  replace H : (if t171 = true then ((impl_patternGraph.f k l0).bind fun t172 => (some (t172, true))) else (some (([] : List (List Int)), false))) = some (r1, r2) := H
  have A2 := Aside0.mk A20
  clear A20
  by_cases c3 : t171 = true
  · subst c3
    have H1 : ((impl_patternGraph.f k l0).bind fun t172 => (some (t172, true))) = some (r1, r2) := by rw [if_pos rfl] at H; exact H
    clear H
    have H := H1
    clear H1
    replace H := Option.bind_eq_some_iff.mp H
    obtain ⟨t172, A40, H⟩ := H
    replace H : (some (t172, true)) = some (r1, r2) := H
    have A4 := Aside0.mk A40
    clear A40
    simp only [Option.some.injEq, Prod.mk.injEq] at H
    obtain ⟨rfl, rfl⟩ := H
    go_enter Try.func34, Try.ntmps34
    go_wp2_with (first | ((with_reducible refine gate_callee (f := 68) rfl ?_); refine goesL_ (some 5) rfl rfl Try.func68 (by kernel_rfl) rfl #[.slice A0 l0.length c0] rfl (by (try simp only [List.map_toArray, List.map_cons, List.map_nil]); first | done | rfl | (simp only [List.length_drop, List.length_take]; rfl)) ?_; (with_reducible refine (impl_isForcing.calls k _ _ l0 true _ ?side1 ?side2 A2.out).mono ?_); (case side1 => repeat (first | exact HR0.out | (with_reducible refine Kd.C_alloc ?_ _) | (with_reducible refine Kd.C_drewN ?_ _) | (with_reducible refine Kd.C_drew ?_))); (case side2 => exact HC0.out); rintro e w5 ⟨rfl, hb⟩; refine ⟨_, rfl, ?_⟩; have n0_ := Aside0.mk (below_step (by repeat (first | (with_reducible first | exact HB.out | apply below_alloc | apply pw_below_drewN | apply below_drew1) | exact HB.out)) hb); clear HB; have HB := n0_; clear n0_; (try clear hb); (try clear hb2); (try clear hk); (try clear hi)) | ((with_reducible refine gate_callee (f := 69) rfl ?_); refine goesL_ (some 8) rfl rfl Try.func69 (by kernel_rfl) rfl #[.slice A0 l0.length c0] rfl (by (try simp only [List.map_toArray, List.map_cons, List.map_nil]); first | done | rfl | (simp only [List.length_drop, List.length_take]; rfl)) ?_; (with_reducible refine (impl_patternGraph.calls k _ _ l0 t172 _ ?side1 ?side2 A4.out).mono ?_); (case side1 => repeat (first | exact (Kd.C_below HR0.out HB.out) | (with_reducible refine Kd.C_alloc ?_ _) | (with_reducible refine Kd.C_drewN ?_ _) | (with_reducible refine Kd.C_drew ?_))); (case side2 => exact HC0.out); rintro e w6 ⟨v173, rfl, ho0, hb⟩; refine ⟨_, rfl, ?_⟩; have n0_ := Aside0.mk (Kd.S_lower ho0 (below_size (by repeat (first | (with_reducible first | exact HB.out | apply below_alloc | apply pw_below_drewN | apply below_drew1) | exact HB.out)))); have n1_ := Aside0.mk (below_step (by repeat (first | (with_reducible first | exact HB.out | apply below_alloc | apply pw_below_drewN | apply below_drew1) | exact HB.out)) hb); clear HB; have HO174 := n0_; have HB := n1_; clear n0_ n1_; (try clear hb); (try clear hb2); (try clear hk); (try clear hi); (try clear ho0)))
    go_ret2
    exact ⟨_, by first | rfl | (simp [errW_none, errW_some] <;> rfl) | (simp [*, errW_none, errW_some] <;> rfl), by (with_reducible repeat (first | apply Kd.S_alloc | apply Kd.S_drewN | apply Kd.S_drew)); exact HO174.out, by repeat (first | (with_reducible first | exact HB.out | apply below_alloc | apply pw_below_drewN | apply below_drew1) | exact HB.out)⟩
  · replace c3 := Bool.eq_false_iff.mpr c3
    subst c3
    have H1 : (some (([] : List (List Int)), false)) = some (r1, r2) := by rw [if_neg (show ¬ (false = true) by decide)] at H; exact H
    clear H
    have H := H1
    clear H1
    simp only [Option.some.injEq, Prod.mk.injEq] at H
    obtain ⟨rfl, rfl⟩ := H
    go_enter Try.func34, Try.ntmps34
    go_wp2_with (first | ((with_reducible refine gate_callee (f := 68) rfl ?_); refine goesL_ (some 5) rfl rfl Try.func68 (by kernel_rfl) rfl #[.slice A0 l0.length c0] rfl (by (try simp only [List.map_toArray, List.map_cons, List.map_nil]); first | done | rfl | (simp only [List.length_drop, List.length_take]; rfl)) ?_; (with_reducible refine (impl_isForcing.calls k _ _ l0 false _ ?side1 ?side2 A2.out).mono ?_); (case side1 => repeat (first | exact HR0.out | (with_reducible refine Kd.C_alloc ?_ _) | (with_reducible refine Kd.C_drewN ?_ _) | (with_reducible refine Kd.C_drew ?_))); (case side2 => exact HC0.out); rintro e w7 ⟨rfl, hb⟩; refine ⟨_, rfl, ?_⟩; have n0_ := Aside0.mk (below_step (by repeat (first | (with_reducible first | exact HB.out | apply below_alloc | apply pw_below_drewN | apply below_drew1) | exact HB.out)) hb); clear HB; have HB := n0_; clear n0_; (try clear hb); (try clear hb2); (try clear hk); (try clear hi)))
    go_ret2
    exact ⟨_, by first | rfl | (simp [errW_none, errW_some] <;> rfl) | (simp [*, errW_none, errW_some] <;> rfl), by first | exact Kd.S_nil _ _ _ _ _ | exact Kd.N_nil _ _ _ _ _ | exact Kd.V_nil _ _ _ _ _ | exact Kd.Q_nil _ _ _ _ _ | exact Kd.R_nil _ _ _ _ _, by repeat (first | (with_reducible first | exact HB.out | apply below_alloc | apply pw_below_drewN | apply below_drew1) | exact HB.out)⟩

end Go.Proofs.Ytgdglnpgfngdoaa.Q

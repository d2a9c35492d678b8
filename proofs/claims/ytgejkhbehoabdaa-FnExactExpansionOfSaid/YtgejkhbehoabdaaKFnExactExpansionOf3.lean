/- All that the statement FnExactExpansionOf rests on, part 3: the walks of the functions that it reaches, and the plain laws of what they compute. -/
import Derived.Test.YtgejkhbehoabdaaKFnExactExpansionOf2
namespace Go.Proofs.Ytgejkhbehoabdaa.Q
open Go.RowKit Go.Proofs.YtgejkhbehoabdaaW.PrintWords Go.Proofs.YtgejkhbehoabdaaW.PrintLast Go.Proofs.YtgejkhbehoabdaaW.PrintMore
attribute [local go_sem] max2_int min2_int max_two min_two max_three min_three max_four min_four   -- for this text's walks alone
set_option linter.unusedVariables false
set_option linter.unusedSimpArgs false
def impl_isRising.l0 : Nat → List (S47) → Int → Option (Bool)
 | 0, _, _ => none
 | k + 1, x0, x3 => if x3 < (x0.length : Int) then (if 0 ≤ (wrap64 (x3 - 1)) then (if (wrap64 (x3 - 1)) < (x0.length : Int) then (if 0 ≤ x3 then ((impl_less.f ((rd_T47 x0 (wrap64 (x3 - 1))).f0) ((rd_T47 x0 (wrap64 (x3 - 1))).f1) ((rd_T47 x0 x3).f0) ((rd_T47 x0 x3).f1)).bind fun tA => (if tA = true then (impl_isRising.l0 k x0 (wrap64 (x3 + 1))) else (some false))) else (none)) else (none)) else (none)) else (some true)
def impl_isRising.f (k : Nat) (l0 : List (S47)) : Option (Bool) := impl_isRising.l0 k l0 1
def impl_isRising.T4 : Bool × List (List Nat × List Nat) := (true, [([], []), ([], []), ([1], [1]), ([0, 2], [0, 2]), ([3], [3]), ([], []), ([], []), ([5, 6], [5, 6]), ([7], [7]), ([4, 8], [4, 8]), ([9], [9])])
def impl_isRising.B4 : List Nat := [0, 0, 2, 7, 15, 0, 0, 96, 224, 511, 1023]
theorem impl_isRising.tab4 : rtab .any (opsOf Try.f120 4) = impl_isRising.T4 := by kernel_rfl
theorem impl_isRising.bits4 : waitsOk impl_isRising.T4.2 impl_isRising.B4 = true := by kernel_rfl
set_option maxHeartbeats 8000000 in
set_option maxRecDepth 100000 in
theorem impl_isRising.calls (k : Nat) (A0 : Option Addr) (c0 : Nat) (l0 : List (S47)) (r : Bool) (w : World) (hr0 : Kd.C k47 w A0 l0.length l0) (hc0 : l0.length ≤ c0) (h : impl_isRising.f k l0 = some r) :
  Calls Try.prog 120 #[.slice A0 l0.length c0] w fun e w' => e = .returned (.bool r) ∧ Below w.heap.size w w' := by
 have hu47 := Try.underlying47; have HR0 := Aside0.mk hr0; have HC0 := Aside0.mk hc0; clear hr0 hc0; have HB := Aside0.mk (Below.refl w.heap.size w); have H : (impl_isRising.l0 k l0 1) = some r := h; clear h; have H' := Aside0.mk H; clear H; go_enter Try.func120, Try.ntmps120
 go_wp2
 go_loopg [3] k (fun kq v3 w' => ∃ (x3_1 : Int), v3 = .int .i64 x3_1 ∧ Aside0 (impl_isRising.l0 kq l0 x3_1 = some r) ∧ Aside0 (kq ≤ k) ∧ Aside0 (Below w.heap.size w w'))
 case atStart => exact ⟨(1), zz124, H', ⟨Nat.le_refl _⟩, ⟨by repeat (first | (with_reducible first | exact HB.out | apply below_alloc | apply pw_below_drewN | apply below_drew1) | exact HB.out)⟩⟩
 case round =>
  clear H'; try clear c1
  obtain ⟨x3_1, rfl, HA, HK1, HB⟩ := hrel; cases gk with
  | zero => exact absurd HA.out (by simp [impl_isRising.l0])
  | succ k1 =>
   have H := HA.out; clear HA; simp only [impl_isRising.l0] at H; by_cases c2 : x3_1 < (l0.length : Int)
   ·rw [if_pos c2] at H; have c2b0 : decide (x3_1 < (l0.length : Int)) = true := decide_eq_true c2; clear c2; obtain ⟨ji3, hji3⟩ : ∃ j_ : Int, (wrap64 (x3_1 - 1)) = j_ := ⟨_, rfl⟩; replace H : (if 0 ≤ (ji3) then (if (ji3) < (l0.length : Int) then (if 0 ≤ x3_1 then ((impl_less.f ((rd_T47 l0 (ji3)).f0) ((rd_T47 l0 (ji3)).f1) ((rd_T47 l0 x3_1).f0) ((rd_T47 l0 x3_1).f1)).bind fun tA => (if tA = true then (impl_isRising.l0 k1 l0 (wrap64 (x3_1 + 1))) else (some false))) else (none)) else (none)) else (none)) = some r := by first | (rw [hji3] at H; exact H) | (simp only [hji3] at H ⊢; exact H)
    have hji3w : (IntKind.i64.wrap (x3_1 - 1)) = ji3 := (i64_w _).trans hji3; by_cases c4 : 0 ≤ (ji3)
    ·rw [if_pos c4] at H; have c4b0 : decide (0 ≤ (ji3)) = true := decide_eq_true c4; clear c4; by_cases c5 : (ji3) < (l0.length : Int)
     ·rw [if_pos c5] at H; have c5b0 : decide ((ji3) < (l0.length : Int)) = true := decide_eq_true c5; clear c5; by_cases c6 : 0 ≤ x3_1
      ·rw [if_pos c6] at H; have c6b0 : decide (0 ≤ x3_1) = true := decide_eq_true c6; clear c6; replace H := Option.bind_eq_some_iff.mp H; obtain ⟨tA, A70, H⟩ := H; replace H : (if tA = true then (impl_isRising.l0 k1 l0 (wrap64 (x3_1 + 1))) else (some false)) = some r := H; have A7 := Aside0.mk A70; clear A70; by_cases c8 : tA = true
       ·subst c8; have H1 : (impl_isRising.l0 k1 l0 (wrap64 (x3_1 + 1))) = some r := by rw [if_pos rfl] at H; exact H
        clear H; have H := H1; clear H1; have H' := Aside0.mk H; clear H; try go_wp2
        replace HB := Aside0.mk (below_drew1 HB.out); have pB : 0 ≤ ((ji3) : Int) := of_decide_eq_true zz123; have qB : (ji3) < (l0.length : Int) := of_decide_eq_true zz123; obtain ⟨adB, eB, hxB_0, hxB_1⟩ := at_T47 HR0.out (ji3) pB qB; have hwB_1 := hxB_1; have hwB_0 := hxB_0; cases eB
        replace hxB_0 := (HB.out.cell (World.block_lt_of_cell? w _ hxB_0)).trans hxB_0; replace hxB_1 := (HB.out.cell (World.block_lt_of_cell? w _ hxB_1)).trans hxB_1; replace pB := eq_true pB; replace qB := eq_true qB; have pC : 0 ≤ (x3_1 : Int) := of_decide_eq_true zz123; have qC : x3_1 < (l0.length : Int) := of_decide_eq_true zz123; obtain ⟨adC, eC, hxC_0, hxC_1⟩ := at_T47 HR0.out x3_1 pC qC; have hwC_1 := hxC_1; have hwC_0 := hxC_0; obtain rfl : adB = adC := (by injection eC); replace hxC_0 := (HB.out.cell (World.block_lt_of_cell? w _ hxC_0)).trans hxC_0; replace hxC_1 := (HB.out.cell (World.block_lt_of_cell? w _ hxC_1)).trans hxC_1; replace pC := eq_true pC; replace qC := eq_true qC; refine start_ (n := 11) (S := fun w' => w'.cell? (adB.add (((ji3)).toNat * 2)) = some (.int .i64 ((rd_T47 l0 (ji3)).f0)) ∧ w'.cell? ⟨(adB.add (((ji3)).toNat * 2)).block, (adB.add (((ji3)).toNat * 2)).off + 1, none⟩ = some (.int .i64 ((rd_T47 l0 (ji3)).f1)) ∧ w'.cell? (adB.add ((x3_1).toNat * 2)) = some (.int .i64 ((rd_T47 l0 x3_1).f0)) ∧ w'.cell? ⟨(adB.add ((x3_1).toNat * 2)).block, (adB.add ((x3_1).toNat * 2)).off + 1, none⟩ = some (.int .i64 ((rd_T47 l0 x3_1).f1))) (ds := []) #[fF, fF, fF, fF, fF, fF, fF, fF, fF, fF, fF] (by kernel_rfl) rfl rfl ⟨((HB.out.cell (World.block_lt_of_cell? w _ hwB_0)).trans hwB_0), ((HB.out.cell (World.block_lt_of_cell? w _ hwB_1)).trans hwB_1), ((HB.out.cell (World.block_lt_of_cell? w _ hwC_0)).trans hwC_0), ((HB.out.cell (World.block_lt_of_cell? w _ hwC_1)).trans hwC_1)⟩ (fun hHeld => ?_); refine with_tabW impl_isRising.tab4 impl_isRising.bits4 (fun HT_ HW_ => ?_); generalize wr.drew = w9 at HB hxB_0 hxB_1 hxC_0 hxC_1 hHeld ⊢; refine pureA 0 (some 10) #[tT, fF, fF, fF, fF, fF, fF, fF, fF, fF, fF] HT_ ?_; refine pureA 1 (some 11) #[tT, tT, fF, fF, fF, fF, fF, fF, fF, fF, fF] HT_ ?_; refine pureA 2 (some 12) #[tT, tT, tT, fF, fF, fF, fF, fF, fF, fF, fF] HT_ ?_; refine pureA 3 (some 13) #[tT, tT, tT, tT, fF, fF, fF, fF, fF, fF, fF] HT_ ?_; refine pureA 5 (some 15) #[tT, tT, tT, tT, fF, tT, fF, fF, fF, fF, fF] HT_ ?_; refine pureA 6 (some 16) #[tT, tT, tT, tT, fF, tT, tT, fF, fF, fF, fF] HT_ ?_; refine pureA 7 (some 17) #[tT, tT, tT, tT, fF, tT, tT, tT, fF, fF, fF] HT_ ?_; refine takeA1 4 (some 14) #[tT, tT, tT, tT, tT, tT, tT, tT, fF, fF, fF] HT_ HW_ hHeld ?_; refine takeA1 8 (some 18) #[tT, tT, tT, tT, tT, tT, tT, tT, tT, fF, fF] HT_ HW_ hHeld ?_; refine one_ (i := 9) (N := some 19) #[tT, tT, tT, tT, tT, tT, tT, tT, tT, tT, fF] rfl rfl (one_of HT_.out (by kernel_rfl)) (by decide) (fun K hK => ?_); refine goes_ Try.func115 (by kernel_rfl) rfl #[.agg #[.int .i64 ((rd_T47 l0 (ji3)).f0), .int .i64 ((rd_T47 l0 (ji3)).f1)], .agg #[.int .i64 ((rd_T47 l0 x3_1).f0), .int .i64 ((rd_T47 l0 x3_1).f1)]] (by rfl) rfl rfl zz59 ?_; with_reducible refine (impl_less.calls ((rd_T47 l0 (ji3)).f0) ((rd_T47 l0 (ji3)).f1) ((rd_T47 l0 x3_1).f0) ((rd_T47 l0 x3_1).f1) true _ A7.out).mono ?_
        rintro e w10 ⟨rfl, hb⟩; refine ⟨_, rfl, ?_⟩; replace HB := Aside0.mk (below_step zz95 hb); (try clear hb); refine hK.out _ _ ⟨((HB.out.cell (World.block_lt_of_cell? w _ hwB_0)).trans hwB_0), ((HB.out.cell (World.block_lt_of_cell? w _ hwB_1)).trans hwB_1), ((HB.out.cell (World.block_lt_of_cell? w _ hwC_0)).trans hwC_0), ((HB.out.cell (World.block_lt_of_cell? w _ hwC_1)).trans hwC_1)⟩ (fun hHeld => ?_); clear hK K; refine normA (some 19) ?_; refine pureA 10 (some 20) #[tT, tT, tT, tT, tT, tT, tT, tT, tT, tT, tT] HT_ ?_; refine done_ (done_of HT_.out (by kernel_rfl)) ?_; try go_wp2
        go_roundg k1
        case measure => have := HK1.out; omega
        case rel => exact ⟨(wrap64 (x3_1 + 1)), zz124, H', ⟨by have := HK1.out; omega⟩, ⟨by repeat (first | (with_reducible first | exact HB.out | apply below_alloc | apply pw_below_drewN | apply below_drew1) | exact HB.out)⟩⟩
       ·replace c8 := Bool.eq_false_iff.mpr c8; subst c8; have H1 : (some false) = some r := by rw [if_neg (show ¬ (false = true) by decide)] at H; exact H
        clear H; have H := H1; clear H1; obtain rfl := Option.some.inj H; try go_wp2
        replace HB := Aside0.mk (below_drew1 HB.out); have pB : 0 ≤ ((ji3) : Int) := of_decide_eq_true zz123; have qB : (ji3) < (l0.length : Int) := of_decide_eq_true zz123; obtain ⟨adB, eB, hxB_0, hxB_1⟩ := at_T47 HR0.out (ji3) pB qB; have hwB_1 := hxB_1; have hwB_0 := hxB_0; cases eB
        replace hxB_0 := (HB.out.cell (World.block_lt_of_cell? w _ hxB_0)).trans hxB_0; replace hxB_1 := (HB.out.cell (World.block_lt_of_cell? w _ hxB_1)).trans hxB_1; replace pB := eq_true pB; replace qB := eq_true qB; have pC : 0 ≤ (x3_1 : Int) := of_decide_eq_true zz123; have qC : x3_1 < (l0.length : Int) := of_decide_eq_true zz123; obtain ⟨adC, eC, hxC_0, hxC_1⟩ := at_T47 HR0.out x3_1 pC qC; have hwC_1 := hxC_1; have hwC_0 := hxC_0; obtain rfl : adB = adC := (by injection eC); replace hxC_0 := (HB.out.cell (World.block_lt_of_cell? w _ hxC_0)).trans hxC_0; replace hxC_1 := (HB.out.cell (World.block_lt_of_cell? w _ hxC_1)).trans hxC_1; replace pC := eq_true pC; replace qC := eq_true qC; refine start_ (n := 11) (S := fun w' => w'.cell? (adB.add (((ji3)).toNat * 2)) = some (.int .i64 ((rd_T47 l0 (ji3)).f0)) ∧ w'.cell? ⟨(adB.add (((ji3)).toNat * 2)).block, (adB.add (((ji3)).toNat * 2)).off + 1, none⟩ = some (.int .i64 ((rd_T47 l0 (ji3)).f1)) ∧ w'.cell? (adB.add ((x3_1).toNat * 2)) = some (.int .i64 ((rd_T47 l0 x3_1).f0)) ∧ w'.cell? ⟨(adB.add ((x3_1).toNat * 2)).block, (adB.add ((x3_1).toNat * 2)).off + 1, none⟩ = some (.int .i64 ((rd_T47 l0 x3_1).f1))) (ds := []) #[fF, fF, fF, fF, fF, fF, fF, fF, fF, fF, fF] (by kernel_rfl) rfl rfl ⟨((HB.out.cell (World.block_lt_of_cell? w _ hwB_0)).trans hwB_0), ((HB.out.cell (World.block_lt_of_cell? w _ hwB_1)).trans hwB_1), ((HB.out.cell (World.block_lt_of_cell? w _ hwC_0)).trans hwC_0), ((HB.out.cell (World.block_lt_of_cell? w _ hwC_1)).trans hwC_1)⟩ (fun hHeld => ?_); refine with_tabW impl_isRising.tab4 impl_isRising.bits4 (fun HT_ HW_ => ?_); generalize wr.drew = w11 at HB hxB_0 hxB_1 hxC_0 hxC_1 hHeld ⊢; refine pureA 0 (some 10) #[tT, fF, fF, fF, fF, fF, fF, fF, fF, fF, fF] HT_ ?_; refine pureA 1 (some 11) #[tT, tT, fF, fF, fF, fF, fF, fF, fF, fF, fF] HT_ ?_; refine pureA 2 (some 12) #[tT, tT, tT, fF, fF, fF, fF, fF, fF, fF, fF] HT_ ?_; refine pureA 3 (some 13) #[tT, tT, tT, tT, fF, fF, fF, fF, fF, fF, fF] HT_ ?_; refine pureA 5 (some 15) #[tT, tT, tT, tT, fF, tT, fF, fF, fF, fF, fF] HT_ ?_; refine pureA 6 (some 16) #[tT, tT, tT, tT, fF, tT, tT, fF, fF, fF, fF] HT_ ?_; refine pureA 7 (some 17) #[tT, tT, tT, tT, fF, tT, tT, tT, fF, fF, fF] HT_ ?_; refine takeA1 4 (some 14) #[tT, tT, tT, tT, tT, tT, tT, tT, fF, fF, fF] HT_ HW_ hHeld ?_; refine takeA1 8 (some 18) #[tT, tT, tT, tT, tT, tT, tT, tT, tT, fF, fF] HT_ HW_ hHeld ?_; refine one_ (i := 9) (N := some 19) #[tT, tT, tT, tT, tT, tT, tT, tT, tT, tT, fF] rfl rfl (one_of HT_.out (by kernel_rfl)) (by decide) (fun K hK => ?_); refine goes_ Try.func115 (by kernel_rfl) rfl #[.agg #[.int .i64 ((rd_T47 l0 (ji3)).f0), .int .i64 ((rd_T47 l0 (ji3)).f1)], .agg #[.int .i64 ((rd_T47 l0 x3_1).f0), .int .i64 ((rd_T47 l0 x3_1).f1)]] (by rfl) rfl rfl zz59 ?_; with_reducible refine (impl_less.calls ((rd_T47 l0 (ji3)).f0) ((rd_T47 l0 (ji3)).f1) ((rd_T47 l0 x3_1).f0) ((rd_T47 l0 x3_1).f1) false _ A7.out).mono ?_
        rintro e w12 ⟨rfl, hb⟩; refine ⟨_, rfl, ?_⟩; replace HB := Aside0.mk (below_step zz95 hb); (try clear hb); refine hK.out _ _ ⟨((HB.out.cell (World.block_lt_of_cell? w _ hwB_0)).trans hwB_0), ((HB.out.cell (World.block_lt_of_cell? w _ hwB_1)).trans hwB_1), ((HB.out.cell (World.block_lt_of_cell? w _ hwC_0)).trans hwC_0), ((HB.out.cell (World.block_lt_of_cell? w _ hwC_1)).trans hwC_1)⟩ (fun hHeld => ?_); clear hK K; refine normA (some 19) ?_; refine pureA 10 (some 20) #[tT, tT, tT, tT, tT, tT, tT, tT, tT, tT, tT] HT_ ?_; refine done_ (done_of HT_.out (by kernel_rfl)) ?_; try go_wp2
        go_ret
        exact ⟨by first | rfl | (simp [errW_none, errW_some] <;> rfl) | (simp only [← hji3]; first | rfl | (simp [errW_none, errW_some] <;> rfl)) | (simp [*, errW_none, errW_some] <;> rfl), by repeat (first | (with_reducible first | exact HB.out | apply below_alloc | apply pw_below_drewN | apply below_drew1) | exact HB.out)⟩
      ·rw [if_neg c6] at H; exact absurd H (by simp)
     ·rw [if_neg c5] at H; exact absurd H (by simp)
    ·rw [if_neg c4] at H; exact absurd H (by simp)
   ·rw [if_neg c2] at H; have c2b0 : decide (x3_1 < (l0.length : Int)) = false := decide_eq_false c2; clear c2; obtain rfl := Option.some.inj H; go_wp2
    go_ret
    exact ⟨by first | rfl | (simp [errW_none, errW_some] <;> rfl) | (simp [*, errW_none, errW_some] <;> rfl), by repeat (first | (with_reducible first | exact HB.out | apply below_alloc | apply pw_below_drewN | apply below_drew1) | exact HB.out)⟩
end Go.Proofs.Ytgejkhbehoabdaa.Q
namespace Go.Proofs.Ytgejkhbehoabdaa.Q
open Go.RowKit Go.Proofs.YtgejkhbehoabdaaW.PrintWords Go.Proofs.YtgejkhbehoabdaaW.PrintLast Go.Proofs.YtgejkhbehoabdaaW.PrintMore
attribute [local go_sem] max2_int min2_int max_two min_two max_three min_three max_four min_four   -- for this text's walks alone
set_option linter.unusedVariables false
set_option linter.unusedSimpArgs false
def impl_isMap_1.f (k : Nat) (a0_0 : Int) (a0_1 : Int) (a0_2 : Int) (a0_3 : Int) : Option (Bool) := (impl_isCoord.f k a0_0 a0_1).bind fun tA => (if tA = true then ((impl_isCoord.f k a0_2 a0_3).bind fun tB => (some (!tB))) else (some true))
theorem zz85 {p : Prop} (h : p := by repeat (first | (with_reducible first | exact HB.out | apply below_alloc | apply pw_below_drewN | apply below_drew1 | refine below_set ?_ GEA.out) | exact HB.out)) : p := h
set_option maxHeartbeats 8000000 in
set_option maxRecDepth 100000 in
theorem impl_isMap_1.calls (k : Nat) (a0_0 : Int) (a0_1 : Int) (a0_2 : Int) (a0_3 : Int) (r : Bool) (w : World) (h : impl_isMap_1.f k a0_0 a0_1 a0_2 a0_3 = some r) :
  Calls Try.prog 129 #[.agg #[.int .i64 a0_0, .int .i64 a0_1, .int .i64 a0_2, .int .i64 a0_3]] w fun e w' => e = .returned (.bool r) ∧ Below w.heap.size w w' := by
 have hu79 := Try.underlying79; have hu47 := Try.underlying47; have HB := Aside0.mk (Below.refl w.heap.size w); have H : ((impl_isCoord.f k a0_0 a0_1).bind fun tB => (if tB = true then ((impl_isCoord.f k a0_2 a0_3).bind fun tC => (some (!tC))) else (some true))) = some r := h; clear h; replace H := Option.bind_eq_some_iff.mp H; obtain ⟨tB, A20, H⟩ := H; replace H : (if tB = true then ((impl_isCoord.f k a0_2 a0_3).bind fun tC => (some (!tC))) else (some true)) = some r := H; have A2 := Aside0.mk A20; clear A20; by_cases c3 : tB = true
 ·subst c3; have H1 : ((impl_isCoord.f k a0_2 a0_3).bind fun tC => (some (!tC))) = some r := by rw [if_pos rfl] at H; exact H
  clear H; have H := H1; clear H1; replace H := Option.bind_eq_some_iff.mp H; obtain ⟨tC, A40, H⟩ := H; replace H : (some (!tC)) = some r := H; have A4 := Aside0.mk A40; clear A40; obtain rfl := Option.some.inj H; go_enter Try.func129, Try.ntmps129
  go_wp2_with (first | ((with_reducible refine gate_dst (N := 1) rfl ?_); refine box_event ?hg (N := 1) ?hd (cs := #[.int .i64 a0_0, .int .i64 a0_1, .int .i64 a0_2, .int .i64 a0_3]) (t := 79) ?hr ?_; (case hd => rfl); (case hg => rfl); (case hr => first | (go_simp; done) | (go_simp; rfl)); intro gbA hg w5 hbox hb; have n2_ := gwA (below_size zz95) hg; have n3_ := gwA (below_size zz95) hg; have GWA := n2_; have GEA := n3_; clear n2_ n3_; have BKA := Aside0.mk (hbox); replace HB := Aside0.mk (below_step zz95 hb); clear hb hbox hg; have hcz6_0 : w5.cell? ⟨gbA, 0, none⟩ = some (.int .i64 a0_0) := (blk_cell BKA.out 0).trans rfl; have hcz6_1 : w5.cell? ⟨gbA, 1, none⟩ = some (.int .i64 a0_1) := (blk_cell BKA.out 1).trans rfl; have hcz6_2 : w5.cell? ⟨gbA, 2, none⟩ = some (.int .i64 a0_2) := (blk_cell BKA.out 2).trans rfl; have hcz6_3 : w5.cell? ⟨gbA, 3, none⟩ = some (.int .i64 a0_3) := (blk_cell BKA.out 3).trans rfl; have hfz6_0 := blk_frozen BKA.out 0; have hfz6_1 := blk_frozen BKA.out 1; have hfz6_2 := blk_frozen BKA.out 2; have hfz6_3 := blk_frozen BKA.out 3) | ((with_reducible refine gate_callee (f := 130) rfl ?_); refine goesL_ (some 5) rfl rfl Try.func130 (by kernel_rfl) rfl #[.agg #[.int .i64 a0_0, .int .i64 a0_1]] rfl zz94 ?_; (with_reducible refine (impl_isCoord.calls k a0_0 a0_1 true _ A2.out).mono ?_); rintro e w7 ⟨rfl, hb⟩; refine ⟨_, rfl, ?_⟩; replace BKA := blkA BKA hb; replace HB := Aside0.mk (below_step zz85 hb); (try clear hb); have hcz8_0 : w7.cell? ⟨gbA, 0, none⟩ = some (.int .i64 a0_0) := (blk_cell BKA.out 0).trans rfl; have hcz8_1 : w7.cell? ⟨gbA, 1, none⟩ = some (.int .i64 a0_1) := (blk_cell BKA.out 1).trans rfl; have hcz8_2 : w7.cell? ⟨gbA, 2, none⟩ = some (.int .i64 a0_2) := (blk_cell BKA.out 2).trans rfl; have hcz8_3 : w7.cell? ⟨gbA, 3, none⟩ = some (.int .i64 a0_3) := (blk_cell BKA.out 3).trans rfl; have hfz8_0 := blk_frozen BKA.out 0; have hfz8_1 := blk_frozen BKA.out 1; have hfz8_2 := blk_frozen BKA.out 2; have hfz8_3 := blk_frozen BKA.out 3) | (go_at_call 130; (with_reducible refine (impl_isCoord.calls k a0_2 a0_3 tC _ A4.out).mono ?_); rintro e w9 ⟨rfl, hb⟩; replace BKA := blkA BKA hb; replace HB := Aside0.mk (below_step zz85 hb); (try clear hb)))
  go_ret
  exact ⟨by first | rfl | (simp [errW_none, errW_some] <;> rfl) | (simp [*, errW_none, errW_some] <;> rfl), by repeat (first | (with_reducible first | exact HB.out | apply below_alloc | apply pw_below_drewN | apply below_drew1 | refine below_set ?_ GEA.out) | exact HB.out)⟩
 ·replace c3 := Bool.eq_false_iff.mpr c3; subst c3; have H1 : (some true) = some r := by rw [if_neg (show ¬ (false = true) by decide)] at H; exact H
  clear H; have H := H1; clear H1; obtain rfl := Option.some.inj H; go_enter Try.func129, Try.ntmps129
  go_wp2_with (first | ((with_reducible refine gate_dst (N := 1) rfl ?_); refine box_event ?hg (N := 1) ?hd (cs := #[.int .i64 a0_0, .int .i64 a0_1, .int .i64 a0_2, .int .i64 a0_3]) (t := 79) ?hr ?_; (case hd => rfl); (case hg => rfl); (case hr => first | (go_simp; done) | (go_simp; rfl)); intro gbA hg w10 hbox hb; have n2_ := gwA (below_size zz95) hg; have n3_ := gwA (below_size zz95) hg; have GWA := n2_; have GEA := n3_; clear n2_ n3_; have BKA := Aside0.mk (hbox); replace HB := Aside0.mk (below_step zz95 hb); clear hb hbox hg; have hcz11_0 : w10.cell? ⟨gbA, 0, none⟩ = some (.int .i64 a0_0) := (blk_cell BKA.out 0).trans rfl; have hcz11_1 : w10.cell? ⟨gbA, 1, none⟩ = some (.int .i64 a0_1) := (blk_cell BKA.out 1).trans rfl; have hcz11_2 : w10.cell? ⟨gbA, 2, none⟩ = some (.int .i64 a0_2) := (blk_cell BKA.out 2).trans rfl; have hcz11_3 : w10.cell? ⟨gbA, 3, none⟩ = some (.int .i64 a0_3) := (blk_cell BKA.out 3).trans rfl; have hfz11_0 := blk_frozen BKA.out 0; have hfz11_1 := blk_frozen BKA.out 1; have hfz11_2 := blk_frozen BKA.out 2; have hfz11_3 := blk_frozen BKA.out 3) | ((with_reducible refine gate_callee (f := 130) rfl ?_); refine goesL_ (some 5) rfl rfl Try.func130 (by kernel_rfl) rfl #[.agg #[.int .i64 a0_0, .int .i64 a0_1]] rfl zz94 ?_; (with_reducible refine (impl_isCoord.calls k a0_0 a0_1 false _ A2.out).mono ?_); rintro e w12 ⟨rfl, hb⟩; refine ⟨_, rfl, ?_⟩; replace BKA := blkA BKA hb; replace HB := Aside0.mk (below_step zz85 hb); (try clear hb)))
  go_ret
  exact ⟨by first | rfl | (simp [errW_none, errW_some] <;> rfl) | (simp [*, errW_none, errW_some] <;> rfl), by repeat (first | (with_reducible first | exact HB.out | apply below_alloc | apply pw_below_drewN | apply below_drew1 | refine below_set ?_ GEA.out) | exact HB.out)⟩
def ContainsFunc_impl_isMap_1.f (k : Nat) (l0 : List S79) : Option Bool := anyS (fun x => impl_isMap_1.f k x.f0.f0 x.f0.f1 x.f1.f0 x.f1.f1) l0
theorem ContainsFunc_impl_isMap_1.calls (k : Nat) (A0 : Option Addr) (c0 : Nat) (l0 : List S79) (r : Bool) (w : World) (hr0 : Kd.C k79 w A0 l0.length l0) (hc0 : l0.length ≤ c0) (h : ContainsFunc_impl_isMap_1.f k l0 = some r) :
  Calls Try.prog 128 #[.slice A0 l0.length c0, .func (.func 129) #[] #[]] w fun e w' => e = .returned (.bool r) ∧ Below w.heap.size w w' := by
 unfold ContainsFunc_impl_isMap_1.f anyS at h
 split at h
 case isFalse => cases h
 case isTrue hl =>
  injection h with h; rw [← h]; exact slices_ContainsFunc_Point.with_ (fun x => (impl_isMap_1.f k x.f0.f0 x.f0.f1 x.f1.f0 x.f1.f1).getD false) 129 #[] A0 c0 l0 w (enters_ Try.func129 (by kernel_rfl) rfl) hr0 hc0
   (fun W x hx _ => impl_isMap_1.calls k x.f0.f0 x.f0.f1 x.f1.f0 x.f1.f1 _ W (someS_get hl x hx))
end Go.Proofs.Ytgejkhbehoabdaa.Q
namespace Go.Proofs.Ytgejkhbehoabdaa.Q
open Go.RowKit Go.Proofs.YtgejkhbehoabdaaW.PrintWords Go.Proofs.YtgejkhbehoabdaaW.PrintLast Go.Proofs.YtgejkhbehoabdaaW.PrintMore
attribute [local go_sem] max2_int min2_int max_two min_two max_three min_three max_four min_four   -- for this text's walks alone
set_option linter.unusedVariables false
set_option linter.unusedSimpArgs false
attribute [local go_sem high] eqA47
def impl_isMap.j0 : Nat → List (S79) → Bool → Option (Bool)
 | 0, _, _ => none
 | k + 1, x0, x10 => if x10 = true then (some false) else (if 0 < (x0.length : Int) then ((impl_zero.f).bind fun btA => (if (((rd_T79 x0 0).f0.f0) == btA.1 && (((rd_T79 x0 0).f0.f1) == btA.2)) = true then (if 0 ≤ (wrap64 ((x0.length : Int) - 1)) then (if (wrap64 ((x0.length : Int) - 1)) < (x0.length : Int) then ((impl_oneRat.f).bind fun btB => (if (((rd_T79 x0 (wrap64 ((x0.length : Int) - 1))).f0.f0) == btB.1 && (((rd_T79 x0 (wrap64 ((x0.length : Int) - 1))).f0.f1) == btB.2)) = true then ((impl_xsOf.f k x0).bind fun tC => ((impl_isRising.f k tC).bind fun tD => (some tD))) else (some false))) else (none)) else (none)) else (some false))) else (none))
def impl_isMap.f (k : Nat) (l0 : List (S79)) : Option (Bool) := (impl_within.f (l0.length : Int) 2 12).bind fun tA => (if tA = true then ((ContainsFunc_impl_isMap_1.f k l0).bind fun tB => (impl_isMap.j0 k l0 tB)) else (impl_isMap.j0 k l0 true))
def impl_isMap.T3 : Bool × List (List Nat × List Nat) := (true, [([], []), ([0], [0]), ([1], [1]), ([2], [2]), ([], []), ([3, 4], [3, 4]), ([5, 4], [5]), ([6], [6]), ([6], [6]), ([8, 6], [6, 8]), ([9, 6], [6, 9]), ([7, 10, 6], [6, 7, 10]), ([11, 6], [6, 11]), ([12, 6], [6, 12]), ([6, 6], [6]), ([13, 14, 6], [6, 13, 14]), ([6, 15], [6, 15]), ([16, 14], [16]), ([17], [17]), ([18, 17, 17], [17, 18]), ([19, 19, 17], [17, 19]), ([17, 20], [17, 20]), ([21, 20, 0, 1, 2, 3, 4, 5, 6, 7, 8, 9, 10, 11, 12, 13, 14, 15, 16, 17, 18, 19, 20, 21], [21])])
def impl_isMap.B3 : List Nat := [0, 1, 3, 7, 0, 31, 63, 127, 127, 383, 895, 2047, 4095, 8191, 127, 32767, 65535, 131071, 262143, 524287, 1048575, 2097151, 4194303]
theorem impl_isMap.tab3 : rtab .any (opsOf Try.f70 3) = impl_isMap.T3 := by kernel_rfl
theorem impl_isMap.bits3 : waitsOk impl_isMap.T3.2 impl_isMap.B3 = true := by kernel_rfl
set_option maxHeartbeats 8000000 in
set_option maxRecDepth 100000 in
theorem impl_isMap.calls (k : Nat) (A0 : Option Addr) (c0 : Nat) (l0 : List (S79)) (r : Bool) (w : World) (hr0 : Kd.C k79 w A0 l0.length l0) (hc0 : l0.length ≤ c0) (h : impl_isMap.f k l0 = some r) :
  Calls Try.prog 70 #[.slice A0 l0.length c0] w fun e w' => e = .returned (.bool r) ∧ Below w.heap.size w w' := by
 have hu47 := Try.underlying47; have HR0 := Aside0.mk hr0; have HC0 := Aside0.mk hc0; clear hr0 hc0; have HB := Aside0.mk (Below.refl w.heap.size w); have H : ((impl_within.f (l0.length : Int) 2 12).bind fun tA => (if tA = true then ((ContainsFunc_impl_isMap_1.f k l0).bind fun tB => (impl_isMap.j0 k l0 tB)) else (impl_isMap.j0 k l0 true))) = some r := h; clear h; have HC2 := Aside0.mk H; clear H; go_enter Try.func70, Try.ntmps70
 go_upto_region 1 with (fail)
 go_cut [10] (fun v10 wc => ∃ (kq : Nat) (x10_1 : Bool), v10 = .bool x10_1 ∧ Aside0 (impl_isMap.j0 kq l0 x10_1 = some r) ∧ Aside0 (kq ≤ k) ∧ Aside0 (Below w.heap.size w wc))
 case first =>
  have H := HC2.out; clear HC2; replace H := Option.bind_eq_some_iff.mp H; obtain ⟨tA, A30, H⟩ := H; replace H : (if tA = true then ((ContainsFunc_impl_isMap_1.f k l0).bind fun tB => (impl_isMap.j0 k l0 tB)) else (impl_isMap.j0 k l0 true)) = some r := H; have A3 := Aside0.mk A30; clear A30; by_cases c4 : tA = true
  ·subst c4; have H1 : ((ContainsFunc_impl_isMap_1.f k l0).bind fun tB => (impl_isMap.j0 k l0 tB)) = some r := by rw [if_pos rfl] at H; exact H
   clear H; have H := H1; clear H1; replace H := Option.bind_eq_some_iff.mp H; obtain ⟨tB, A50, H⟩ := H; replace H : (impl_isMap.j0 k l0 tB) = some r := H; have A5 := Aside0.mk A50; clear A50; have H' := Aside0.mk H; clear H; go_wp2_with (first | ((with_reducible refine gate_callee (f := 71) rfl ?_); refine goesL_ (some 5) rfl rfl Try.func71 (by kernel_rfl) rfl #[.int .i64 (l0.length : Int), .int .i64 2, .int .i64 12] rfl zz94 ?_; (with_reducible refine (impl_within.calls (l0.length : Int) 2 12 true _ A3.out).mono ?_); rintro e w' ⟨rfl, ⟨nd, rfl⟩⟩; refine ⟨_, rfl, ?_⟩) | (go_at_call 128; (with_reducible refine (ContainsFunc_impl_isMap_1.calls k _ _ l0 tB _ ?side1 ?side2 A5.out).mono ?_); (case side1 => repeat (first | exact (Kd.C_below HR0.out zz95) | (with_reducible refine Kd.C_alloc ?_ _) | (with_reducible refine Kd.C_drewN ?_ _) | (with_reducible refine Kd.C_drew ?_))); (case side2 => exact HC0.out); rintro e w6 ⟨rfl, hb⟩; replace HB := Aside0.mk (below_step zz95 hb); (try clear hb)))
   go_meet
   case rel => exact ⟨_, (tB), zz124, H', ⟨by first | omega | exact Nat.le_refl _⟩, ⟨by repeat (first | (with_reducible first | exact HB.out | apply below_alloc | apply pw_below_drewN | apply below_drew1) | exact HB.out)⟩⟩
  ·replace c4 := Bool.eq_false_iff.mpr c4; subst c4; have H1 : (impl_isMap.j0 k l0 true) = some r := by rw [if_neg (show ¬ (false = true) by decide)] at H; exact H
   clear H; have H := H1; clear H1; have H' := Aside0.mk H; clear H; go_wp2_with (first | ((with_reducible refine gate_callee (f := 71) rfl ?_); refine goesL_ (some 5) rfl rfl Try.func71 (by kernel_rfl) rfl #[.int .i64 (l0.length : Int), .int .i64 2, .int .i64 12] rfl zz94 ?_; (with_reducible refine (impl_within.calls (l0.length : Int) 2 12 false _ A3.out).mono ?_); rintro e w' ⟨rfl, ⟨nd, rfl⟩⟩; refine ⟨_, rfl, ?_⟩))
   go_meet
   case rel => exact ⟨_, (true), zz124, H', ⟨by first | omega | exact Nat.le_refl _⟩, ⟨by repeat (first | (with_reducible first | exact HB.out | apply below_alloc | apply pw_below_drewN | apply below_drew1) | exact HB.out)⟩⟩
 case rest =>
  clear HC2; try clear p2
  try clear c4
  obtain ⟨kq, x10_1, rfl, HA, HJ1, HB⟩ := hcut; cases kq with
  | zero => exact absurd HA.out (by simp [impl_isMap.j0])
  | succ kj1 =>
   have H := HA.out; clear HA; simp only [impl_isMap.j0] at H; by_cases c7 : x10_1 = true
   ·subst c7; have H1 : (some false) = some r := by rw [if_pos rfl] at H; exact H
    clear H; have H := H1; clear H1; obtain rfl := Option.some.inj H; go_wp2
    go_ret
    exact ⟨by first | rfl | (simp [errW_none, errW_some] <;> rfl) | (simp [*, errW_none, errW_some] <;> rfl), by repeat (first | (with_reducible first | exact HB.out | apply below_alloc | apply pw_below_drewN | apply below_drew1) | exact HB.out)⟩
   ·replace c7 := Bool.eq_false_iff.mpr c7; subst c7; have H1 : (if 0 < (l0.length : Int) then ((impl_zero.f).bind fun btC => (if (((rd_T79 l0 0).f0.f0) == btC.1 && (((rd_T79 l0 0).f0.f1) == btC.2)) = true then (if 0 ≤ (wrap64 ((l0.length : Int) - 1)) then (if (wrap64 ((l0.length : Int) - 1)) < (l0.length : Int) then ((impl_oneRat.f).bind fun btD => (if (((rd_T79 l0 (wrap64 ((l0.length : Int) - 1))).f0.f0) == btD.1 && (((rd_T79 l0 (wrap64 ((l0.length : Int) - 1))).f0.f1) == btD.2)) = true then ((impl_xsOf.f kj1 l0).bind fun tE => ((impl_isRising.f kj1 tE).bind fun tF => (some tF))) else (some false))) else (none)) else (none)) else (some false))) else (none)) = some r := by rw [if_neg (show ¬ (false = true) by decide)] at H; exact H
    clear H; have H := H1; clear H1; by_cases c8 : 0 < (l0.length : Int)
    ·rw [if_pos c8] at H; have c8b0 : decide (0 < (l0.length : Int)) = true := decide_eq_true c8; have c8b1 : decide (0 < l0.length) = true := decide_eq_true (by omega); clear c8; replace H := Option.bind_eq_some_iff.mp H; obtain ⟨⟨tC, tG⟩, A90, H⟩ := H; replace H : (if (((rd_T79 l0 0).f0.f0) == tC && (((rd_T79 l0 0).f0.f1) == tG)) = true then (if 0 ≤ (wrap64 ((l0.length : Int) - 1)) then (if (wrap64 ((l0.length : Int) - 1)) < (l0.length : Int) then ((impl_oneRat.f).bind fun btD => (if (((rd_T79 l0 (wrap64 ((l0.length : Int) - 1))).f0.f0) == btD.1 && (((rd_T79 l0 (wrap64 ((l0.length : Int) - 1))).f0.f1) == btD.2)) = true then ((impl_xsOf.f kj1 l0).bind fun tE => ((impl_isRising.f kj1 tE).bind fun tF => (some tF))) else (some false))) else (none)) else (none)) else (some false)) = some r := H; have A9 := Aside0.mk A90; clear A90; by_cases c10 : (((rd_T79 l0 0).f0.f0) == tC && (((rd_T79 l0 0).f0.f1) == tG)) = true
     ·rw [if_pos c10] at H; have c10b0 : (((rd_T79 l0 0).f0.f0) == tC && (((rd_T79 l0 0).f0.f1) == tG)) = true := c10; (try (have c10b1 : decide (((rd_T79 l0 0).f0.f0) = tC && (((rd_T79 l0 0).f0.f1) == tG)) = true := by simpa using c10)); (try (have c10b2 : (((rd_T79 l0 0).f0.f0) == tC && (((rd_T79 l0 0).f0.f1) == tG)) = true := by simpa using c10)); clear c10; obtain ⟨ji11, hji11⟩ : ∃ j_ : Int, (wrap64 ((l0.length : Int) - 1)) = j_ := ⟨_, rfl⟩; replace H : (if 0 ≤ (ji11) then (if (ji11) < (l0.length : Int) then ((impl_oneRat.f).bind fun btD => (if (((rd_T79 l0 (ji11)).f0.f0) == btD.1 && (((rd_T79 l0 (ji11)).f0.f1) == btD.2)) = true then ((impl_xsOf.f kj1 l0).bind fun tE => ((impl_isRising.f kj1 tE).bind fun tF => (some tF))) else (some false))) else (none)) else (none)) = some r := by first | (rw [hji11] at H; exact H) | (simp only [hji11] at H ⊢; exact H)
      (try rw [hji11] at A9); have hji11w : (IntKind.i64.wrap ((l0.length : Int) - 1)) = ji11 := (i64_w _).trans hji11; by_cases c12 : 0 ≤ (ji11)
      ·rw [if_pos c12] at H; have c12b0 : decide (0 ≤ (ji11)) = true := decide_eq_true c12; clear c12; by_cases c13 : (ji11) < (l0.length : Int)
       ·rw [if_pos c13] at H; have c13b0 : decide ((ji11) < (l0.length : Int)) = true := decide_eq_true c13; clear c13; replace H := Option.bind_eq_some_iff.mp H; obtain ⟨⟨tD, tH⟩, AI, H⟩ := H; replace H : (if (((rd_T79 l0 (ji11)).f0.f0) == tD && (((rd_T79 l0 (ji11)).f0.f1) == tH)) = true then ((impl_xsOf.f kj1 l0).bind fun tE => ((impl_isRising.f kj1 tE).bind fun tF => (some tF))) else (some false)) = some r := H; have A14 := Aside0.mk AI; clear AI; by_cases c15 : (((rd_T79 l0 (ji11)).f0.f0) == tD && (((rd_T79 l0 (ji11)).f0.f1) == tH)) = true
        ·rw [if_pos c15] at H; have c15b0 : (((rd_T79 l0 (ji11)).f0.f0) == tD && (((rd_T79 l0 (ji11)).f0.f1) == tH)) = true := c15; (try (have c15b1 : decide (((rd_T79 l0 (ji11)).f0.f0) = tD && (((rd_T79 l0 (ji11)).f0.f1) == tH)) = true := by simpa using c15)); (try (have c15b2 : (((rd_T79 l0 (ji11)).f0.f0) == tD && (((rd_T79 l0 (ji11)).f0.f1) == tH)) = true := by simpa using c15)); clear c15; replace H := Option.bind_eq_some_iff.mp H; obtain ⟨tE, AJ, H⟩ := H; replace H : ((impl_isRising.f kj1 tE).bind fun tF => (some tF)) = some r := H; have A16 := Aside0.mk AJ; clear AJ; replace H := Option.bind_eq_some_iff.mp H; obtain ⟨tF, AK, H⟩ := H; replace H : (some tF) = some r := H; have A17 := Aside0.mk AK; clear AK; obtain rfl := Option.some.inj H; try go_wp2
         replace HB := Aside0.mk (below_drew1 HB.out); have pL : 0 ≤ (0 : Int) := (by omega); have qL : 0 < (l0.length : Int) := of_decide_eq_true zz123; obtain ⟨adL, eL, hxL_0, hxL_1, hxL_2, hxL_3⟩ := at_T79 HR0.out 0 pL qL; have hwL_3 := hxL_3; (try rw [show ((0 : Int)).toNat = 0 from rfl] at hwL_3); (try rw [show 0 * 4 = 0 from rfl] at hwL_3); (try rw [Addr.add_zero'] at hwL_3); have hwL_2 := hxL_2; (try rw [show ((0 : Int)).toNat = 0 from rfl] at hwL_2); (try rw [show 0 * 4 = 0 from rfl] at hwL_2); (try rw [Addr.add_zero'] at hwL_2); have hwL_1 := hxL_1; (try rw [show ((0 : Int)).toNat = 0 from rfl] at hwL_1); (try rw [show 0 * 4 = 0 from rfl] at hwL_1); (try rw [Addr.add_zero'] at hwL_1); have hwL_0 := hxL_0; (try rw [show ((0 : Int)).toNat = 0 from rfl] at hwL_0); (try rw [show 0 * 4 = 0 from rfl] at hwL_0); (try rw [Addr.add_zero'] at hwL_0); cases eL
         have qiL : (0 < l0.length) = True := eq_true (by omega); (try rw [show ((0 : Int)).toNat = 0 from rfl] at hxL_0); (try rw [show 0 * 4 = 0 from rfl] at hxL_0); (try rw [Addr.add_zero'] at hxL_0); (try rw [show ((0 : Int)).toNat = 0 from rfl] at hxL_1); (try rw [show 0 * 4 = 0 from rfl] at hxL_1); (try rw [Addr.add_zero'] at hxL_1); (try rw [show ((0 : Int)).toNat = 0 from rfl] at hxL_2); (try rw [show 0 * 4 = 0 from rfl] at hxL_2); (try rw [Addr.add_zero'] at hxL_2); (try rw [show ((0 : Int)).toNat = 0 from rfl] at hxL_3); (try rw [show 0 * 4 = 0 from rfl] at hxL_3); (try rw [Addr.add_zero'] at hxL_3); replace hxL_0 := (HB.out.cell (World.block_lt_of_cell? w _ hxL_0)).trans hxL_0; replace hxL_1 := (HB.out.cell (World.block_lt_of_cell? w _ hxL_1)).trans hxL_1; replace hxL_2 := (HB.out.cell (World.block_lt_of_cell? w _ hxL_2)).trans hxL_2; replace hxL_3 := (HB.out.cell (World.block_lt_of_cell? w _ hxL_3)).trans hxL_3; replace pL := eq_true pL; replace qL := eq_true qL; have pM : 0 ≤ ((ji11) : Int) := of_decide_eq_true zz123; have qM : (ji11) < (l0.length : Int) := of_decide_eq_true zz123; obtain ⟨adM, eM, hxM_0, hxM_1, hxM_2, hxM_3⟩ := at_T79 HR0.out (ji11) pM qM; have hwM_3 := hxM_3; have hwM_2 := hxM_2; have hwM_1 := hxM_1; have hwM_0 := hxM_0; obtain rfl : adL = adM := (by injection eM); replace hxM_0 := (HB.out.cell (World.block_lt_of_cell? w _ hxM_0)).trans hxM_0; replace hxM_1 := (HB.out.cell (World.block_lt_of_cell? w _ hxM_1)).trans hxM_1; replace hxM_2 := (HB.out.cell (World.block_lt_of_cell? w _ hxM_2)).trans hxM_2; replace hxM_3 := (HB.out.cell (World.block_lt_of_cell? w _ hxM_3)).trans hxM_3; replace pM := eq_true pM; replace qM := eq_true qM; refine start_ (n := 23) (S := fun w' => w'.cell? adL = some (.int .i64 ((rd_T79 l0 0).f0.f0)) ∧ w'.cell? ⟨adL.block, adL.off + 1, none⟩ = some (.int .i64 ((rd_T79 l0 0).f0.f1)) ∧ w'.cell? ⟨adL.block, adL.off + 2, none⟩ = some (.int .i64 ((rd_T79 l0 0).f1.f0)) ∧ w'.cell? ⟨adL.block, adL.off + 3, none⟩ = some (.int .i64 ((rd_T79 l0 0).f1.f1)) ∧ w'.cell? (adL.add (((ji11)).toNat * 4)) = some (.int .i64 ((rd_T79 l0 (ji11)).f0.f0)) ∧ w'.cell? ⟨(adL.add (((ji11)).toNat * 4)).block, (adL.add (((ji11)).toNat * 4)).off + 1, none⟩ = some (.int .i64 ((rd_T79 l0 (ji11)).f0.f1)) ∧ w'.cell? ⟨(adL.add (((ji11)).toNat * 4)).block, (adL.add (((ji11)).toNat * 4)).off + 2, none⟩ = some (.int .i64 ((rd_T79 l0 (ji11)).f1.f0)) ∧ w'.cell? ⟨(adL.add (((ji11)).toNat * 4)).block, (adL.add (((ji11)).toNat * 4)).off + 3, none⟩ = some (.int .i64 ((rd_T79 l0 (ji11)).f1.f1))) (ds := []) #[fF, fF, fF, fF, fF, fF, fF, fF, fF, fF, fF, fF, fF, fF, fF, fF, fF, fF, fF, fF, fF, fF, fF] (by kernel_rfl) rfl rfl ⟨((HB.out.cell (World.block_lt_of_cell? w _ hwL_0)).trans hwL_0), ((HB.out.cell (World.block_lt_of_cell? w _ hwL_1)).trans hwL_1), ((HB.out.cell (World.block_lt_of_cell? w _ hwL_2)).trans hwL_2), ((HB.out.cell (World.block_lt_of_cell? w _ hwL_3)).trans hwL_3), ((HB.out.cell (World.block_lt_of_cell? w _ hwM_0)).trans hwM_0), ((HB.out.cell (World.block_lt_of_cell? w _ hwM_1)).trans hwM_1), ((HB.out.cell (World.block_lt_of_cell? w _ hwM_2)).trans hwM_2), ((HB.out.cell (World.block_lt_of_cell? w _ hwM_3)).trans hwM_3)⟩ (fun hHeld => ?_); refine with_tabW impl_isMap.tab3 impl_isMap.bits3 (fun HT_ HW_ => ?_); generalize wc.drew = w18 at HB hxL_0 hxL_1 hxL_2 hxL_3 hxM_0 hxM_1 hxM_2 hxM_3 hHeld ⊢; refine pureA 0 (some 11) #[tT, fF, fF, fF, fF, fF, fF, fF, fF, fF, fF, fF, fF, fF, fF, fF, fF, fF, fF, fF, fF, fF, fF] HT_ ?_; refine pureA 1 (some 12) #[tT, tT, fF, fF, fF, fF, fF, fF, fF, fF, fF, fF, fF, fF, fF, fF, fF, fF, fF, fF, fF, fF, fF] HT_ ?_; refine pureA 2 (some 13) #[tT, tT, tT, fF, fF, fF, fF, fF, fF, fF, fF, fF, fF, fF, fF, fF, fF, fF, fF, fF, fF, fF, fF] HT_ ?_; refine takeA0 3 (some 14) #[tT, tT, tT, tT, fF, fF, fF, fF, fF, fF, fF, fF, fF, fF, fF, fF, fF, fF, fF, fF, fF, fF, fF] HT_ HW_ hHeld ?_; refine one_ (i := 4) (N := some 15) #[tT, tT, tT, tT, tT, fF, fF, fF, fF, fF, fF, fF, fF, fF, fF, fF, fF, fF, fF, fF, fF, fF, fF] rfl rfl (one_of HT_.out (by kernel_rfl)) (by decide) (fun K hK => ?_); refine goes_ Try.func97 (by kernel_rfl) rfl #[] (by rfl) rfl rfl zz94 ?_; with_reducible refine (impl_zero.calls  tC tG _ A9.out).mono ?_
         rintro e w19 ⟨rfl, hb⟩; refine ⟨_, rfl, ?_⟩; replace HB := Aside0.mk (below_step zz95 hb); (try clear hb); refine hK.out _ _ ⟨((HB.out.cell (World.block_lt_of_cell? w _ hwL_0)).trans hwL_0), ((HB.out.cell (World.block_lt_of_cell? w _ hwL_1)).trans hwL_1), ((HB.out.cell (World.block_lt_of_cell? w _ hwL_2)).trans hwL_2), ((HB.out.cell (World.block_lt_of_cell? w _ hwL_3)).trans hwL_3), ((HB.out.cell (World.block_lt_of_cell? w _ hwM_0)).trans hwM_0), ((HB.out.cell (World.block_lt_of_cell? w _ hwM_1)).trans hwM_1), ((HB.out.cell (World.block_lt_of_cell? w _ hwM_2)).trans hwM_2), ((HB.out.cell (World.block_lt_of_cell? w _ hwM_3)).trans hwM_3)⟩ (fun hHeld => ?_); clear hK K; refine normA (some 15) ?_; refine pureA 5 (some 16) #[tT, tT, tT, tT, tT, tT, fF, fF, fF, fF, fF, fF, fF, fF, fF, fF, fF, fF, fF, fF, fF, fF, fF] HT_ ?_; refine pureA 6 (some 17) #[tT, tT, tT, tT, tT, tT, tT, fF, fF, fF, fF, fF, fF, fF, fF, fF, fF, fF, fF, fF, fF, fF, fF] HT_ ?_; refine pureA 7 (some 18) #[tT, tT, tT, tT, tT, tT, tT, tT, fF, fF, fF, fF, fF, fF, fF, fF, fF, fF, fF, fF, fF, fF, fF] HT_ ?_; refine pureA 8 (some 19) #[tT, tT, tT, tT, tT, tT, tT, tT, tT, fF, fF, fF, fF, fF, fF, fF, fF, fF, fF, fF, fF, fF, fF] HT_ ?_; refine pureA 9 (some 20) #[tT, tT, tT, tT, tT, tT, tT, tT, tT, tT, fF, fF, fF, fF, fF, fF, fF, fF, fF, fF, fF, fF, fF] HT_ ?_; refine pureA 10 (some 21) #[tT, tT, tT, tT, tT, tT, tT, tT, tT, tT, tT, fF, fF, fF, fF, fF, fF, fF, fF, fF, fF, fF, fF] HT_ ?_; refine pureA 11 (some 22) #[tT, tT, tT, tT, tT, tT, tT, tT, tT, tT, tT, tT, fF, fF, fF, fF, fF, fF, fF, fF, fF, fF, fF] HT_ ?_; refine pureA 12 (some 23) #[tT, tT, tT, tT, tT, tT, tT, tT, tT, tT, tT, tT, tT, fF, fF, fF, fF, fF, fF, fF, fF, fF, fF] HT_ ?_; refine takeA0 13 (some 24) #[tT, tT, tT, tT, tT, tT, tT, tT, tT, tT, tT, tT, tT, tT, fF, fF, fF, fF, fF, fF, fF, fF, fF] HT_ HW_ hHeld ?_; refine one_ (i := 14) (N := some 25) #[tT, tT, tT, tT, tT, tT, tT, tT, tT, tT, tT, tT, tT, tT, tT, fF, fF, fF, fF, fF, fF, fF, fF] rfl rfl (one_of HT_.out (by kernel_rfl)) (by decide) (fun K hK => ?_); refine goes_ Try.func59 (by kernel_rfl) rfl #[] (by rfl) rfl rfl zz94 ?_; with_reducible refine (impl_oneRat.calls  tD tH _ A14.out).mono ?_
         rintro e w20 ⟨rfl, hb⟩; refine ⟨_, rfl, ?_⟩; replace HB := Aside0.mk (below_step zz95 hb); (try clear hb); refine hK.out _ _ ⟨((HB.out.cell (World.block_lt_of_cell? w _ hwL_0)).trans hwL_0), ((HB.out.cell (World.block_lt_of_cell? w _ hwL_1)).trans hwL_1), ((HB.out.cell (World.block_lt_of_cell? w _ hwL_2)).trans hwL_2), ((HB.out.cell (World.block_lt_of_cell? w _ hwL_3)).trans hwL_3), ((HB.out.cell (World.block_lt_of_cell? w _ hwM_0)).trans hwM_0), ((HB.out.cell (World.block_lt_of_cell? w _ hwM_1)).trans hwM_1), ((HB.out.cell (World.block_lt_of_cell? w _ hwM_2)).trans hwM_2), ((HB.out.cell (World.block_lt_of_cell? w _ hwM_3)).trans hwM_3)⟩ (fun hHeld => ?_); clear hK K; refine normA (some 25) ?_; refine pureA 15 (some 26) #[tT, tT, tT, tT, tT, tT, tT, tT, tT, tT, tT, tT, tT, tT, tT, tT, fF, fF, fF, fF, fF, fF, fF] HT_ ?_; refine pureA 16 (some 27) #[tT, tT, tT, tT, tT, tT, tT, tT, tT, tT, tT, tT, tT, tT, tT, tT, tT, fF, fF, fF, fF, fF, fF] HT_ ?_; refine pureA 17 (some 28) #[tT, tT, tT, tT, tT, tT, tT, tT, tT, tT, tT, tT, tT, tT, tT, tT, tT, tT, fF, fF, fF, fF, fF] HT_ ?_; refine pureA 18 (some 29) #[tT, tT, tT, tT, tT, tT, tT, tT, tT, tT, tT, tT, tT, tT, tT, tT, tT, tT, tT, fF, fF, fF, fF] HT_ ?_; refine one_ (i := 19) (N := some 30) #[tT, tT, tT, tT, tT, tT, tT, tT, tT, tT, tT, tT, tT, tT, tT, tT, tT, tT, tT, tT, fF, fF, fF] rfl rfl (one_of HT_.out (by kernel_rfl)) (by decide) (fun K hK => ?_); refine goes_ Try.func131 (by kernel_rfl) rfl #[.slice (some adL) l0.length c0] (by rfl) rfl rfl zz94 ?_; with_reducible refine (impl_xsOf.calls kj1 _ _ l0 tE _ ?side1 ?side2 A16.out).mono ?_
         (case side1 => repeat (first | exact (Kd.C_below HR0.out HB.out) | (with_reducible refine Kd.C_alloc ?_ _) | (with_reducible refine Kd.C_drewN ?_ _) | (with_reducible refine Kd.C_drew ?_))); (case side2 => exact HC0.out); rintro e w21 ⟨vN, rfl, ho0, hb⟩; refine ⟨_, rfl, ?_⟩; have n0_ := Aside0.mk (Kd.R_lower ho0 (below_size zz95)); have HOO := n0_; clear n0_; replace HB := Aside0.mk (below_step zz95 hb); (try clear hb); (try clear ho0); obtain ⟨Ao22, co22, eo22⟩ := Kd.R_slice HOO.out; (first | subst eo22 | (injection eo22 with f1_ f2_ f3_; have f4_ := f1_.symm; have f5_ := f3_.symm; clear f1_ f2_ f3_; subst f4_; subst f5_))
         refine hK.out _ _ ⟨((HB.out.cell (World.block_lt_of_cell? w _ hwL_0)).trans hwL_0), ((HB.out.cell (World.block_lt_of_cell? w _ hwL_1)).trans hwL_1), ((HB.out.cell (World.block_lt_of_cell? w _ hwL_2)).trans hwL_2), ((HB.out.cell (World.block_lt_of_cell? w _ hwL_3)).trans hwL_3), ((HB.out.cell (World.block_lt_of_cell? w _ hwM_0)).trans hwM_0), ((HB.out.cell (World.block_lt_of_cell? w _ hwM_1)).trans hwM_1), ((HB.out.cell (World.block_lt_of_cell? w _ hwM_2)).trans hwM_2), ((HB.out.cell (World.block_lt_of_cell? w _ hwM_3)).trans hwM_3)⟩ (fun hHeld => ?_); clear hK K; refine normA (some 30) ?_; refine one_ (i := 20) (N := some 31) #[tT, tT, tT, tT, tT, tT, tT, tT, tT, tT, tT, tT, tT, tT, tT, tT, tT, tT, tT, tT, tT, fF, fF] rfl rfl (one_of HT_.out (by kernel_rfl)) (by decide) (fun K hK => ?_); refine goes_ Try.func120 (by kernel_rfl) rfl #[.slice Ao22 tE.length co22] (by rfl) rfl rfl zz94 ?_; with_reducible refine (impl_isRising.calls kj1 _ _ tE tF _ ?side1 ?side2 A17.out).mono ?_
         (case side1 => repeat (first | exact (Kd.R_reads' HOO.out).2.2 | (with_reducible refine Kd.C_alloc ?_ _) | (with_reducible refine Kd.C_drewN ?_ _) | (with_reducible refine Kd.C_drew ?_))); (case side2 => exact (Kd.R_reads' HOO.out).2.1); rintro e w23 ⟨rfl, hb⟩; refine ⟨_, rfl, ?_⟩; have n0_ := Aside0.mk (Kd.R_below (by (with_reducible repeat (first | apply Kd.R_alloc | apply Kd.R_drewN | apply Kd.R_drew)); exact HOO.out) hb); clear HOO; have HOO := n0_; clear n0_; replace HB := Aside0.mk (below_step zz95 hb); (try clear hb); refine hK.out _ _ ⟨((HB.out.cell (World.block_lt_of_cell? w _ hwL_0)).trans hwL_0), ((HB.out.cell (World.block_lt_of_cell? w _ hwL_1)).trans hwL_1), ((HB.out.cell (World.block_lt_of_cell? w _ hwL_2)).trans hwL_2), ((HB.out.cell (World.block_lt_of_cell? w _ hwL_3)).trans hwL_3), ((HB.out.cell (World.block_lt_of_cell? w _ hwM_0)).trans hwM_0), ((HB.out.cell (World.block_lt_of_cell? w _ hwM_1)).trans hwM_1), ((HB.out.cell (World.block_lt_of_cell? w _ hwM_2)).trans hwM_2), ((HB.out.cell (World.block_lt_of_cell? w _ hwM_3)).trans hwM_3)⟩ (fun hHeld => ?_); clear hK K; refine normA (some 31) ?_; refine pureA 21 (some 32) #[tT, tT, tT, tT, tT, tT, tT, tT, tT, tT, tT, tT, tT, tT, tT, tT, tT, tT, tT, tT, tT, tT, fF] HT_ ?_; refine pureA 22 (some 2) #[tT, tT, tT, tT, tT, tT, tT, tT, tT, tT, tT, tT, tT, tT, tT, tT, tT, tT, tT, tT, tT, tT, tT] HT_ ?_; refine done_ (done_of HT_.out (by kernel_rfl)) ?_; try go_wp2
         go_ret
         exact ⟨by first | rfl | (simp [errW_none, errW_some] <;> rfl) | (simp only [← hji11]; first | rfl | (simp [errW_none, errW_some] <;> rfl)) | (simp [*, errW_none, errW_some] <;> rfl), by repeat (first | (with_reducible first | exact HB.out | apply below_alloc | apply pw_below_drewN | apply below_drew1) | exact HB.out)⟩
        ·rw [if_neg c15] at H; have c15b0 : (((rd_T79 l0 (ji11)).f0.f0) == tD && (((rd_T79 l0 (ji11)).f0.f1) == tH)) = false := by simpa using c15
         (try (have c15b1 : decide (((rd_T79 l0 (ji11)).f0.f0) = tD && (((rd_T79 l0 (ji11)).f0.f1) == tH)) = false := by simpa using c15)); (try (have c15b2 : (((rd_T79 l0 (ji11)).f0.f0) == tD && (((rd_T79 l0 (ji11)).f0.f1) == tH)) = false := by simpa using c15)); (try (have c15b3 : ¬ (((rd_T79 l0 (ji11)).f0.f0) = tD && (((rd_T79 l0 (ji11)).f0.f1) == tH)) := by simpa using c15)); clear c15; obtain rfl := Option.some.inj H; try go_wp2
         replace HB := Aside0.mk (below_drew1 HB.out); have pL : 0 ≤ (0 : Int) := (by omega); have qL : 0 < (l0.length : Int) := of_decide_eq_true zz123; obtain ⟨adL, eL, hxL_0, hxL_1, hxL_2, hxL_3⟩ := at_T79 HR0.out 0 pL qL; have hwL_3 := hxL_3; (try rw [show ((0 : Int)).toNat = 0 from rfl] at hwL_3); (try rw [show 0 * 4 = 0 from rfl] at hwL_3); (try rw [Addr.add_zero'] at hwL_3); have hwL_2 := hxL_2; (try rw [show ((0 : Int)).toNat = 0 from rfl] at hwL_2); (try rw [show 0 * 4 = 0 from rfl] at hwL_2); (try rw [Addr.add_zero'] at hwL_2); have hwL_1 := hxL_1; (try rw [show ((0 : Int)).toNat = 0 from rfl] at hwL_1); (try rw [show 0 * 4 = 0 from rfl] at hwL_1); (try rw [Addr.add_zero'] at hwL_1); have hwL_0 := hxL_0; (try rw [show ((0 : Int)).toNat = 0 from rfl] at hwL_0); (try rw [show 0 * 4 = 0 from rfl] at hwL_0); (try rw [Addr.add_zero'] at hwL_0); cases eL
         have qiL : (0 < l0.length) = True := eq_true (by omega); (try rw [show ((0 : Int)).toNat = 0 from rfl] at hxL_0); (try rw [show 0 * 4 = 0 from rfl] at hxL_0); (try rw [Addr.add_zero'] at hxL_0); (try rw [show ((0 : Int)).toNat = 0 from rfl] at hxL_1); (try rw [show 0 * 4 = 0 from rfl] at hxL_1); (try rw [Addr.add_zero'] at hxL_1); (try rw [show ((0 : Int)).toNat = 0 from rfl] at hxL_2); (try rw [show 0 * 4 = 0 from rfl] at hxL_2); (try rw [Addr.add_zero'] at hxL_2); (try rw [show ((0 : Int)).toNat = 0 from rfl] at hxL_3); (try rw [show 0 * 4 = 0 from rfl] at hxL_3); (try rw [Addr.add_zero'] at hxL_3); replace hxL_0 := (HB.out.cell (World.block_lt_of_cell? w _ hxL_0)).trans hxL_0; replace hxL_1 := (HB.out.cell (World.block_lt_of_cell? w _ hxL_1)).trans hxL_1; replace hxL_2 := (HB.out.cell (World.block_lt_of_cell? w _ hxL_2)).trans hxL_2; replace hxL_3 := (HB.out.cell (World.block_lt_of_cell? w _ hxL_3)).trans hxL_3; replace pL := eq_true pL; replace qL := eq_true qL; have pM : 0 ≤ ((ji11) : Int) := of_decide_eq_true zz123; have qM : (ji11) < (l0.length : Int) := of_decide_eq_true zz123; obtain ⟨adM, eM, hxM_0, hxM_1, hxM_2, hxM_3⟩ := at_T79 HR0.out (ji11) pM qM; have hwM_3 := hxM_3; have hwM_2 := hxM_2; have hwM_1 := hxM_1; have hwM_0 := hxM_0; obtain rfl : adL = adM := (by injection eM); replace hxM_0 := (HB.out.cell (World.block_lt_of_cell? w _ hxM_0)).trans hxM_0; replace hxM_1 := (HB.out.cell (World.block_lt_of_cell? w _ hxM_1)).trans hxM_1; replace hxM_2 := (HB.out.cell (World.block_lt_of_cell? w _ hxM_2)).trans hxM_2; replace hxM_3 := (HB.out.cell (World.block_lt_of_cell? w _ hxM_3)).trans hxM_3; replace pM := eq_true pM; replace qM := eq_true qM; refine start_ (n := 23) (S := fun w' => w'.cell? adL = some (.int .i64 ((rd_T79 l0 0).f0.f0)) ∧ w'.cell? ⟨adL.block, adL.off + 1, none⟩ = some (.int .i64 ((rd_T79 l0 0).f0.f1)) ∧ w'.cell? ⟨adL.block, adL.off + 2, none⟩ = some (.int .i64 ((rd_T79 l0 0).f1.f0)) ∧ w'.cell? ⟨adL.block, adL.off + 3, none⟩ = some (.int .i64 ((rd_T79 l0 0).f1.f1)) ∧ w'.cell? (adL.add (((ji11)).toNat * 4)) = some (.int .i64 ((rd_T79 l0 (ji11)).f0.f0)) ∧ w'.cell? ⟨(adL.add (((ji11)).toNat * 4)).block, (adL.add (((ji11)).toNat * 4)).off + 1, none⟩ = some (.int .i64 ((rd_T79 l0 (ji11)).f0.f1)) ∧ w'.cell? ⟨(adL.add (((ji11)).toNat * 4)).block, (adL.add (((ji11)).toNat * 4)).off + 2, none⟩ = some (.int .i64 ((rd_T79 l0 (ji11)).f1.f0)) ∧ w'.cell? ⟨(adL.add (((ji11)).toNat * 4)).block, (adL.add (((ji11)).toNat * 4)).off + 3, none⟩ = some (.int .i64 ((rd_T79 l0 (ji11)).f1.f1))) (ds := []) #[fF, fF, fF, fF, fF, fF, fF, fF, fF, fF, fF, fF, fF, fF, fF, fF, fF, fF, fF, fF, fF, fF, fF] (by kernel_rfl) rfl rfl ⟨((HB.out.cell (World.block_lt_of_cell? w _ hwL_0)).trans hwL_0), ((HB.out.cell (World.block_lt_of_cell? w _ hwL_1)).trans hwL_1), ((HB.out.cell (World.block_lt_of_cell? w _ hwL_2)).trans hwL_2), ((HB.out.cell (World.block_lt_of_cell? w _ hwL_3)).trans hwL_3), ((HB.out.cell (World.block_lt_of_cell? w _ hwM_0)).trans hwM_0), ((HB.out.cell (World.block_lt_of_cell? w _ hwM_1)).trans hwM_1), ((HB.out.cell (World.block_lt_of_cell? w _ hwM_2)).trans hwM_2), ((HB.out.cell (World.block_lt_of_cell? w _ hwM_3)).trans hwM_3)⟩ (fun hHeld => ?_); refine with_tabW impl_isMap.tab3 impl_isMap.bits3 (fun HT_ HW_ => ?_); generalize wc.drew = w24 at HB hxL_0 hxL_1 hxL_2 hxL_3 hxM_0 hxM_1 hxM_2 hxM_3 hHeld ⊢; refine pureA 0 (some 11) #[tT, fF, fF, fF, fF, fF, fF, fF, fF, fF, fF, fF, fF, fF, fF, fF, fF, fF, fF, fF, fF, fF, fF] HT_ ?_; refine pureA 1 (some 12) #[tT, tT, fF, fF, fF, fF, fF, fF, fF, fF, fF, fF, fF, fF, fF, fF, fF, fF, fF, fF, fF, fF, fF] HT_ ?_; refine pureA 2 (some 13) #[tT, tT, tT, fF, fF, fF, fF, fF, fF, fF, fF, fF, fF, fF, fF, fF, fF, fF, fF, fF, fF, fF, fF] HT_ ?_; refine takeA0 3 (some 14) #[tT, tT, tT, tT, fF, fF, fF, fF, fF, fF, fF, fF, fF, fF, fF, fF, fF, fF, fF, fF, fF, fF, fF] HT_ HW_ hHeld ?_; refine one_ (i := 4) (N := some 15) #[tT, tT, tT, tT, tT, fF, fF, fF, fF, fF, fF, fF, fF, fF, fF, fF, fF, fF, fF, fF, fF, fF, fF] rfl rfl (one_of HT_.out (by kernel_rfl)) (by decide) (fun K hK => ?_); refine goes_ Try.func97 (by kernel_rfl) rfl #[] (by rfl) rfl rfl zz94 ?_; with_reducible refine (impl_zero.calls  tC tG _ A9.out).mono ?_
         rintro e w25 ⟨rfl, hb⟩; refine ⟨_, rfl, ?_⟩; replace HB := Aside0.mk (below_step zz95 hb); (try clear hb); refine hK.out _ _ ⟨((HB.out.cell (World.block_lt_of_cell? w _ hwL_0)).trans hwL_0), ((HB.out.cell (World.block_lt_of_cell? w _ hwL_1)).trans hwL_1), ((HB.out.cell (World.block_lt_of_cell? w _ hwL_2)).trans hwL_2), ((HB.out.cell (World.block_lt_of_cell? w _ hwL_3)).trans hwL_3), ((HB.out.cell (World.block_lt_of_cell? w _ hwM_0)).trans hwM_0), ((HB.out.cell (World.block_lt_of_cell? w _ hwM_1)).trans hwM_1), ((HB.out.cell (World.block_lt_of_cell? w _ hwM_2)).trans hwM_2), ((HB.out.cell (World.block_lt_of_cell? w _ hwM_3)).trans hwM_3)⟩ (fun hHeld => ?_); clear hK K; refine normA (some 15) ?_; refine pureA 5 (some 16) #[tT, tT, tT, tT, tT, tT, fF, fF, fF, fF, fF, fF, fF, fF, fF, fF, fF, fF, fF, fF, fF, fF, fF] HT_ ?_; refine pureA 6 (some 17) #[tT, tT, tT, tT, tT, tT, tT, fF, fF, fF, fF, fF, fF, fF, fF, fF, fF, fF, fF, fF, fF, fF, fF] HT_ ?_; refine pureA 7 (some 18) #[tT, tT, tT, tT, tT, tT, tT, tT, fF, fF, fF, fF, fF, fF, fF, fF, fF, fF, fF, fF, fF, fF, fF] HT_ ?_; refine pureA 8 (some 19) #[tT, tT, tT, tT, tT, tT, tT, tT, tT, fF, fF, fF, fF, fF, fF, fF, fF, fF, fF, fF, fF, fF, fF] HT_ ?_; refine pureA 9 (some 20) #[tT, tT, tT, tT, tT, tT, tT, tT, tT, tT, fF, fF, fF, fF, fF, fF, fF, fF, fF, fF, fF, fF, fF] HT_ ?_; refine pureA 10 (some 21) #[tT, tT, tT, tT, tT, tT, tT, tT, tT, tT, tT, fF, fF, fF, fF, fF, fF, fF, fF, fF, fF, fF, fF] HT_ ?_; refine pureA 11 (some 22) #[tT, tT, tT, tT, tT, tT, tT, tT, tT, tT, tT, tT, fF, fF, fF, fF, fF, fF, fF, fF, fF, fF, fF] HT_ ?_; refine pureA 12 (some 23) #[tT, tT, tT, tT, tT, tT, tT, tT, tT, tT, tT, tT, tT, fF, fF, fF, fF, fF, fF, fF, fF, fF, fF] HT_ ?_; refine takeA0 13 (some 24) #[tT, tT, tT, tT, tT, tT, tT, tT, tT, tT, tT, tT, tT, tT, fF, fF, fF, fF, fF, fF, fF, fF, fF] HT_ HW_ hHeld ?_; refine one_ (i := 14) (N := some 25) #[tT, tT, tT, tT, tT, tT, tT, tT, tT, tT, tT, tT, tT, tT, tT, fF, fF, fF, fF, fF, fF, fF, fF] rfl rfl (one_of HT_.out (by kernel_rfl)) (by decide) (fun K hK => ?_); refine goes_ Try.func59 (by kernel_rfl) rfl #[] (by rfl) rfl rfl zz94 ?_; with_reducible refine (impl_oneRat.calls  tD tH _ A14.out).mono ?_
         rintro e w26 ⟨rfl, hb⟩; refine ⟨_, rfl, ?_⟩; replace HB := Aside0.mk (below_step zz95 hb); (try clear hb); refine hK.out _ _ ⟨((HB.out.cell (World.block_lt_of_cell? w _ hwL_0)).trans hwL_0), ((HB.out.cell (World.block_lt_of_cell? w _ hwL_1)).trans hwL_1), ((HB.out.cell (World.block_lt_of_cell? w _ hwL_2)).trans hwL_2), ((HB.out.cell (World.block_lt_of_cell? w _ hwL_3)).trans hwL_3), ((HB.out.cell (World.block_lt_of_cell? w _ hwM_0)).trans hwM_0), ((HB.out.cell (World.block_lt_of_cell? w _ hwM_1)).trans hwM_1), ((HB.out.cell (World.block_lt_of_cell? w _ hwM_2)).trans hwM_2), ((HB.out.cell (World.block_lt_of_cell? w _ hwM_3)).trans hwM_3)⟩ (fun hHeld => ?_); clear hK K; refine normA (some 25) ?_; refine pureA 15 (some 26) #[tT, tT, tT, tT, tT, tT, tT, tT, tT, tT, tT, tT, tT, tT, tT, tT, fF, fF, fF, fF, fF, fF, fF] HT_ ?_; refine pureA 16 (some 27) #[tT, tT, tT, tT, tT, tT, tT, tT, tT, tT, tT, tT, tT, tT, tT, tT, tT, fF, fF, fF, fF, fF, fF] HT_ ?_; refine pureA 17 (some 28) #[tT, tT, tT, tT, tT, tT, tT, tT, tT, tT, tT, tT, tT, tT, tT, tT, tT, tT, fF, fF, fF, fF, fF] HT_ ?_; refine pureU 18 (some 29) #[tT, tT, tT, tT, tT, tT, tT, tT, tT, tT, tT, tT, tT, tT, tT, tT, tT, tT, tT, fF, fF, fF, fF] HT_ ?_; refine pureU 19 (some 30) #[tT, tT, tT, tT, tT, tT, tT, tT, tT, tT, tT, tT, tT, tT, tT, tT, tT, tT, tT, tT, fF, fF, fF] HT_ ?_; refine pureU 20 (some 31) #[tT, tT, tT, tT, tT, tT, tT, tT, tT, tT, tT, tT, tT, tT, tT, tT, tT, tT, tT, tT, tT, fF, fF] HT_ ?_; refine pureA 21 (some 32) #[tT, tT, tT, tT, tT, tT, tT, tT, tT, tT, tT, tT, tT, tT, tT, tT, tT, tT, tT, tT, tT, tT, fF] HT_ ?_; refine pureA 22 (some 2) #[tT, tT, tT, tT, tT, tT, tT, tT, tT, tT, tT, tT, tT, tT, tT, tT, tT, tT, tT, tT, tT, tT, tT] HT_ ?_; refine done_ (done_of HT_.out (by kernel_rfl)) ?_; try go_wp2
         go_ret
         exact ⟨by first | rfl | (simp [errW_none, errW_some] <;> rfl) | (simp only [← hji11]; first | rfl | (simp [errW_none, errW_some] <;> rfl)) | (simp [*, errW_none, errW_some] <;> rfl), by repeat (first | (with_reducible first | exact HB.out | apply below_alloc | apply pw_below_drewN | apply below_drew1) | exact HB.out)⟩
       ·rw [if_neg c13] at H; exact absurd H (by simp)
      ·rw [if_neg c12] at H; exact absurd H (by simp)
     ·rw [if_neg c10] at H; have c10b0 : (((rd_T79 l0 0).f0.f0) == tC && (((rd_T79 l0 0).f0.f1) == tG)) = false := by simpa using c10
      (try (have c10b1 : decide (((rd_T79 l0 0).f0.f0) = tC && (((rd_T79 l0 0).f0.f1) == tG)) = false := by simpa using c10)); (try (have c10b2 : (((rd_T79 l0 0).f0.f0) == tC && (((rd_T79 l0 0).f0.f1) == tG)) = false := by simpa using c10)); (try (have c10b3 : ¬ (((rd_T79 l0 0).f0.f0) = tC && (((rd_T79 l0 0).f0.f1) == tG)) := by simpa using c10)); clear c10; obtain rfl := Option.some.inj H; try go_wp2
      replace HB := Aside0.mk (below_drew1 HB.out); have pL : 0 ≤ (0 : Int) := (by omega); have qL : 0 < (l0.length : Int) := of_decide_eq_true zz123; obtain ⟨adL, eL, hxL_0, hxL_1, hxL_2, hxL_3⟩ := at_T79 HR0.out 0 pL qL; have hwL_3 := hxL_3; (try rw [show ((0 : Int)).toNat = 0 from rfl] at hwL_3); (try rw [show 0 * 4 = 0 from rfl] at hwL_3); (try rw [Addr.add_zero'] at hwL_3); have hwL_2 := hxL_2; (try rw [show ((0 : Int)).toNat = 0 from rfl] at hwL_2); (try rw [show 0 * 4 = 0 from rfl] at hwL_2); (try rw [Addr.add_zero'] at hwL_2); have hwL_1 := hxL_1; (try rw [show ((0 : Int)).toNat = 0 from rfl] at hwL_1); (try rw [show 0 * 4 = 0 from rfl] at hwL_1); (try rw [Addr.add_zero'] at hwL_1); have hwL_0 := hxL_0; (try rw [show ((0 : Int)).toNat = 0 from rfl] at hwL_0); (try rw [show 0 * 4 = 0 from rfl] at hwL_0); (try rw [Addr.add_zero'] at hwL_0); cases eL
      have qiL : (0 < l0.length) = True := eq_true (by omega); (try rw [show ((0 : Int)).toNat = 0 from rfl] at hxL_0); (try rw [show 0 * 4 = 0 from rfl] at hxL_0); (try rw [Addr.add_zero'] at hxL_0); (try rw [show ((0 : Int)).toNat = 0 from rfl] at hxL_1); (try rw [show 0 * 4 = 0 from rfl] at hxL_1); (try rw [Addr.add_zero'] at hxL_1); (try rw [show ((0 : Int)).toNat = 0 from rfl] at hxL_2); (try rw [show 0 * 4 = 0 from rfl] at hxL_2); (try rw [Addr.add_zero'] at hxL_2); (try rw [show ((0 : Int)).toNat = 0 from rfl] at hxL_3); (try rw [show 0 * 4 = 0 from rfl] at hxL_3); (try rw [Addr.add_zero'] at hxL_3); replace hxL_0 := (HB.out.cell (World.block_lt_of_cell? w _ hxL_0)).trans hxL_0; replace hxL_1 := (HB.out.cell (World.block_lt_of_cell? w _ hxL_1)).trans hxL_1; replace hxL_2 := (HB.out.cell (World.block_lt_of_cell? w _ hxL_2)).trans hxL_2; replace hxL_3 := (HB.out.cell (World.block_lt_of_cell? w _ hxL_3)).trans hxL_3; replace pL := eq_true pL; replace qL := eq_true qL; refine start_ (n := 23) (S := fun w' => w'.cell? adL = some (.int .i64 ((rd_T79 l0 0).f0.f0)) ∧ w'.cell? ⟨adL.block, adL.off + 1, none⟩ = some (.int .i64 ((rd_T79 l0 0).f0.f1)) ∧ w'.cell? ⟨adL.block, adL.off + 2, none⟩ = some (.int .i64 ((rd_T79 l0 0).f1.f0)) ∧ w'.cell? ⟨adL.block, adL.off + 3, none⟩ = some (.int .i64 ((rd_T79 l0 0).f1.f1))) (ds := []) #[fF, fF, fF, fF, fF, fF, fF, fF, fF, fF, fF, fF, fF, fF, fF, fF, fF, fF, fF, fF, fF, fF, fF] (by kernel_rfl) rfl rfl ⟨((HB.out.cell (World.block_lt_of_cell? w _ hwL_0)).trans hwL_0), ((HB.out.cell (World.block_lt_of_cell? w _ hwL_1)).trans hwL_1), ((HB.out.cell (World.block_lt_of_cell? w _ hwL_2)).trans hwL_2), ((HB.out.cell (World.block_lt_of_cell? w _ hwL_3)).trans hwL_3)⟩ (fun hHeld => ?_); refine with_tabW impl_isMap.tab3 impl_isMap.bits3 (fun HT_ HW_ => ?_); generalize wc.drew = w27 at HB hxL_0 hxL_1 hxL_2 hxL_3 hHeld ⊢; refine pureA 0 (some 11) #[tT, fF, fF, fF, fF, fF, fF, fF, fF, fF, fF, fF, fF, fF, fF, fF, fF, fF, fF, fF, fF, fF, fF] HT_ ?_; refine pureA 1 (some 12) #[tT, tT, fF, fF, fF, fF, fF, fF, fF, fF, fF, fF, fF, fF, fF, fF, fF, fF, fF, fF, fF, fF, fF] HT_ ?_; refine pureA 2 (some 13) #[tT, tT, tT, fF, fF, fF, fF, fF, fF, fF, fF, fF, fF, fF, fF, fF, fF, fF, fF, fF, fF, fF, fF] HT_ ?_; refine takeA1 3 (some 14) #[tT, tT, tT, tT, fF, fF, fF, fF, fF, fF, fF, fF, fF, fF, fF, fF, fF, fF, fF, fF, fF, fF, fF] HT_ HW_ hHeld ?_; refine one_ (i := 4) (N := some 15) #[tT, tT, tT, tT, tT, fF, fF, fF, fF, fF, fF, fF, fF, fF, fF, fF, fF, fF, fF, fF, fF, fF, fF] rfl rfl (one_of HT_.out (by kernel_rfl)) (by decide) (fun K hK => ?_); refine goes_ Try.func97 (by kernel_rfl) rfl #[] (by rfl) rfl rfl zz94 ?_; with_reducible refine (impl_zero.calls  tC tG _ A9.out).mono ?_
      rintro e w28 ⟨rfl, hb⟩; refine ⟨_, rfl, ?_⟩; replace HB := Aside0.mk (below_step zz95 hb); (try clear hb); refine hK.out _ _ ⟨((HB.out.cell (World.block_lt_of_cell? w _ hwL_0)).trans hwL_0), ((HB.out.cell (World.block_lt_of_cell? w _ hwL_1)).trans hwL_1), ((HB.out.cell (World.block_lt_of_cell? w _ hwL_2)).trans hwL_2), ((HB.out.cell (World.block_lt_of_cell? w _ hwL_3)).trans hwL_3)⟩ (fun hHeld => ?_); clear hK K; refine normA (some 15) ?_; refine pureA 5 (some 16) #[tT, tT, tT, tT, tT, tT, fF, fF, fF, fF, fF, fF, fF, fF, fF, fF, fF, fF, fF, fF, fF, fF, fF] HT_ ?_; refine pureA 6 (some 17) #[tT, tT, tT, tT, tT, tT, tT, fF, fF, fF, fF, fF, fF, fF, fF, fF, fF, fF, fF, fF, fF, fF, fF] HT_ ?_; refine pureU 7 (some 18) #[tT, tT, tT, tT, tT, tT, tT, tT, fF, fF, fF, fF, fF, fF, fF, fF, fF, fF, fF, fF, fF, fF, fF] HT_ ?_; refine pureU 8 (some 19) #[tT, tT, tT, tT, tT, tT, tT, tT, tT, fF, fF, fF, fF, fF, fF, fF, fF, fF, fF, fF, fF, fF, fF] HT_ ?_; refine pureU 9 (some 20) #[tT, tT, tT, tT, tT, tT, tT, tT, tT, tT, fF, fF, fF, fF, fF, fF, fF, fF, fF, fF, fF, fF, fF] HT_ ?_; refine pureU 10 (some 21) #[tT, tT, tT, tT, tT, tT, tT, tT, tT, tT, tT, fF, fF, fF, fF, fF, fF, fF, fF, fF, fF, fF, fF] HT_ ?_; refine pureU 11 (some 22) #[tT, tT, tT, tT, tT, tT, tT, tT, tT, tT, tT, tT, fF, fF, fF, fF, fF, fF, fF, fF, fF, fF, fF] HT_ ?_; refine pureU 12 (some 23) #[tT, tT, tT, tT, tT, tT, tT, tT, tT, tT, tT, tT, tT, fF, fF, fF, fF, fF, fF, fF, fF, fF, fF] HT_ ?_; refine pureU 13 (some 24) #[tT, tT, tT, tT, tT, tT, tT, tT, tT, tT, tT, tT, tT, tT, fF, fF, fF, fF, fF, fF, fF, fF, fF] HT_ ?_; refine pureU 14 (some 25) #[tT, tT, tT, tT, tT, tT, tT, tT, tT, tT, tT, tT, tT, tT, tT, fF, fF, fF, fF, fF, fF, fF, fF] HT_ ?_; refine pureU 15 (some 26) #[tT, tT, tT, tT, tT, tT, tT, tT, tT, tT, tT, tT, tT, tT, tT, tT, fF, fF, fF, fF, fF, fF, fF] HT_ ?_; refine pureA 16 (some 27) #[tT, tT, tT, tT, tT, tT, tT, tT, tT, tT, tT, tT, tT, tT, tT, tT, tT, fF, fF, fF, fF, fF, fF] HT_ ?_; refine pureA 17 (some 28) #[tT, tT, tT, tT, tT, tT, tT, tT, tT, tT, tT, tT, tT, tT, tT, tT, tT, tT, fF, fF, fF, fF, fF] HT_ ?_; refine pureU 18 (some 29) #[tT, tT, tT, tT, tT, tT, tT, tT, tT, tT, tT, tT, tT, tT, tT, tT, tT, tT, tT, fF, fF, fF, fF] HT_ ?_; refine pureU 19 (some 30) #[tT, tT, tT, tT, tT, tT, tT, tT, tT, tT, tT, tT, tT, tT, tT, tT, tT, tT, tT, tT, fF, fF, fF] HT_ ?_; refine pureU 20 (some 31) #[tT, tT, tT, tT, tT, tT, tT, tT, tT, tT, tT, tT, tT, tT, tT, tT, tT, tT, tT, tT, tT, fF, fF] HT_ ?_; refine pureA 21 (some 32) #[tT, tT, tT, tT, tT, tT, tT, tT, tT, tT, tT, tT, tT, tT, tT, tT, tT, tT, tT, tT, tT, tT, fF] HT_ ?_; refine pureA 22 (some 2) #[tT, tT, tT, tT, tT, tT, tT, tT, tT, tT, tT, tT, tT, tT, tT, tT, tT, tT, tT, tT, tT, tT, tT] HT_ ?_; refine done_ (done_of HT_.out (by kernel_rfl)) ?_; try go_wp2
      go_ret
      exact ⟨by first | rfl | (simp [errW_none, errW_some] <;> rfl) | (simp [*, errW_none, errW_some] <;> rfl), by repeat (first | (with_reducible first | exact HB.out | apply below_alloc | apply pw_below_drewN | apply below_drew1) | exact HB.out)⟩
    ·rw [if_neg c8] at H; exact absurd H (by simp)
end Go.Proofs.Ytgejkhbehoabdaa.Q
namespace Go.Proofs.Ytgejkhbehoabdaa.Q
open Go.RowKit Go.Proofs.YtgejkhbehoabdaaW.PrintWords Go.Proofs.YtgejkhbehoabdaaW.PrintLast Go.Proofs.YtgejkhbehoabdaaW.PrintMore
attribute [local go_sem] max2_int min2_int max_two min_two max_three min_three max_four min_four   -- for this text's walks alone
set_option linter.unusedVariables false
set_option linter.unusedSimpArgs false
def impl_DivideRats.f (k : Nat) (a0_0 : Int) (a0_1 : Int) (a1_0 : Int) (a1_1 : Int) : Option (Int × Int × Bool) := (impl_areRats.f k (([(⟨a0_0, a0_1⟩ : S47), (⟨a1_0, a1_1⟩ : S47)] : List (S47)))).bind fun tA => (if tA = true then (if a1_0 = 0 then (some (0, 0, false)) else ((impl_lowest.f k (wrap64 (a0_0 * a1_1)) (wrap64 (a0_1 * a1_0))).bind fun btB => (some (btB.1, btB.2.1, btB.2.2)))) else (some (0, 0, false)))
theorem zz114 {p : Prop} (h : p := by (with_reducible repeat (first | apply Kd.R_alloc | apply Kd.R_drewN | apply Kd.R_drew)); exact HOA.out) : p := h
theorem zz105 {p : Prop} (h : p := by (with_reducible repeat (first | refine blk_drewN ?_ _ | refine blk_drew ?_ | refine blk_alloc ?_ _)); exact BKB.out) : p := h
theorem zz104 {p : Prop} (h : p := by (with_reducible repeat (first | refine blk_drewN ?_ _ | refine blk_drew ?_ | refine blk_alloc ?_ _)); exact BKC.out) : p := h
theorem zz103 {p : Prop} (h : p := by (with_reducible repeat (first | refine blk_drewN ?_ _ | refine blk_drew ?_ | refine blk_alloc ?_ _)); exact BKD.out) : p := h
theorem zz86 {p : Prop} (h : p := by repeat (first | (with_reducible first | exact HB.out | apply below_alloc | apply pw_below_drewN | apply below_drew1 | refine below_set ?_ GED.out) | exact HB.out)) : p := h
theorem zz47 {p : Prop} (h : p := by repeat (first | (with_reducible first | exact HB.out | apply below_alloc | apply pw_below_drewN | apply below_drew1 | refine below_set ?_ GED.out | refine below_set ?_ GEC.out) | exact HB.out)) : p := h
theorem zz28 {p : Prop} (h : p := by repeat (first | (with_reducible first | exact HB.out | apply below_alloc | apply pw_below_drewN | apply below_drew1 | refine below_set ?_ GED.out | refine below_set ?_ GEC.out | refine below_set ?_ GEB.out) | exact HB.out)) : p := h
theorem zz8 {p : Prop} (h : p := by (with_reducible repeat (first | refine blk_drewN ?_ _ | refine blk_drew ?_ | refine blk_alloc ?_ _)); refine blk_put (cs := #[.int .i64 0, .int .i64 0]) ?_ 1 _ rfl; (with_reducible repeat (first | refine blk_drewN ?_ _ | refine blk_drew ?_ | refine blk_alloc ?_ _)); refine blk_put (cs := #[.int .i64 0, .int .i64 0]) ?_ 0 _ rfl; (with_reducible repeat (first | refine blk_drewN ?_ _ | refine blk_drew ?_ | refine blk_alloc ?_ _)); exact BKB.out) : p := h
set_option maxHeartbeats 8000000 in
set_option maxRecDepth 100000 in
theorem impl_DivideRats.calls (k : Nat) (a0_0 : Int) (a0_1 : Int) (a1_0 : Int) (a1_1 : Int) (r1 : Int) (r2 : Int) (r3 : Bool) (w : World) (h : impl_DivideRats.f k a0_0 a0_1 a1_0 a1_1 = some (r1, r2, r3)) :
  Calls Try.prog 177 #[.agg #[.int .i64 a0_0, .int .i64 a0_1], .agg #[.int .i64 a1_0, .int .i64 a1_1]] w fun e w' => e = .returned (.tuple #[.agg #[.int .i64 r1, .int .i64 r2], .bool r3]) ∧ Below w.heap.size w w' := by
 have hu47 := Try.underlying47; have HB := Aside0.mk (Below.refl w.heap.size w); have H : ((impl_areRats.f k (([(⟨a0_0, a0_1⟩ : S47), (⟨a1_0, a1_1⟩ : S47)] : List (S47)))).bind fun tE => (if tE = true then (if a1_0 = 0 then (some (0, 0, false)) else ((impl_lowest.f k (wrap64 (a0_0 * a1_1)) (wrap64 (a0_1 * a1_0))).bind fun btF => (some (btF.1, btF.2.1, btF.2.2)))) else (some (0, 0, false)))) = some (r1, r2, r3) := h; clear h; obtain ⟨yG, hyG⟩ : ∃ y_ : List (S47), y_ = (([(⟨a0_0, a0_1⟩ : S47), (⟨a1_0, a1_1⟩ : S47)] : List (S47))) := ⟨_, rfl⟩; replace H : ((impl_areRats.f k yG).bind fun tE => (if tE = true then (if a1_0 = 0 then (some (0, 0, false)) else ((impl_lowest.f k (wrap64 (a0_0 * a1_1)) (wrap64 (a0_1 * a1_0))).bind fun btF => (some (btF.1, btF.2.1, btF.2.2)))) else (some (0, 0, false)))) = some (r1, r2, r3) := by first | (rw [hyG]; with_reducible exact H) | (have H2_ := (Option.bind_some _ _).symm.trans H; rw [hyG]; with_reducible exact H2_) | (have H2_ := (Option.bind_some _ _).symm.trans H; with_reducible exact H2_) | with_reducible exact H | (rw [hyG]; exact H) | exact H
 have NyG := Aside0.mk hyG; clear hyG; replace H := Option.bind_eq_some_iff.mp H; obtain ⟨tE, A30, H⟩ := H; replace H : (if tE = true then (if a1_0 = 0 then (some (0, 0, false)) else ((impl_lowest.f k (wrap64 (a0_0 * a1_1)) (wrap64 (a0_1 * a1_0))).bind fun btF => (some (btF.1, btF.2.1, btF.2.2)))) else (some (0, 0, false))) = some (r1, r2, r3) := H; have A3 := Aside0.mk A30; clear A30; by_cases c4 : tE = true
 ·subst c4; have H1 : (if a1_0 = 0 then (some (0, 0, false)) else ((impl_lowest.f k (wrap64 (a0_0 * a1_1)) (wrap64 (a0_1 * a1_0))).bind fun btF => (some (btF.1, btF.2.1, btF.2.2)))) = some (r1, r2, r3) := by rw [if_pos rfl] at H; exact H
  clear H; have H := H1; clear H1; by_cases c5 : a1_0 = 0
  ·rw [if_pos c5] at H; have c5b0 : (a1_0 == 0) = true := beq_iff_eq.mpr c5; have c5b1 : (a1_0 != 0) = false := bne_eq_false_iff_eq.mpr c5; clear c5; simp only [Option.some.injEq, Prod.mk.injEq] at H; obtain ⟨rfl, rfl, rfl⟩ := H; go_enter Try.func177, Try.ntmps177
   go_wp2_with (first | ((with_reducible refine gate_dst (N := 2) rfl ?_); refine box_event ?hg (N := 2) ?hd (cs := #[.int .i64 a0_0, .int .i64 a0_1]) (t := 47) ?hr ?_; (case hd => rfl); (case hg => rfl); (case hr => first | (go_simp; done) | (go_simp; rfl)); intro gbD hg w6 hbox hb; have n2_ := gwA (below_size zz95) hg; have n3_ := gwA (below_size zz95) hg; have GWD := n2_; have GED := n3_; clear n2_ n3_; have BKD := Aside0.mk (hbox); replace HB := Aside0.mk (below_step zz95 hb); clear hb hbox hg) | ((with_reducible refine gate_dst (N := 3) rfl ?_); refine box_event ?hg (N := 3) ?hd (cs := #[.int .i64 a1_0, .int .i64 a1_1]) (t := 47) ?hr ?_; (case hd => rfl); (case hg => rfl); (case hr => first | (go_simp; done) | (go_simp; rfl)); intro gbC hg w7 hbox hb; have n3_ := gwA (below_size zz86) hg; have n4_ := gwA (below_size zz86) hg; have n5_ := nltA BKD hg; have n6_ := ngtA BKD hg; have GWC := n3_; have GEC := n4_; have NBD_C := n5_; have NBC_D := n6_; clear n3_ n4_ n5_ n6_; replace BKD := blkA BKD hb; have BKC := Aside0.mk (hbox); replace HB := Aside0.mk (below_step zz86 hb); clear hb hbox hg) | ((with_reducible refine gate_dst (N := 4) rfl ?_); refine box_event ?hg (N := 4) ?hd (cs := #[.int .i64 0, .int .i64 0]) (t := 47) ?hr ?_; (case hd => rfl); (case hg => rfl); (case hr => first | (go_simp; done) | (go_simp; rfl)); intro gbB hg w8 hbox hb; have n4_ := gwA (below_size zz47) hg; have n5_ := gwA (below_size zz47) hg; have n6_ := nltA BKD hg; have n7_ := ngtA BKD hg; have n8_ := nltA BKC hg; have n9_ := ngtA BKC hg; have GWB := n4_; have GEB := n5_; have NBD_B := n6_; have NBB_D := n7_; have NBC_B := n8_; have NBB_C := n9_; clear n4_ n5_ n6_ n7_ n8_ n9_; replace BKD := blkA BKD hb; replace BKC := blkA BKC hb; have BKB := Aside0.mk (hbox); replace HB := Aside0.mk (below_step zz47 hb); clear hb hbox hg; have hnb9 := NBD_C.out; have hnc9 := NBC_D.out; have hnb10 := NBD_B.out; have hnc10 := NBB_D.out; have hcz11_0 : w8.cell? ⟨gbD, 0, none⟩ = some (.int .i64 a0_0) := (blk_cell BKD.out 0).trans rfl; have hcz11_1 : w8.cell? ⟨gbD, 1, none⟩ = some (.int .i64 a0_1) := (blk_cell BKD.out 1).trans rfl; have hfz11_0 := blk_frozen BKD.out 0; have hfz11_1 := blk_frozen BKD.out 1; have hnb12 := NBC_B.out; have hnc12 := NBB_C.out; have hcz13_0 : w8.cell? ⟨gbC, 0, none⟩ = some (.int .i64 a1_0) := (blk_cell BKC.out 0).trans rfl; have hcz13_1 : w8.cell? ⟨gbC, 1, none⟩ = some (.int .i64 a1_1) := (blk_cell BKC.out 1).trans rfl; have hfz13_0 := blk_frozen BKC.out 0; have hfz13_1 := blk_frozen BKC.out 1) | ((with_reducible refine gate_dst (N := 8) rfl ?_); refine Kd.R_lit k47 _ 47 ?hg (N := 8) ?hd (xs := ([(⟨a0_0, a0_1⟩ : S47), (⟨a1_0, a1_1⟩ : S47)] : List (S47))) (inner := [.int .i64 a0_0, .int .i64 a0_1, .int .i64 a1_0, .int .i64 a1_1]) (ok := fun _ => True) (okp := fun _ => True) ?hr ?hp (fun _ hk => hk) trivial (Below.refl _ _) (Nat.le_refl _) (by simp) ?_; (case hd => rfl); (case hg => rfl); (case hr => first | (go_simp; done) | (go_simp; rfl)); (case hp => exact (Reps.c2 (show Kd.M k47 _ _ _ (⟨a0_0, a0_1⟩ : S47) [.int .i64 a0_0, .int .i64 a0_1] from (k47_mkM _ _ _ (⟨a0_0, a0_1⟩ : S47) )) (Reps.c2 (show Kd.M k47 _ _ _ (⟨a1_0, a1_1⟩ : S47) [.int .i64 a1_0, .int .i64 a1_1] from (k47_mkM _ _ _ (⟨a1_0, a1_1⟩ : S47) )) (Reps.none _ _)))); intro vH w14 ho15 hb hg_ hnew_; clear hg_ hnew_; (first | rw [← NyG.out] at ho15 | (simp only [Int.reduceToNat] at ho15; rw [← NyG.out] at ho15)); have n0_ := Aside0.mk (Kd.R_lower (Kd.R_newB (Kd.R_newB (Kd.R_newB ho15 (g := gbD) (o := .cells #[.int .i64 a0_0, .int .i64 a0_1] 47 (0, 0)) zz103) (g := gbC) (o := .cells #[.int .i64 a1_0, .int .i64 a1_1] 47 (0, 0)) zz104) (g := gbB) (o := .cells #[.int .i64 0, .int .i64 0] 47 (0, 0)) zz105) (below_size zz28)); have HOA := n0_; clear n0_; replace BKD := blkA BKD hb; replace BKC := blkA BKC hb; replace BKB := blkA BKB hb; replace HB := Aside0.mk (below_step zz28 hb); clear hb ho15; obtain ⟨Ao16, co16, eo16⟩ := Kd.R_slice HOA.out; subst eo16) | ((with_reducible refine gate_callee (f := 132) rfl ?_); refine goesL_ (some 9) rfl rfl Try.func132 (by kernel_rfl) rfl #[.slice Ao16 yG.length co16] rfl zz94 ?_; (with_reducible refine (impl_areRats.calls k _ _ yG true _ ?side1 ?side2 A3.out).mono ?_); (case side1 => repeat (first | exact (Kd.R_reads' HOA.out).2.2 | (with_reducible refine Kd.C_alloc ?_ _) | (with_reducible refine Kd.C_drewN ?_ _) | (with_reducible refine Kd.C_drew ?_))); (case side2 => exact (Kd.R_reads' HOA.out).2.1); rintro e w17 ⟨rfl, hb⟩; refine ⟨_, rfl, ?_⟩; have n0_ := Aside0.mk (Kd.R_below zz114 hb); clear HOA; have HOA := n0_; clear n0_; replace BKD := blkA BKD hb; replace BKC := blkA BKC hb; replace BKB := blkA BKB hb; replace HB := Aside0.mk (below_step zz28 hb); (try clear hb); have hcz18_0 : w17.cell? ⟨gbC, 0, none⟩ = some (.int .i64 a1_0) := (blk_cell BKC.out 0).trans rfl; have hcz18_1 : w17.cell? ⟨gbC, 1, none⟩ = some (.int .i64 a1_1) := (blk_cell BKC.out 1).trans rfl; have hfz18_0 := blk_frozen BKC.out 0; have hfz18_1 := blk_frozen BKC.out 1; have hcz19_0 : w17.cell? ⟨gbB, 0, none⟩ = some (.int .i64 0) := (blk_cell BKB.out 0).trans rfl; have hcz19_1 : w17.cell? ⟨gbB, 1, none⟩ = some (.int .i64 0) := (blk_cell BKB.out 1).trans rfl; have hfz19_0 := blk_frozen BKB.out 0; have hfz19_1 := blk_frozen BKB.out 1))
   refine bodyPost_ret (results_ct rfl _ _ gbB 47 #[.int .i64 0, .int .i64 0] (0, 0) _ rfl zz8 Try.underlying47 rfl (by kernel_rfl)) rfl ?_; exact ⟨by first | rfl | (simp [errW_none, errW_some] <;> rfl) | (simp [*, errW_none, errW_some] <;> rfl), by repeat (first | (with_reducible first | exact HB.out | apply below_alloc | apply pw_below_drewN | apply below_drew1 | refine below_set ?_ GED.out | refine below_set ?_ GEC.out | refine below_set ?_ GEB.out) | exact HB.out)⟩
  ·rw [if_neg c5] at H; have c5b0 : (a1_0 == 0) = false := beq_eq_false_iff_ne.mpr c5; have c5b1 : (a1_0 != 0) = true := bne_iff_ne.mpr c5; replace H := Option.bind_eq_some_iff.mp H; obtain ⟨⟨tF, tI, tJ⟩, AK, H⟩ := H; replace H : (some (tF, tI, tJ)) = some (r1, r2, r3) := H; have A20 := Aside0.mk AK; clear AK; simp only [Option.some.injEq, Prod.mk.injEq] at H; obtain ⟨rfl, rfl, rfl⟩ := H; go_enter Try.func177, Try.ntmps177
   go_wp2_with (first | ((with_reducible refine gate_dst (N := 2) rfl ?_); refine box_event ?hg (N := 2) ?hd (cs := #[.int .i64 a0_0, .int .i64 a0_1]) (t := 47) ?hr ?_; (case hd => rfl); (case hg => rfl); (case hr => first | (go_simp; done) | (go_simp; rfl)); intro gbD hg w21 hbox hb; have n2_ := gwA (below_size zz95) hg; have n3_ := gwA (below_size zz95) hg; have GWD := n2_; have GED := n3_; clear n2_ n3_; have BKD := Aside0.mk (hbox); replace HB := Aside0.mk (below_step zz95 hb); clear hb hbox hg) | ((with_reducible refine gate_dst (N := 3) rfl ?_); refine box_event ?hg (N := 3) ?hd (cs := #[.int .i64 a1_0, .int .i64 a1_1]) (t := 47) ?hr ?_; (case hd => rfl); (case hg => rfl); (case hr => first | (go_simp; done) | (go_simp; rfl)); intro gbC hg w22 hbox hb; have n3_ := gwA (below_size zz86) hg; have n4_ := gwA (below_size zz86) hg; have n5_ := nltA BKD hg; have n6_ := ngtA BKD hg; have GWC := n3_; have GEC := n4_; have NBD_C := n5_; have NBC_D := n6_; clear n3_ n4_ n5_ n6_; replace BKD := blkA BKD hb; have BKC := Aside0.mk (hbox); replace HB := Aside0.mk (below_step zz86 hb); clear hb hbox hg) | ((with_reducible refine gate_dst (N := 4) rfl ?_); refine box_event ?hg (N := 4) ?hd (cs := #[.int .i64 0, .int .i64 0]) (t := 47) ?hr ?_; (case hd => rfl); (case hg => rfl); (case hr => first | (go_simp; done) | (go_simp; rfl)); intro gbB hg w23 hbox hb; have n4_ := gwA (below_size zz47) hg; have n5_ := gwA (below_size zz47) hg; have n6_ := nltA BKD hg; have n7_ := ngtA BKD hg; have n8_ := nltA BKC hg; have n9_ := ngtA BKC hg; have GWB := n4_; have GEB := n5_; have NBD_B := n6_; have NBB_D := n7_; have NBC_B := n8_; have NBB_C := n9_; clear n4_ n5_ n6_ n7_ n8_ n9_; replace BKD := blkA BKD hb; replace BKC := blkA BKC hb; have BKB := Aside0.mk (hbox); replace HB := Aside0.mk (below_step zz47 hb); clear hb hbox hg; have hnb24 := NBD_C.out; have hnc24 := NBC_D.out; have hnb25 := NBD_B.out; have hnc25 := NBB_D.out; have hcz26_0 : w23.cell? ⟨gbD, 0, none⟩ = some (.int .i64 a0_0) := (blk_cell BKD.out 0).trans rfl; have hcz26_1 : w23.cell? ⟨gbD, 1, none⟩ = some (.int .i64 a0_1) := (blk_cell BKD.out 1).trans rfl; have hfz26_0 := blk_frozen BKD.out 0; have hfz26_1 := blk_frozen BKD.out 1; have hnb27 := NBC_B.out; have hnc27 := NBB_C.out; have hcz28_0 : w23.cell? ⟨gbC, 0, none⟩ = some (.int .i64 a1_0) := (blk_cell BKC.out 0).trans rfl; have hcz28_1 : w23.cell? ⟨gbC, 1, none⟩ = some (.int .i64 a1_1) := (blk_cell BKC.out 1).trans rfl; have hfz28_0 := blk_frozen BKC.out 0; have hfz28_1 := blk_frozen BKC.out 1) | ((with_reducible refine gate_dst (N := 8) rfl ?_); refine Kd.R_lit k47 _ 47 ?hg (N := 8) ?hd (xs := ([(⟨a0_0, a0_1⟩ : S47), (⟨a1_0, a1_1⟩ : S47)] : List (S47))) (inner := [.int .i64 a0_0, .int .i64 a0_1, .int .i64 a1_0, .int .i64 a1_1]) (ok := fun _ => True) (okp := fun _ => True) ?hr ?hp (fun _ hk => hk) trivial (Below.refl _ _) (Nat.le_refl _) (by simp) ?_; (case hd => rfl); (case hg => rfl); (case hr => first | (go_simp; done) | (go_simp; rfl)); (case hp => exact (Reps.c2 (show Kd.M k47 _ _ _ (⟨a0_0, a0_1⟩ : S47) [.int .i64 a0_0, .int .i64 a0_1] from (k47_mkM _ _ _ (⟨a0_0, a0_1⟩ : S47) )) (Reps.c2 (show Kd.M k47 _ _ _ (⟨a1_0, a1_1⟩ : S47) [.int .i64 a1_0, .int .i64 a1_1] from (k47_mkM _ _ _ (⟨a1_0, a1_1⟩ : S47) )) (Reps.none _ _)))); intro vH w29 ho30 hb hg_ hnew_; clear hg_ hnew_; (first | rw [← NyG.out] at ho30 | (simp only [Int.reduceToNat] at ho30; rw [← NyG.out] at ho30)); have n0_ := Aside0.mk (Kd.R_lower (Kd.R_newB (Kd.R_newB (Kd.R_newB ho30 (g := gbD) (o := .cells #[.int .i64 a0_0, .int .i64 a0_1] 47 (0, 0)) zz103) (g := gbC) (o := .cells #[.int .i64 a1_0, .int .i64 a1_1] 47 (0, 0)) zz104) (g := gbB) (o := .cells #[.int .i64 0, .int .i64 0] 47 (0, 0)) zz105) (below_size zz28)); have HOA := n0_; clear n0_; replace BKD := blkA BKD hb; replace BKC := blkA BKC hb; replace BKB := blkA BKB hb; replace HB := Aside0.mk (below_step zz28 hb); clear hb ho30; obtain ⟨Ao31, co31, eo31⟩ := Kd.R_slice HOA.out; subst eo31) | ((with_reducible refine gate_callee (f := 132) rfl ?_); refine goesL_ (some 9) rfl rfl Try.func132 (by kernel_rfl) rfl #[.slice Ao31 yG.length co31] rfl zz94 ?_; (with_reducible refine (impl_areRats.calls k _ _ yG true _ ?side1 ?side2 A3.out).mono ?_); (case side1 => repeat (first | exact (Kd.R_reads' HOA.out).2.2 | (with_reducible refine Kd.C_alloc ?_ _) | (with_reducible refine Kd.C_drewN ?_ _) | (with_reducible refine Kd.C_drew ?_))); (case side2 => exact (Kd.R_reads' HOA.out).2.1); rintro e w32 ⟨rfl, hb⟩; refine ⟨_, rfl, ?_⟩; have n0_ := Aside0.mk (Kd.R_below zz114 hb); clear HOA; have HOA := n0_; clear n0_; replace BKD := blkA BKD hb; replace BKC := blkA BKC hb; replace BKB := blkA BKB hb; replace HB := Aside0.mk (below_step zz28 hb); (try clear hb); have hcz33_0 : w32.cell? ⟨gbC, 0, none⟩ = some (.int .i64 a1_0) := (blk_cell BKC.out 0).trans rfl; have hcz33_1 : w32.cell? ⟨gbC, 1, none⟩ = some (.int .i64 a1_1) := (blk_cell BKC.out 1).trans rfl; have hfz33_0 := blk_frozen BKC.out 0; have hfz33_1 := blk_frozen BKC.out 1; have hcz34_0 : w32.cell? ⟨gbD, 0, none⟩ = some (.int .i64 a0_0) := (blk_cell BKD.out 0).trans rfl; have hcz34_1 : w32.cell? ⟨gbD, 1, none⟩ = some (.int .i64 a0_1) := (blk_cell BKD.out 1).trans rfl; have hfz34_0 := blk_frozen BKD.out 0; have hfz34_1 := blk_frozen BKD.out 1) | ((with_reducible refine gate_callee (f := 63) rfl ?_); refine goesL_ (some 27) rfl rfl Try.func63 (by kernel_rfl) rfl #[.int .i64 (wrap64 (a0_0 * a1_1)), .int .i64 (wrap64 (a0_1 * a1_0))] rfl zz94 ?_; (with_reducible refine (impl_lowest.calls k (wrap64 (a0_0 * a1_1)) (wrap64 (a0_1 * a1_0)) tF tI tJ _ A20.out).mono ?_); rintro e w35 ⟨rfl, hb⟩; refine ⟨_, rfl, ?_⟩; have n0_ := Aside0.mk (Kd.R_below zz114 hb); clear HOA; have HOA := n0_; clear n0_; replace BKD := blkA BKD hb; replace BKC := blkA BKC hb; replace BKB := blkA BKB hb; replace HB := Aside0.mk (below_step zz28 hb); (try clear hb); have hcz36_0 : w35.cell? ⟨gbB, 0, none⟩ = some (.int .i64 0) := (blk_cell BKB.out 0).trans rfl; have hcz36_1 : w35.cell? ⟨gbB, 1, none⟩ = some (.int .i64 0) := (blk_cell BKB.out 1).trans rfl; have hfz36_0 := blk_frozen BKB.out 0; have hfz36_1 := blk_frozen BKB.out 1))
   refine bodyPost_ret (results_ct rfl _ _ gbB 47 #[.int .i64 tF, .int .i64 tI] (0, 0) _ rfl (by (with_reducible repeat (first | refine blk_drewN ?_ _ | refine blk_drew ?_ | refine blk_alloc ?_ _)); refine blk_put (cs := #[.int .i64 tF, .int .i64 0]) ?_ 1 _ rfl; (with_reducible repeat (first | refine blk_drewN ?_ _ | refine blk_drew ?_ | refine blk_alloc ?_ _)); refine blk_put (cs := #[.int .i64 0, .int .i64 0]) ?_ 0 _ rfl; (with_reducible repeat (first | refine blk_drewN ?_ _ | refine blk_drew ?_ | refine blk_alloc ?_ _)); exact BKB.out) Try.underlying47 rfl (by kernel_rfl)) rfl ?_; exact ⟨by first | rfl | (simp [errW_none, errW_some] <;> rfl) | (simp [*, errW_none, errW_some] <;> rfl), by repeat (first | (with_reducible first | exact HB.out | apply below_alloc | apply pw_below_drewN | apply below_drew1 | refine below_set ?_ GED.out | refine below_set ?_ GEC.out | refine below_set ?_ GEB.out) | exact HB.out)⟩
 ·replace c4 := Bool.eq_false_iff.mpr c4; subst c4; have H1 : (some (0, 0, false)) = some (r1, r2, r3) := by rw [if_neg (show ¬ (false = true) by decide)] at H; exact H
  clear H; have H := H1; clear H1; simp only [Option.some.injEq, Prod.mk.injEq] at H; obtain ⟨rfl, rfl, rfl⟩ := H; go_enter Try.func177, Try.ntmps177
  go_wp2_with (first | ((with_reducible refine gate_dst (N := 2) rfl ?_); refine box_event ?hg (N := 2) ?hd (cs := #[.int .i64 a0_0, .int .i64 a0_1]) (t := 47) ?hr ?_; (case hd => rfl); (case hg => rfl); (case hr => first | (go_simp; done) | (go_simp; rfl)); intro gbD hg w37 hbox hb; have n2_ := gwA (below_size zz95) hg; have n3_ := gwA (below_size zz95) hg; have GWD := n2_; have GED := n3_; clear n2_ n3_; have BKD := Aside0.mk (hbox); replace HB := Aside0.mk (below_step zz95 hb); clear hb hbox hg) | ((with_reducible refine gate_dst (N := 3) rfl ?_); refine box_event ?hg (N := 3) ?hd (cs := #[.int .i64 a1_0, .int .i64 a1_1]) (t := 47) ?hr ?_; (case hd => rfl); (case hg => rfl); (case hr => first | (go_simp; done) | (go_simp; rfl)); intro gbC hg w38 hbox hb; have n3_ := gwA (below_size zz86) hg; have n4_ := gwA (below_size zz86) hg; have n5_ := nltA BKD hg; have n6_ := ngtA BKD hg; have GWC := n3_; have GEC := n4_; have NBD_C := n5_; have NBC_D := n6_; clear n3_ n4_ n5_ n6_; replace BKD := blkA BKD hb; have BKC := Aside0.mk (hbox); replace HB := Aside0.mk (below_step zz86 hb); clear hb hbox hg) | ((with_reducible refine gate_dst (N := 4) rfl ?_); refine box_event ?hg (N := 4) ?hd (cs := #[.int .i64 0, .int .i64 0]) (t := 47) ?hr ?_; (case hd => rfl); (case hg => rfl); (case hr => first | (go_simp; done) | (go_simp; rfl)); intro gbB hg w39 hbox hb; have n4_ := gwA (below_size zz47) hg; have n5_ := gwA (below_size zz47) hg; have n6_ := nltA BKD hg; have n7_ := ngtA BKD hg; have n8_ := nltA BKC hg; have n9_ := ngtA BKC hg; have GWB := n4_; have GEB := n5_; have NBD_B := n6_; have NBB_D := n7_; have NBC_B := n8_; have NBB_C := n9_; clear n4_ n5_ n6_ n7_ n8_ n9_; replace BKD := blkA BKD hb; replace BKC := blkA BKC hb; have BKB := Aside0.mk (hbox); replace HB := Aside0.mk (below_step zz47 hb); clear hb hbox hg; have hnb40 := NBD_C.out; have hnc40 := NBC_D.out; have hnb41 := NBD_B.out; have hnc41 := NBB_D.out; have hcz42_0 : w39.cell? ⟨gbD, 0, none⟩ = some (.int .i64 a0_0) := (blk_cell BKD.out 0).trans rfl; have hcz42_1 : w39.cell? ⟨gbD, 1, none⟩ = some (.int .i64 a0_1) := (blk_cell BKD.out 1).trans rfl; have hfz42_0 := blk_frozen BKD.out 0; have hfz42_1 := blk_frozen BKD.out 1; have hnb43 := NBC_B.out; have hnc43 := NBB_C.out; have hcz44_0 : w39.cell? ⟨gbC, 0, none⟩ = some (.int .i64 a1_0) := (blk_cell BKC.out 0).trans rfl; have hcz44_1 : w39.cell? ⟨gbC, 1, none⟩ = some (.int .i64 a1_1) := (blk_cell BKC.out 1).trans rfl; have hfz44_0 := blk_frozen BKC.out 0; have hfz44_1 := blk_frozen BKC.out 1) | ((with_reducible refine gate_dst (N := 8) rfl ?_); refine Kd.R_lit k47 _ 47 ?hg (N := 8) ?hd (xs := ([(⟨a0_0, a0_1⟩ : S47), (⟨a1_0, a1_1⟩ : S47)] : List (S47))) (inner := [.int .i64 a0_0, .int .i64 a0_1, .int .i64 a1_0, .int .i64 a1_1]) (ok := fun _ => True) (okp := fun _ => True) ?hr ?hp (fun _ hk => hk) trivial (Below.refl _ _) (Nat.le_refl _) (by simp) ?_; (case hd => rfl); (case hg => rfl); (case hr => first | (go_simp; done) | (go_simp; rfl)); (case hp => exact (Reps.c2 (show Kd.M k47 _ _ _ (⟨a0_0, a0_1⟩ : S47) [.int .i64 a0_0, .int .i64 a0_1] from (k47_mkM _ _ _ (⟨a0_0, a0_1⟩ : S47) )) (Reps.c2 (show Kd.M k47 _ _ _ (⟨a1_0, a1_1⟩ : S47) [.int .i64 a1_0, .int .i64 a1_1] from (k47_mkM _ _ _ (⟨a1_0, a1_1⟩ : S47) )) (Reps.none _ _)))); intro vH w45 ho46 hb hg_ hnew_; clear hg_ hnew_; (first | rw [← NyG.out] at ho46 | (simp only [Int.reduceToNat] at ho46; rw [← NyG.out] at ho46)); have n0_ := Aside0.mk (Kd.R_lower (Kd.R_newB (Kd.R_newB (Kd.R_newB ho46 (g := gbD) (o := .cells #[.int .i64 a0_0, .int .i64 a0_1] 47 (0, 0)) zz103) (g := gbC) (o := .cells #[.int .i64 a1_0, .int .i64 a1_1] 47 (0, 0)) zz104) (g := gbB) (o := .cells #[.int .i64 0, .int .i64 0] 47 (0, 0)) zz105) (below_size zz28)); have HOA := n0_; clear n0_; replace BKD := blkA BKD hb; replace BKC := blkA BKC hb; replace BKB := blkA BKB hb; replace HB := Aside0.mk (below_step zz28 hb); clear hb ho46; obtain ⟨Ao47, co47, eo47⟩ := Kd.R_slice HOA.out; subst eo47) | ((with_reducible refine gate_callee (f := 132) rfl ?_); refine goesL_ (some 9) rfl rfl Try.func132 (by kernel_rfl) rfl #[.slice Ao47 yG.length co47] rfl zz94 ?_; (with_reducible refine (impl_areRats.calls k _ _ yG false _ ?side1 ?side2 A3.out).mono ?_); (case side1 => repeat (first | exact (Kd.R_reads' HOA.out).2.2 | (with_reducible refine Kd.C_alloc ?_ _) | (with_reducible refine Kd.C_drewN ?_ _) | (with_reducible refine Kd.C_drew ?_))); (case side2 => exact (Kd.R_reads' HOA.out).2.1); rintro e w48 ⟨rfl, hb⟩; refine ⟨_, rfl, ?_⟩; have n0_ := Aside0.mk (Kd.R_below zz114 hb); clear HOA; have HOA := n0_; clear n0_; replace BKD := blkA BKD hb; replace BKC := blkA BKC hb; replace BKB := blkA BKB hb; replace HB := Aside0.mk (below_step zz28 hb); (try clear hb); have hcz49_0 : w48.cell? ⟨gbB, 0, none⟩ = some (.int .i64 0) := (blk_cell BKB.out 0).trans rfl; have hcz49_1 : w48.cell? ⟨gbB, 1, none⟩ = some (.int .i64 0) := (blk_cell BKB.out 1).trans rfl; have hfz49_0 := blk_frozen BKB.out 0; have hfz49_1 := blk_frozen BKB.out 1))
  refine bodyPost_ret (results_ct rfl _ _ gbB 47 #[.int .i64 0, .int .i64 0] (0, 0) _ rfl zz8 Try.underlying47 rfl (by kernel_rfl)) rfl ?_; exact ⟨by first | rfl | (simp [errW_none, errW_some] <;> rfl) | (simp [*, errW_none, errW_some] <;> rfl), by repeat (first | (with_reducible first | exact HB.out | apply below_alloc | apply pw_below_drewN | apply below_drew1 | refine below_set ?_ GED.out | refine below_set ?_ GEC.out | refine below_set ?_ GEB.out) | exact HB.out)⟩
def impl_calc_div.f (k : Nat) (s0_0 : Bool) (a1_0 : Int) (a1_1 : Int) (a2_0 : Int) (a2_1 : Int) : Option (Int × Int × Bool) := (impl_DivideRats.f k a1_0 a1_1 a2_0 a2_1).bind fun btA => ((impl_calc_keep.f s0_0 btA.1 btA.2.1 btA.2.2).bind fun btB => (some (btB.1, btB.2.1, btB.2.2)))
theorem zz54 {p : Prop} (h : p := by repeat (first | (with_reducible first | exact HK.out | apply KeepBut.set_ | apply keep_drewN | apply keep_drew | apply keep_alloc | refine keep_far ?_ GWA.out _) | exact HK.out)) : p := h
theorem zz30 {p : Prop} (h : p := by repeat (first | (with_reducible first | exact HK.out | apply KeepBut.set_ | apply keep_drewN | apply keep_drew | apply keep_alloc | refine keep_far ?_ GWA.out _ | refine keep_far ?_ GWB.out _) | exact HK.out)) : p := h
theorem zz21 {p : Prop} (h : p := by repeat (first | (with_reducible first | exact HK.out | apply KeepBut.set_ | apply keep_drewN | apply keep_drew | apply keep_alloc | refine keep_far ?_ GWA.out _ | refine keep_far ?_ GWB.out _ | refine keep_far ?_ GWC.out _) | exact HK.out)) : p := h
set_option maxHeartbeats 8000000 in
set_option maxRecDepth 100000 in
theorem impl_calc_div.calls (k : Nat) (g : Nat) (s0_0 : Bool) (a1_0 : Int) (a1_1 : Int) (a2_0 : Int) (a2_1 : Int) (r1 : Int) (r2 : Int) (r3 : Bool) (w0 w : World) (hI : IsS92 w0 w g s0_0) (hB : Below w0.heap.size w0 w) (h : impl_calc_div.f k s0_0 a1_0 a1_1 a2_0 a2_1 = some (r1, r2, r3)) :
  Calls Try.prog 170 #[.pointer (some ⟨g, 0, none⟩), .agg #[.int .i64 a1_0, .int .i64 a1_1], .agg #[.int .i64 a2_0, .int .i64 a2_1]] w fun e w' => e = .returned (.agg #[.int .i64 r1, .int .i64 r2]) ∧ IsS92 w0 w' g r3 ∧ Below w0.heap.size w0 w' ∧ KeepBut w w' g none := by
 have hu47 := Try.underlying47; have HI0 := Aside0.mk hI; have HK := Aside0.mk (KeepBut.refl w g none); have HL := Aside0.mk hB.size; clear hI; have HW0 := Aside0.mk hB.size; have HB := Aside0.mk hB; clear hB; have H : ((impl_DivideRats.f k a1_0 a1_1 a2_0 a2_1).bind fun btD => ((impl_calc_keep.f s0_0 btD.1 btD.2.1 btD.2.2).bind fun btE => (some (btE.1, btE.2.1, btE.2.2)))) = some (r1, r2, r3) := h; clear h; replace H := Option.bind_eq_some_iff.mp H; obtain ⟨⟨tD, tF, tG⟩, A40, H⟩ := H; replace H : ((impl_calc_keep.f s0_0 tD tF tG).bind fun btE => (some (btE.1, btE.2.1, btE.2.2))) = some (r1, r2, r3) := H; have A4 := Aside0.mk A40; clear A40; replace H := Option.bind_eq_some_iff.mp H; obtain ⟨⟨tE, tH, tI⟩, A50, H⟩ := H; replace H : (some (tE, tH, tI)) = some (r1, r2, r3) := H; have A5 := Aside0.mk A50; clear A50; simp only [Option.some.injEq, Prod.mk.injEq] at H; obtain ⟨rfl, rfl, rfl⟩ := H; go_enter Try.func170, Try.ntmps170
 go_wp2_with (first | ((with_reducible refine gate_dst (N := 4) rfl ?_); refine box_event ?hg (N := 4) ?hd (cs := #[.int .i64 a1_0, .int .i64 a1_1]) (t := 47) ?hr ?_; (case hd => rfl); (case hg => rfl); (case hr => first | (go_simp; done) | (go_simp; rfl)); intro gbA hg w6 hbox hb; have n0_ := Aside0.mk (IsS92.below zz91 hb); have n1_ := Aside0.mk (KeepBut.trans zz92 (KeepBut.of_below hb g none) (.inl rfl)); have n2_ := Aside0.mk (below_step zz57 hb); have n3_ := Aside0.mk (hbox); have n4_ := Aside0.mk ((by rw [hg]; exact (keep_size (w := w) (g := g) (row := none) zz92) : w.heap.size ≤ gbA)); have n5_ := Aside0.mk ((Nat.le_trans HW0.out (by rw [hg]; exact (keep_size (w := w) (g := g) (row := none) zz92) : w.heap.size ≤ gbA) : w0.heap.size ≤ gbA)); have n6_ := Aside0.mk ((by rw [hg]; exact Nat.ne_of_lt (IsS92.lt (show IsS92 w0 _ g s0_0 from by repeat (first | (with_reducible first | exact HI0.out | apply IsS92.alloc | apply IsS92.drewN | apply IsS92.drew | apply IsS92.set_0) | exact HI0.out))) : g ≠ gbA)); have n7_ := Aside0.mk ((by rw [hg]; exact Nat.ne_of_gt (IsS92.lt (show IsS92 w0 _ g s0_0 from by repeat (first | (with_reducible first | exact HI0.out | apply IsS92.alloc | apply IsS92.drewN | apply IsS92.drew | apply IsS92.set_0) | exact HI0.out))) : gbA ≠ g)); clear HI0; clear HK; clear HB; have HI0 := n0_; have HK := n1_; have HB := n2_; have BKA := n3_; have GWA := n4_; have GEA := n5_; have NB0_563 := n6_; have NBA_0 := n7_; clear n0_ n1_ n2_ n3_ n4_ n5_ n6_ n7_; clear hb hbox hg) | ((with_reducible refine gate_dst (N := 5) rfl ?_); refine box_event ?hg (N := 5) ?hd (cs := #[.int .i64 a2_0, .int .i64 a2_1]) (t := 47) ?hr ?_; (case hd => rfl); (case hg => rfl); (case hr => first | (go_simp; done) | (go_simp; rfl)); intro gbB hg w7 hbox hb; have n0_ := Aside0.mk (IsS92.below (by repeat (first | (with_reducible first | exact HI0.out | apply IsS92.alloc | apply IsS92.drewN | apply IsS92.drew | apply IsS92.set_0 | apply IsS92.far (hne := NB0_563.out)) | exact HI0.out)) hb); have n1_ := blkA BKA hb; have n2_ := Aside0.mk (KeepBut.trans zz54 (KeepBut.of_below hb g none) (.inl rfl)); have n3_ := Aside0.mk (below_step (by repeat (first | (with_reducible first | exact HB.out | apply below_alloc | apply pw_below_drewN | apply below_drew1 | refine below_set ?_ (IsS92.ge HI0.out) | refine below_set ?_ GEA.out) | exact HB.out)) hb); have n4_ := Aside0.mk (hbox); have n5_ := Aside0.mk ((by rw [hg]; exact (keep_size (w := w) (g := g) (row := none) zz54) : w.heap.size ≤ gbB)); have n6_ := Aside0.mk ((Nat.le_trans HW0.out (by rw [hg]; exact (keep_size (w := w) (g := g) (row := none) zz54) : w.heap.size ≤ gbB) : w0.heap.size ≤ gbB)); have n7_ := nltA BKA hg; have n8_ := ngtA BKA hg; have n9_ := Aside0.mk ((by rw [hg]; exact Nat.ne_of_lt (IsS92.lt (show IsS92 w0 _ g s0_0 from by repeat (first | (with_reducible first | exact HI0.out | apply IsS92.alloc | apply IsS92.drewN | apply IsS92.drew | apply IsS92.set_0 | apply IsS92.far (hne := NB0_563.out)) | exact HI0.out))) : g ≠ gbB)); have n10_ := Aside0.mk ((by rw [hg]; exact Nat.ne_of_gt (IsS92.lt (show IsS92 w0 _ g s0_0 from by repeat (first | (with_reducible first | exact HI0.out | apply IsS92.alloc | apply IsS92.drewN | apply IsS92.drew | apply IsS92.set_0 | apply IsS92.far (hne := NB0_563.out)) | exact HI0.out))) : gbB ≠ g)); clear HI0; clear BKA; clear HK; clear HB; have HI0 := n0_; have BKA := n1_; have HK := n2_; have HB := n3_; have BKB := n4_; have GWB := n5_; have GEB := n6_; have NBA_B := n7_; have NBB_A := n8_; have NB0_564 := n9_; have NBB_0 := n10_; clear n0_ n1_ n2_ n3_ n4_ n5_ n6_ n7_ n8_ n9_ n10_; clear hb hbox hg) | ((with_reducible refine gate_dst (N := 6) rfl ?_); refine box_event ?hg (N := 6) ?hd (cs := #[.int .i64 0, .int .i64 0]) (t := 47) ?hr ?_; (case hd => rfl); (case hg => rfl); (case hr => first | (go_simp; done) | (go_simp; rfl)); intro gbC hg w8 hbox hb; have n0_ := Aside0.mk (IsS92.below (by repeat (first | (with_reducible first | exact HI0.out | apply IsS92.alloc | apply IsS92.drewN | apply IsS92.drew | apply IsS92.set_0 | apply IsS92.far (hne := NB0_563.out) | apply IsS92.far (hne := NB0_564.out)) | exact HI0.out)) hb); have n1_ := blkA BKA hb; have n2_ := blkA BKB hb; have n3_ := Aside0.mk (KeepBut.trans zz30 (KeepBut.of_below hb g none) (.inl rfl)); have n4_ := Aside0.mk (below_step (by repeat (first | (with_reducible first | exact HB.out | apply below_alloc | apply pw_below_drewN | apply below_drew1 | refine below_set ?_ (IsS92.ge HI0.out) | refine below_set ?_ GEA.out | refine below_set ?_ GEB.out) | exact HB.out)) hb); have n5_ := Aside0.mk (hbox); have n6_ := Aside0.mk ((by rw [hg]; exact (keep_size (w := w) (g := g) (row := none) zz30) : w.heap.size ≤ gbC)); have n7_ := Aside0.mk ((Nat.le_trans HW0.out (by rw [hg]; exact (keep_size (w := w) (g := g) (row := none) zz30) : w.heap.size ≤ gbC) : w0.heap.size ≤ gbC)); have n8_ := nltA BKA hg; have n9_ := ngtA BKA hg; have n10_ := nltA BKB hg; have n11_ := ngtA BKB hg; have n12_ := Aside0.mk ((by rw [hg]; exact Nat.ne_of_lt (IsS92.lt (show IsS92 w0 _ g s0_0 from by repeat (first | (with_reducible first | exact HI0.out | apply IsS92.alloc | apply IsS92.drewN | apply IsS92.drew | apply IsS92.set_0 | apply IsS92.far (hne := NB0_563.out) | apply IsS92.far (hne := NB0_564.out)) | exact HI0.out))) : g ≠ gbC)); have n13_ := Aside0.mk ((by rw [hg]; exact Nat.ne_of_gt (IsS92.lt (show IsS92 w0 _ g s0_0 from by repeat (first | (with_reducible first | exact HI0.out | apply IsS92.alloc | apply IsS92.drewN | apply IsS92.drew | apply IsS92.set_0 | apply IsS92.far (hne := NB0_563.out) | apply IsS92.far (hne := NB0_564.out)) | exact HI0.out))) : gbC ≠ g)); clear HI0; clear BKA; clear BKB; clear HK; clear HB; have HI0 := n0_; have BKA := n1_; have BKB := n2_; have HK := n3_; have HB := n4_; have BKC := n5_; have GWC := n6_; have GEC := n7_; have NBA_C := n8_; have NBC_A := n9_; have NBB_C := n10_; have NBC_B := n11_; have NB0_565 := n12_; have NBC_0 := n13_; clear n0_ n1_ n2_ n3_ n4_ n5_ n6_ n7_ n8_ n9_ n10_ n11_ n12_ n13_; clear hb hbox hg; have hnb9 := NBA_B.out; have hnc9 := NBB_A.out; have hnb10 := NBA_C.out; have hnc10 := NBC_A.out; have hnb11 := NBA_0.out; have hnc11 := NB0_563.out; have hcz12_0 : w8.cell? ⟨gbA, 0, none⟩ = some (.int .i64 a1_0) := (blk_cell BKA.out 0).trans rfl; have hcz12_1 : w8.cell? ⟨gbA, 1, none⟩ = some (.int .i64 a1_1) := (blk_cell BKA.out 1).trans rfl; have hfz12_0 := blk_frozen BKA.out 0; have hfz12_1 := blk_frozen BKA.out 1; have hnb13 := NBB_C.out; have hnc13 := NBC_B.out; have hnb14 := NBB_0.out; have hnc14 := NB0_564.out; have hcz15_0 : w8.cell? ⟨gbB, 0, none⟩ = some (.int .i64 a2_0) := (blk_cell BKB.out 0).trans rfl; have hcz15_1 : w8.cell? ⟨gbB, 1, none⟩ = some (.int .i64 a2_1) := (blk_cell BKB.out 1).trans rfl; have hfz15_0 := blk_frozen BKB.out 0; have hfz15_1 := blk_frozen BKB.out 1) | ((with_reducible refine gate_callee (f := 177) rfl ?_); refine goesL_ (some 10) rfl rfl Try.func177 (by kernel_rfl) rfl #[.agg #[.int .i64 a1_0, .int .i64 a1_1], .agg #[.int .i64 a2_0, .int .i64 a2_1]] rfl zz94 ?_; (with_reducible refine (impl_DivideRats.calls k a1_0 a1_1 a2_0 a2_1 tD tF tG _ A4.out).mono ?_); rintro e w16 ⟨rfl, hb⟩; refine ⟨_, rfl, ?_⟩; have n0_ := Aside0.mk (IsS92.below (by repeat (first | (with_reducible first | exact HI0.out | apply IsS92.alloc | apply IsS92.drewN | apply IsS92.drew | apply IsS92.set_0 | apply IsS92.far (hne := NB0_563.out) | apply IsS92.far (hne := NB0_564.out) | apply IsS92.far (hne := NB0_565.out)) | exact HI0.out)) hb); have n4_ := Aside0.mk (KeepBut.trans zz21 (KeepBut.of_below hb g none) (.inl rfl)); have n5_ := Aside0.mk (below_step (by repeat (first | (with_reducible first | exact HB.out | apply below_alloc | apply pw_below_drewN | apply below_drew1 | refine below_set ?_ (IsS92.ge HI0.out) | refine below_set ?_ GEA.out | refine below_set ?_ GEB.out | refine below_set ?_ GEC.out) | exact HB.out)) hb); clear HI0 HK HB; have HI0 := n0_; have HK := n4_; have HB := n5_; clear n0_ n4_ n5_; replace BKA := blkA BKA hb; replace BKB := blkA BKB hb; replace BKC := blkA BKC hb; (try clear hb)) | ((with_reducible refine gate_callee (f := 90) rfl ?_); refine goesL_ (some 13) rfl rfl Try.func90 (by kernel_rfl) rfl #[.pointer (some ⟨g, 0, none⟩), .agg #[.int .i64 tD, .int .i64 tF], .bool tG] rfl zz94 ?_; (with_reducible refine (impl_calc_keep.calls g s0_0 tD tF tG tE tH tI w0 _ ?side1 ?side2 A5.out).mono ?_); (case side1 => repeat (first | (with_reducible first | exact HI0.out | apply IsS92.alloc | apply IsS92.drewN | apply IsS92.drew | apply IsS92.set_0 | apply IsS92.far (hne := NB0_563.out) | apply IsS92.far (hne := NB0_564.out) | apply IsS92.far (hne := NB0_565.out)) | exact HI0.out)); (case side2 => repeat (first | (with_reducible first | exact HB.out | apply below_alloc | apply pw_below_drewN | apply below_drew1 | refine below_set ?_ (IsS92.ge HI0.out) | refine below_set ?_ GEA.out | refine below_set ?_ GEB.out | refine below_set ?_ GEC.out) | exact HB.out)); rintro e w17 ⟨rfl, hi, hb, hk⟩; refine ⟨_, rfl, ?_⟩; have n0_ := Aside0.mk (KeepBut.blk hk (g' := gbA) (o := .cells #[.int .i64 a1_0, .int .i64 a1_1] 47 (0, 0)) (by (with_reducible repeat (first | refine blk_drewN ?_ _ | refine blk_drew ?_ | refine blk_alloc ?_ _)); exact BKA.out) NBA_0.out (by simp)); have n1_ := Aside0.mk (KeepBut.blk hk (g' := gbB) (o := .cells #[.int .i64 a2_0, .int .i64 a2_1] 47 (0, 0)) (by (with_reducible repeat (first | refine blk_drewN ?_ _ | refine blk_drew ?_ | refine blk_alloc ?_ _)); exact BKB.out) NBB_0.out (by simp)); have n2_ := Aside0.mk (KeepBut.blk hk (g' := gbC) (o := .cells #[.int .i64 0, .int .i64 0] 47 (0, 0)) (by (with_reducible repeat (first | refine blk_drewN ?_ _ | refine blk_drew ?_ | refine blk_alloc ?_ _)); exact BKC.out) NBC_0.out (by simp)); have n3_ := Aside0.mk (KeepBut.trans zz21 hk (.inl rfl)); clear BKA BKB BKC HK; have BKA := n0_; have BKB := n1_; have BKC := n2_; have HK := n3_; clear n0_ n1_ n2_ n3_; replace HI0 := Aside0.mk (hi); replace HB := Aside0.mk (hb); (try clear hb); (try clear hk); (try clear hi); have hnb18 := NBC_0.out; have hnc18 := NB0_565.out; have hcz19_0 : w17.cell? ⟨gbC, 0, none⟩ = some (.int .i64 0) := (blk_cell BKC.out 0).trans rfl; have hcz19_1 : w17.cell? ⟨gbC, 1, none⟩ = some (.int .i64 0) := (blk_cell BKC.out 1).trans rfl; have hfz19_0 := blk_frozen BKC.out 0; have hfz19_1 := blk_frozen BKC.out 1))
 refine bodyPost_ret (results_cell_row rfl _ _ gbC 47 #[.int .i64 tE, .int .i64 tH] (0, 0) _ rfl (by (with_reducible repeat (first | refine blk_drewN ?_ _ | refine blk_drew ?_ | refine blk_alloc ?_ _)); refine blk_put (cs := #[.int .i64 tE, .int .i64 0]) ?_ 1 _ rfl; (with_reducible repeat (first | refine blk_drewN ?_ _ | refine blk_drew ?_ | refine blk_alloc ?_ _)); refine blk_put (cs := #[.int .i64 0, .int .i64 0]) ?_ 0 _ rfl; (with_reducible repeat (first | refine blk_drewN ?_ _ | refine blk_drew ?_ | refine blk_alloc ?_ _)); exact BKC.out) Try.underlying47 rfl (by kernel_rfl)) rfl ?_; exact ⟨by first | rfl | (simp [errW_none, errW_some] <;> rfl) | (simp [*, errW_none, errW_some] <;> rfl), by repeat (first | (with_reducible first | exact HI0.out | apply IsS92.alloc | apply IsS92.drewN | apply IsS92.drew | apply IsS92.set_0 | apply IsS92.far (hne := NB0_563.out) | apply IsS92.far (hne := NB0_564.out) | apply IsS92.far (hne := NB0_565.out)) | exact HI0.out), by repeat (first | (with_reducible first | exact HB.out | apply below_alloc | apply pw_below_drewN | apply below_drew1 | refine below_set ?_ (IsS92.ge HI0.out) | refine below_set ?_ GEA.out | refine below_set ?_ GEB.out | refine below_set ?_ GEC.out) | exact HB.out), by repeat (first | (with_reducible first | exact HK.out | apply KeepBut.set_ | apply keep_drewN | apply keep_drew | apply keep_alloc | refine keep_far ?_ GWA.out _ | refine keep_far ?_ GWB.out _ | refine keep_far ?_ GWC.out _) | exact HK.out)⟩
def impl_calc_slope.f (k : Nat) (s0_0 : Bool) (a1_0 : Int) (a1_1 : Int) (a1_2 : Int) (a1_3 : Int) (a2_0 : Int) (a2_1 : Int) (a2_2 : Int) (a2_3 : Int) : Option (Int × Int × Bool) := (impl_calc_sub.f k s0_0 a2_2 a2_3 a1_2 a1_3).bind fun btA => ((impl_calc_sub.f k btA.2.2 a2_0 a2_1 a1_0 a1_1).bind fun btB => ((impl_calc_div.f k btB.2.2 btA.1 btA.2.1 btB.1 btB.2.1).bind fun btC => (some (btC.1, btC.2.1, btC.2.2))))
def impl_calc_slope.T1 : Bool × List (List Nat × List Nat) := (true, [([], []), ([], []), ([], []), ([2], [2]), ([], []), ([4], [4]), ([1, 3, 5], [1, 3, 5]), ([], []), ([], []), ([8], [8]), ([], []), ([10], [10]), ([7, 9, 11, 6], [7, 9, 11]), ([0, 6, 12, 12], [0, 6, 12]), ([13, 13, 0, 1, 2, 3, 4, 5, 6, 7, 8, 9, 10, 11, 12, 13], [13])])
def impl_calc_slope.B1 : List Nat := [0, 0, 0, 4, 0, 16, 62, 0, 0, 256, 0, 1024, 4094, 8191, 16383]
theorem impl_calc_slope.tab1 : rtab .any (opsOf Try.f151 1) = impl_calc_slope.T1 := by kernel_rfl
theorem impl_calc_slope.bits1 : waitsOk impl_calc_slope.T1.2 impl_calc_slope.B1 = true := by kernel_rfl
theorem zz108 {p : Prop} (h : p := by (with_reducible repeat (first | refine blk_drewN ?_ _ | refine blk_drew ?_ | refine blk_alloc ?_ _)); exact BKA.out) : p := h
theorem zz107 {p : Prop} (h : p := by (with_reducible repeat (first | refine blk_drewN ?_ _ | refine blk_drew ?_ | refine blk_alloc ?_ _)); exact BKB.out) : p := h
theorem zz106 {p : Prop} (h : p := by (with_reducible repeat (first | refine blk_drewN ?_ _ | refine blk_drew ?_ | refine blk_alloc ?_ _)); exact BKC.out) : p := h
theorem zz55 {p : Prop} (h : p := by repeat (first | (with_reducible first | exact HK.out | apply KeepBut.set_ | apply keep_drewN | apply keep_drew | apply keep_alloc | refine keep_far ?_ GWC.out _) | exact HK.out)) : p := h
theorem zz31 {p : Prop} (h : p := by repeat (first | (with_reducible first | exact HK.out | apply KeepBut.set_ | apply keep_drewN | apply keep_drew | apply keep_alloc | refine keep_far ?_ GWC.out _ | refine keep_far ?_ GWB.out _) | exact HK.out)) : p := h
theorem zz22 {p : Prop} (h : p := by repeat (first | (with_reducible first | exact HK.out | apply KeepBut.set_ | apply keep_drewN | apply keep_drew | apply keep_alloc | refine keep_far ?_ GWC.out _ | refine keep_far ?_ GWB.out _ | refine keep_far ?_ GWA.out _) | exact HK.out)) : p := h
set_option maxHeartbeats 8000000 in
set_option maxRecDepth 100000 in
theorem impl_calc_slope.calls (k : Nat) (g : Nat) (s0_0 : Bool) (a1_0 : Int) (a1_1 : Int) (a1_2 : Int) (a1_3 : Int) (a2_0 : Int) (a2_1 : Int) (a2_2 : Int) (a2_3 : Int) (r1 : Int) (r2 : Int) (r3 : Bool) (w0 w : World) (hI : IsS92 w0 w g s0_0) (hB : Below w0.heap.size w0 w) (h : impl_calc_slope.f k s0_0 a1_0 a1_1 a1_2 a1_3 a2_0 a2_1 a2_2 a2_3 = some (r1, r2, r3)) :
  Calls Try.prog 151 #[.pointer (some ⟨g, 0, none⟩), .agg #[.int .i64 a1_0, .int .i64 a1_1, .int .i64 a1_2, .int .i64 a1_3], .agg #[.int .i64 a2_0, .int .i64 a2_1, .int .i64 a2_2, .int .i64 a2_3]] w fun e w' => e = .returned (.agg #[.int .i64 r1, .int .i64 r2]) ∧ IsS92 w0 w' g r3 ∧ Below w0.heap.size w0 w' ∧ KeepBut w w' g none := by
 have hu79 := Try.underlying79; have hu47 := Try.underlying47; have HI0 := Aside0.mk hI; have HK := Aside0.mk (KeepBut.refl w g none); have HL := Aside0.mk hB.size; clear hI; have HW0 := Aside0.mk hB.size; have HB := Aside0.mk hB; clear hB; have H : ((impl_calc_sub.f k s0_0 a2_2 a2_3 a1_2 a1_3).bind fun btD => ((impl_calc_sub.f k btD.2.2 a2_0 a2_1 a1_0 a1_1).bind fun btE => ((impl_calc_div.f k btE.2.2 btD.1 btD.2.1 btE.1 btE.2.1).bind fun btF => (some (btF.1, btF.2.1, btF.2.2))))) = some (r1, r2, r3) := h; clear h; replace H := Option.bind_eq_some_iff.mp H; obtain ⟨⟨tD, tG, tH⟩, A40, H⟩ := H; replace H : ((impl_calc_sub.f k tH a2_0 a2_1 a1_0 a1_1).bind fun btE => ((impl_calc_div.f k btE.2.2 tD tG btE.1 btE.2.1).bind fun btF => (some (btF.1, btF.2.1, btF.2.2)))) = some (r1, r2, r3) := H; have A4 := Aside0.mk A40; clear A40; replace H := Option.bind_eq_some_iff.mp H; obtain ⟨⟨tE, tI, tJ⟩, A50, H⟩ := H; replace H : ((impl_calc_div.f k tJ tD tG tE tI).bind fun btF => (some (btF.1, btF.2.1, btF.2.2))) = some (r1, r2, r3) := H; have A5 := Aside0.mk A50; clear A50; replace H := Option.bind_eq_some_iff.mp H; obtain ⟨⟨tF, tK, tL⟩, A60, H⟩ := H; replace H : (some (tF, tK, tL)) = some (r1, r2, r3) := H; have A6 := Aside0.mk A60; clear A60; simp only [Option.some.injEq, Prod.mk.injEq] at H; obtain ⟨rfl, rfl, rfl⟩ := H; go_enter Try.func151, Try.ntmps151
 try go_wp2_with (first | ((with_reducible refine gate_dst (N := 4) rfl ?_); refine box_event ?hg (N := 4) ?hd (cs := #[.int .i64 a1_0, .int .i64 a1_1, .int .i64 a1_2, .int .i64 a1_3]) (t := 79) ?hr ?_; (case hd => rfl); (case hg => rfl); (case hr => first | (go_simp; done) | (go_simp; rfl)); intro gbC hg w7 hbox hb; have n0_ := Aside0.mk (IsS92.below zz91 hb); have n1_ := Aside0.mk (KeepBut.trans zz92 (KeepBut.of_below hb g none) (.inl rfl)); have n2_ := Aside0.mk (below_step zz57 hb); have n3_ := Aside0.mk (hbox); have n4_ := Aside0.mk ((by rw [hg]; exact (keep_size (w := w) (g := g) (row := none) zz92) : w.heap.size ≤ gbC)); have n5_ := Aside0.mk ((Nat.le_trans HW0.out (by rw [hg]; exact (keep_size (w := w) (g := g) (row := none) zz92) : w.heap.size ≤ gbC) : w0.heap.size ≤ gbC)); have n6_ := Aside0.mk ((by rw [hg]; exact Nat.ne_of_lt (IsS92.lt (show IsS92 w0 _ g s0_0 from by repeat (first | (with_reducible first | exact HI0.out | apply IsS92.alloc | apply IsS92.drewN | apply IsS92.drew | apply IsS92.set_0) | exact HI0.out))) : g ≠ gbC)); have n7_ := Aside0.mk ((by rw [hg]; exact Nat.ne_of_gt (IsS92.lt (show IsS92 w0 _ g s0_0 from by repeat (first | (with_reducible first | exact HI0.out | apply IsS92.alloc | apply IsS92.drewN | apply IsS92.drew | apply IsS92.set_0) | exact HI0.out))) : gbC ≠ g)); clear HI0; clear HK; clear HB; have HI0 := n0_; have HK := n1_; have HB := n2_; have BKC := n3_; have GWC := n4_; have GEC := n5_; have NB0_572 := n6_; have NBC_0 := n7_; clear n0_ n1_ n2_ n3_ n4_ n5_ n6_ n7_; clear hb hbox hg) | ((with_reducible refine gate_dst (N := 5) rfl ?_); refine box_event ?hg (N := 5) ?hd (cs := #[.int .i64 a2_0, .int .i64 a2_1, .int .i64 a2_2, .int .i64 a2_3]) (t := 79) ?hr ?_; (case hd => rfl); (case hg => rfl); (case hr => first | (go_simp; done) | (go_simp; rfl)); intro gbB hg w8 hbox hb; have n0_ := Aside0.mk (IsS92.below (by repeat (first | (with_reducible first | exact HI0.out | apply IsS92.alloc | apply IsS92.drewN | apply IsS92.drew | apply IsS92.set_0 | apply IsS92.far (hne := NB0_572.out)) | exact HI0.out)) hb); have n1_ := blkA BKC hb; have n2_ := Aside0.mk (KeepBut.trans zz55 (KeepBut.of_below hb g none) (.inl rfl)); have n3_ := Aside0.mk (below_step (by repeat (first | (with_reducible first | exact HB.out | apply below_alloc | apply pw_below_drewN | apply below_drew1 | refine below_set ?_ (IsS92.ge HI0.out) | refine below_set ?_ GEC.out) | exact HB.out)) hb); have n4_ := Aside0.mk (hbox); have n5_ := Aside0.mk ((by rw [hg]; exact (keep_size (w := w) (g := g) (row := none) zz55) : w.heap.size ≤ gbB)); have n6_ := Aside0.mk ((Nat.le_trans HW0.out (by rw [hg]; exact (keep_size (w := w) (g := g) (row := none) zz55) : w.heap.size ≤ gbB) : w0.heap.size ≤ gbB)); have n7_ := nltA BKC hg; have n8_ := ngtA BKC hg; have n9_ := Aside0.mk ((by rw [hg]; exact Nat.ne_of_lt (IsS92.lt (show IsS92 w0 _ g s0_0 from by repeat (first | (with_reducible first | exact HI0.out | apply IsS92.alloc | apply IsS92.drewN | apply IsS92.drew | apply IsS92.set_0 | apply IsS92.far (hne := NB0_572.out)) | exact HI0.out))) : g ≠ gbB)); have n10_ := Aside0.mk ((by rw [hg]; exact Nat.ne_of_gt (IsS92.lt (show IsS92 w0 _ g s0_0 from by repeat (first | (with_reducible first | exact HI0.out | apply IsS92.alloc | apply IsS92.drewN | apply IsS92.drew | apply IsS92.set_0 | apply IsS92.far (hne := NB0_572.out)) | exact HI0.out))) : gbB ≠ g)); clear HI0; clear BKC; clear HK; clear HB; have HI0 := n0_; have BKC := n1_; have HK := n2_; have HB := n3_; have BKB := n4_; have GWB := n5_; have GEB := n6_; have NBC_B := n7_; have NBB_C := n8_; have NB0_573 := n9_; have NBB_0 := n10_; clear n0_ n1_ n2_ n3_ n4_ n5_ n6_ n7_ n8_ n9_ n10_; clear hb hbox hg) | ((with_reducible refine gate_dst (N := 6) rfl ?_); refine box_event ?hg (N := 6) ?hd (cs := #[.int .i64 0, .int .i64 0]) (t := 47) ?hr ?_; (case hd => rfl); (case hg => rfl); (case hr => first | (go_simp; done) | (go_simp; rfl)); intro gbA hg w9 hbox hb; have n0_ := Aside0.mk (IsS92.below (by repeat (first | (with_reducible first | exact HI0.out | apply IsS92.alloc | apply IsS92.drewN | apply IsS92.drew | apply IsS92.set_0 | apply IsS92.far (hne := NB0_572.out) | apply IsS92.far (hne := NB0_573.out)) | exact HI0.out)) hb); have n1_ := blkA BKC hb; have n2_ := blkA BKB hb; have n3_ := Aside0.mk (KeepBut.trans zz31 (KeepBut.of_below hb g none) (.inl rfl)); have n4_ := Aside0.mk (below_step (by repeat (first | (with_reducible first | exact HB.out | apply below_alloc | apply pw_below_drewN | apply below_drew1 | refine below_set ?_ (IsS92.ge HI0.out) | refine below_set ?_ GEC.out | refine below_set ?_ GEB.out) | exact HB.out)) hb); have n5_ := Aside0.mk (hbox); have n6_ := Aside0.mk ((by rw [hg]; exact (keep_size (w := w) (g := g) (row := none) zz31) : w.heap.size ≤ gbA)); have n7_ := Aside0.mk ((Nat.le_trans HW0.out (by rw [hg]; exact (keep_size (w := w) (g := g) (row := none) zz31) : w.heap.size ≤ gbA) : w0.heap.size ≤ gbA)); have n8_ := nltA BKC hg; have n9_ := ngtA BKC hg; have n10_ := nltA BKB hg; have n11_ := ngtA BKB hg; have n12_ := Aside0.mk ((by rw [hg]; exact Nat.ne_of_lt (IsS92.lt (show IsS92 w0 _ g s0_0 from by repeat (first | (with_reducible first | exact HI0.out | apply IsS92.alloc | apply IsS92.drewN | apply IsS92.drew | apply IsS92.set_0 | apply IsS92.far (hne := NB0_572.out) | apply IsS92.far (hne := NB0_573.out)) | exact HI0.out))) : g ≠ gbA)); have n13_ := Aside0.mk ((by rw [hg]; exact Nat.ne_of_gt (IsS92.lt (show IsS92 w0 _ g s0_0 from by repeat (first | (with_reducible first | exact HI0.out | apply IsS92.alloc | apply IsS92.drewN | apply IsS92.drew | apply IsS92.set_0 | apply IsS92.far (hne := NB0_572.out) | apply IsS92.far (hne := NB0_573.out)) | exact HI0.out))) : gbA ≠ g)); clear HI0; clear BKC; clear BKB; clear HK; clear HB; have HI0 := n0_; have BKC := n1_; have BKB := n2_; have HK := n3_; have HB := n4_; have BKA := n5_; have GWA := n6_; have GEA := n7_; have NBC_A := n8_; have NBA_C := n9_; have NBB_A := n10_; have NBA_B := n11_; have NB0_574 := n12_; have NBA_0 := n13_; clear n0_ n1_ n2_ n3_ n4_ n5_ n6_ n7_ n8_ n9_ n10_ n11_ n12_ n13_; clear hb hbox hg))
 replace BKC := Aside0.mk (blk_drew BKC.out); replace BKB := Aside0.mk (blk_drew BKB.out); replace BKA := Aside0.mk (blk_drew BKA.out); replace HI0 := Aside0.mk (IsS92.drew HI0.out); replace HK := Aside0.mk (keep_drew HK.out); replace HB := Aside0.mk (below_drew1 HB.out); refine start_ (n := 15) (S := fun w' => w'.cell? ⟨gbB, 0, none⟩ = some (.int .i64 a2_0) ∧ w'.cell? ⟨gbB, 1, none⟩ = some (.int .i64 a2_1) ∧ w'.cell? ⟨gbB, 2, none⟩ = some (.int .i64 a2_2) ∧ w'.cell? ⟨gbB, 3, none⟩ = some (.int .i64 a2_3) ∧ w'.cell? ⟨gbC, 0, none⟩ = some (.int .i64 a1_0) ∧ w'.cell? ⟨gbC, 1, none⟩ = some (.int .i64 a1_1) ∧ w'.cell? ⟨gbC, 2, none⟩ = some (.int .i64 a1_2) ∧ w'.cell? ⟨gbC, 3, none⟩ = some (.int .i64 a1_3)) (ds := []) #[fF, fF, fF, fF, fF, fF, fF, fF, fF, fF, fF, fF, fF, fF, fF] (by kernel_rfl) rfl rfl ⟨(blk_cell BKB.out 0).trans rfl, (blk_cell BKB.out 1).trans rfl, (blk_cell BKB.out 2).trans rfl, (blk_cell BKB.out 3).trans rfl, (blk_cell BKC.out 0).trans rfl, (blk_cell BKC.out 1).trans rfl, (blk_cell BKC.out 2).trans rfl, (blk_cell BKC.out 3).trans rfl⟩ (fun hHeld => ?_); refine with_tabW impl_calc_slope.tab1 impl_calc_slope.bits1 (fun HT_ HW_ => ?_); generalize w9.drew = w10 at BKC BKB BKA HI0 HK HB hHeld ⊢; refine pureA 0 (some 7) #[tT, fF, fF, fF, fF, fF, fF, fF, fF, fF, fF, fF, fF, fF, fF] HT_ ?_; refine pureA 1 (some 8) #[tT, tT, fF, fF, fF, fF, fF, fF, fF, fF, fF, fF, fF, fF, fF] HT_ ?_; refine pureA 2 (some 9) #[tT, tT, tT, fF, fF, fF, fF, fF, fF, fF, fF, fF, fF, fF, fF] HT_ ?_; refine pureA 4 (some 11) #[tT, tT, tT, fF, tT, fF, fF, fF, fF, fF, fF, fF, fF, fF, fF] HT_ ?_; refine pureA 7 (some 14) #[tT, tT, tT, fF, tT, fF, fF, tT, fF, fF, fF, fF, fF, fF, fF] HT_ ?_; refine pureA 8 (some 15) #[tT, tT, tT, fF, tT, fF, fF, tT, tT, fF, fF, fF, fF, fF, fF] HT_ ?_; refine pureA 10 (some 17) #[tT, tT, tT, fF, tT, fF, fF, tT, tT, fF, tT, fF, fF, fF, fF] HT_ ?_; refine takeA0 3 (some 10) #[tT, tT, tT, tT, tT, fF, fF, tT, tT, fF, tT, fF, fF, fF, fF] HT_ HW_ hHeld ?_; refine takeA0 5 (some 12) #[tT, tT, tT, tT, tT, tT, fF, tT, tT, fF, tT, fF, fF, fF, fF] HT_ HW_ hHeld ?_; refine takeA0 9 (some 16) #[tT, tT, tT, tT, tT, tT, fF, tT, tT, tT, tT, fF, fF, fF, fF] HT_ HW_ hHeld ?_; refine takeA0 11 (some 18) #[tT, tT, tT, tT, tT, tT, fF, tT, tT, tT, tT, tT, fF, fF, fF] HT_ HW_ hHeld ?_; refine one_ (i := 6) (N := some 13) #[tT, tT, tT, tT, tT, tT, tT, tT, tT, tT, tT, tT, fF, fF, fF] rfl rfl (one_of HT_.out (by kernel_rfl)) (by decide) (fun K hK => ?_); refine goes_ Try.func101 (by kernel_rfl) rfl #[.pointer (some ⟨g, 0, none⟩), .agg #[.int .i64 a2_2, .int .i64 a2_3], .agg #[.int .i64 a1_2, .int .i64 a1_3]] (by rfl) rfl rfl zz94 ?_; with_reducible refine (impl_calc_sub.calls k g s0_0 a2_2 a2_3 a1_2 a1_3 tD tG tH w0 _ ?side1 ?side2 A4.out).mono ?_
 (case side1 => repeat (first | (with_reducible first | exact HI0.out | apply IsS92.alloc | apply IsS92.drewN | apply IsS92.drew | apply IsS92.set_0 | apply IsS92.far (hne := NB0_572.out) | apply IsS92.far (hne := NB0_573.out) | apply IsS92.far (hne := NB0_574.out)) | exact HI0.out)); (case side2 => repeat (first | (with_reducible first | exact HB.out | apply below_alloc | apply pw_below_drewN | apply below_drew1 | refine below_set ?_ (IsS92.ge HI0.out) | refine below_set ?_ GEC.out | refine below_set ?_ GEB.out | refine below_set ?_ GEA.out) | exact HB.out)); rintro e w11 ⟨rfl, hi, hb, hk⟩; refine ⟨_, rfl, ?_⟩; have n0_ := Aside0.mk (KeepBut.blk hk (g' := gbC) (o := .cells #[.int .i64 a1_0, .int .i64 a1_1, .int .i64 a1_2, .int .i64 a1_3] 79 (0, 0)) zz106 NBC_0.out (by simp)); have n1_ := Aside0.mk (KeepBut.blk hk (g' := gbB) (o := .cells #[.int .i64 a2_0, .int .i64 a2_1, .int .i64 a2_2, .int .i64 a2_3] 79 (0, 0)) zz107 NBB_0.out (by simp)); have n2_ := Aside0.mk (KeepBut.blk hk (g' := gbA) (o := .cells #[.int .i64 0, .int .i64 0] 47 (0, 0)) zz108 NBA_0.out (by simp)); have n3_ := Aside0.mk (KeepBut.trans zz22 hk (.inl rfl)); clear BKC BKB BKA HK; have BKC := n0_; have BKB := n1_; have BKA := n2_; have HK := n3_; clear n0_ n1_ n2_ n3_; replace HI0 := Aside0.mk (hi); replace HB := Aside0.mk (hb); (try clear hb); (try clear hk); (try clear hi); refine hK.out _ _ ⟨(blk_cell BKB.out 0).trans rfl, (blk_cell BKB.out 1).trans rfl, (blk_cell BKB.out 2).trans rfl, (blk_cell BKB.out 3).trans rfl, (blk_cell BKC.out 0).trans rfl, (blk_cell BKC.out 1).trans rfl, (blk_cell BKC.out 2).trans rfl, (blk_cell BKC.out 3).trans rfl⟩ (fun hHeld => ?_); clear hK K; refine normA (some 13) ?_; refine one_ (i := 12) (N := some 19) #[tT, tT, tT, tT, tT, tT, tT, tT, tT, tT, tT, tT, tT, fF, fF] rfl rfl (one_of HT_.out (by kernel_rfl)) (by decide) (fun K hK => ?_); refine goes_ Try.func101 (by kernel_rfl) rfl #[.pointer (some ⟨g, 0, none⟩), .agg #[.int .i64 a2_0, .int .i64 a2_1], .agg #[.int .i64 a1_0, .int .i64 a1_1]] (by rfl) rfl rfl zz94 ?_; with_reducible refine (impl_calc_sub.calls k g tH a2_0 a2_1 a1_0 a1_1 tE tI tJ w0 _ ?side1 ?side2 A5.out).mono ?_
 (case side1 => repeat (first | (with_reducible first | exact HI0.out | apply IsS92.alloc | apply IsS92.drewN | apply IsS92.drew | apply IsS92.set_0 | apply IsS92.far (hne := NB0_572.out) | apply IsS92.far (hne := NB0_573.out) | apply IsS92.far (hne := NB0_574.out)) | exact HI0.out)); (case side2 => repeat (first | (with_reducible first | exact HB.out | apply below_alloc | apply pw_below_drewN | apply below_drew1 | refine below_set ?_ (IsS92.ge HI0.out) | refine below_set ?_ GEC.out | refine below_set ?_ GEB.out | refine below_set ?_ GEA.out) | exact HB.out)); rintro e w12 ⟨rfl, hi, hb, hk⟩; refine ⟨_, rfl, ?_⟩; have n0_ := Aside0.mk (KeepBut.blk hk (g' := gbC) (o := .cells #[.int .i64 a1_0, .int .i64 a1_1, .int .i64 a1_2, .int .i64 a1_3] 79 (0, 0)) zz106 NBC_0.out (by simp)); have n1_ := Aside0.mk (KeepBut.blk hk (g' := gbB) (o := .cells #[.int .i64 a2_0, .int .i64 a2_1, .int .i64 a2_2, .int .i64 a2_3] 79 (0, 0)) zz107 NBB_0.out (by simp)); have n2_ := Aside0.mk (KeepBut.blk hk (g' := gbA) (o := .cells #[.int .i64 0, .int .i64 0] 47 (0, 0)) zz108 NBA_0.out (by simp)); have n3_ := Aside0.mk (KeepBut.trans zz22 hk (.inl rfl)); clear BKC BKB BKA HK; have BKC := n0_; have BKB := n1_; have BKA := n2_; have HK := n3_; clear n0_ n1_ n2_ n3_; replace HI0 := Aside0.mk (hi); replace HB := Aside0.mk (hb); (try clear hb); (try clear hk); (try clear hi); refine hK.out _ _ ⟨(blk_cell BKB.out 0).trans rfl, (blk_cell BKB.out 1).trans rfl, (blk_cell BKB.out 2).trans rfl, (blk_cell BKB.out 3).trans rfl, (blk_cell BKC.out 0).trans rfl, (blk_cell BKC.out 1).trans rfl, (blk_cell BKC.out 2).trans rfl, (blk_cell BKC.out 3).trans rfl⟩ (fun hHeld => ?_); clear hK K; refine normA (some 19) ?_; refine one_ (i := 13) (N := some 20) #[tT, tT, tT, tT, tT, tT, tT, tT, tT, tT, tT, tT, tT, tT, fF] rfl rfl (one_of HT_.out (by kernel_rfl)) (by decide) (fun K hK => ?_); refine goes_ Try.func170 (by kernel_rfl) rfl #[.pointer (some ⟨g, 0, none⟩), .agg #[.int .i64 tD, .int .i64 tG], .agg #[.int .i64 tE, .int .i64 tI]] (by rfl) rfl rfl zz94 ?_; with_reducible refine (impl_calc_div.calls k g tJ tD tG tE tI tF tK tL w0 _ ?side1 ?side2 A6.out).mono ?_
 (case side1 => repeat (first | (with_reducible first | exact HI0.out | apply IsS92.alloc | apply IsS92.drewN | apply IsS92.drew | apply IsS92.set_0 | apply IsS92.far (hne := NB0_572.out) | apply IsS92.far (hne := NB0_573.out) | apply IsS92.far (hne := NB0_574.out)) | exact HI0.out)); (case side2 => repeat (first | (with_reducible first | exact HB.out | apply below_alloc | apply pw_below_drewN | apply below_drew1 | refine below_set ?_ (IsS92.ge HI0.out) | refine below_set ?_ GEC.out | refine below_set ?_ GEB.out | refine below_set ?_ GEA.out) | exact HB.out)); rintro e w13 ⟨rfl, hi, hb, hk⟩; refine ⟨_, rfl, ?_⟩; have n0_ := Aside0.mk (KeepBut.blk hk (g' := gbC) (o := .cells #[.int .i64 a1_0, .int .i64 a1_1, .int .i64 a1_2, .int .i64 a1_3] 79 (0, 0)) zz106 NBC_0.out (by simp)); have n1_ := Aside0.mk (KeepBut.blk hk (g' := gbB) (o := .cells #[.int .i64 a2_0, .int .i64 a2_1, .int .i64 a2_2, .int .i64 a2_3] 79 (0, 0)) zz107 NBB_0.out (by simp)); have n2_ := Aside0.mk (KeepBut.blk hk (g' := gbA) (o := .cells #[.int .i64 0, .int .i64 0] 47 (0, 0)) zz108 NBA_0.out (by simp)); have n3_ := Aside0.mk (KeepBut.trans zz22 hk (.inl rfl)); clear BKC BKB BKA HK; have BKC := n0_; have BKB := n1_; have BKA := n2_; have HK := n3_; clear n0_ n1_ n2_ n3_; replace HI0 := Aside0.mk (hi); replace HB := Aside0.mk (hb); (try clear hb); (try clear hk); (try clear hi); refine hK.out _ _ ⟨(blk_cell BKB.out 0).trans rfl, (blk_cell BKB.out 1).trans rfl, (blk_cell BKB.out 2).trans rfl, (blk_cell BKB.out 3).trans rfl, (blk_cell BKC.out 0).trans rfl, (blk_cell BKC.out 1).trans rfl, (blk_cell BKC.out 2).trans rfl, (blk_cell BKC.out 3).trans rfl⟩ (fun hHeld => ?_); clear hK K; refine normA (some 20) ?_; refine one_ (i := 14) (N := none) #[tT, tT, tT, tT, tT, tT, tT, tT, tT, tT, tT, tT, tT, tT, tT] rfl rfl (one_of HT_.out (by kernel_rfl)) (by decide) (fun K hK => ?_); have hs14 : w13.cell? ⟨gbA, 0, none⟩ = some (.int .i64 0) := (blk_cell BKA.out 0).trans rfl; have hfs14 := blk_frozen BKA.out 0; have hns14_0 := NBC_A.out; have hns14_1 := NBB_A.out; have hms14_0 := NBA_C.out; have hms14_1 := NBA_B.out; have hs15 : w13.cell? ⟨gbA, 1, none⟩ = some (.int .i64 0) := (blk_cell BKA.out 1).trans rfl; have hfs15 := blk_frozen BKA.out 1; have hns15_0 := NBC_A.out; have hns15_1 := NBB_A.out; have hms15_0 := NBA_C.out; have hms15_1 := NBA_B.out; refine skip_ (w1 := ?_) (by rfl) rfl ?_ ?_; rotate_left
 ·go_simp
  rfl
 refine hK.out _ _ ⟨((cell_far (p := ⟨gbA, _, none⟩) NBB_A.out _).trans (((cell_far (p := ⟨gbA, _, none⟩) NBB_A.out _).trans (hHeld.1)))), ((cell_far (p := ⟨gbA, _, none⟩) NBB_A.out _).trans (((cell_far (p := ⟨gbA, _, none⟩) NBB_A.out _).trans (hHeld.2.1)))), ((cell_far (p := ⟨gbA, _, none⟩) NBB_A.out _).trans (((cell_far (p := ⟨gbA, _, none⟩) NBB_A.out _).trans (hHeld.2.2.1)))), ((cell_far (p := ⟨gbA, _, none⟩) NBB_A.out _).trans (((cell_far (p := ⟨gbA, _, none⟩) NBB_A.out _).trans (hHeld.2.2.2.1)))), ((cell_far (p := ⟨gbA, _, none⟩) NBC_A.out _).trans (((cell_far (p := ⟨gbA, _, none⟩) NBC_A.out _).trans (hHeld.2.2.2.2.1)))), ((cell_far (p := ⟨gbA, _, none⟩) NBC_A.out _).trans (((cell_far (p := ⟨gbA, _, none⟩) NBC_A.out _).trans (hHeld.2.2.2.2.2.1)))), ((cell_far (p := ⟨gbA, _, none⟩) NBC_A.out _).trans (((cell_far (p := ⟨gbA, _, none⟩) NBC_A.out _).trans (hHeld.2.2.2.2.2.2.1)))), ((cell_far (p := ⟨gbA, _, none⟩) NBC_A.out _).trans (((cell_far (p := ⟨gbA, _, none⟩) NBC_A.out _).trans (hHeld.2.2.2.2.2.2.2))))⟩ (fun hHeld => ?_); clear hK K; refine done_ (done_of HT_.out (by kernel_rfl)) ?_; try go_wp2
 refine bodyPost_ret (results_cell_row rfl _ _ gbA 47 #[.int .i64 tF, .int .i64 tK] (0, 0) _ rfl (by (with_reducible repeat (first | refine blk_drewN ?_ _ | refine blk_drew ?_ | refine blk_alloc ?_ _)); refine blk_put (cs := #[.int .i64 tF, .int .i64 0]) ?_ 1 _ rfl; (with_reducible repeat (first | refine blk_drewN ?_ _ | refine blk_drew ?_ | refine blk_alloc ?_ _)); refine blk_put (cs := #[.int .i64 0, .int .i64 0]) ?_ 0 _ rfl; (with_reducible repeat (first | refine blk_drewN ?_ _ | refine blk_drew ?_ | refine blk_alloc ?_ _)); exact BKA.out) Try.underlying47 rfl (by kernel_rfl)) rfl ?_; exact ⟨by first | rfl | (simp [errW_none, errW_some] <;> rfl) | (simp [*, errW_none, errW_some] <;> rfl), by repeat (first | (with_reducible first | exact HI0.out | apply IsS92.alloc | apply IsS92.drewN | apply IsS92.drew | apply IsS92.set_0 | apply IsS92.far (hne := NB0_572.out) | apply IsS92.far (hne := NB0_573.out) | apply IsS92.far (hne := NB0_574.out)) | exact HI0.out), by repeat (first | (with_reducible first | exact HB.out | apply below_alloc | apply pw_below_drewN | apply below_drew1 | refine below_set ?_ (IsS92.ge HI0.out) | refine below_set ?_ GEC.out | refine below_set ?_ GEB.out | refine below_set ?_ GEA.out) | exact HB.out), by repeat (first | (with_reducible first | exact HK.out | apply KeepBut.set_ | apply keep_drewN | apply keep_drew | apply keep_alloc | refine keep_far ?_ GWC.out _ | refine keep_far ?_ GWB.out _ | refine keep_far ?_ GWA.out _) | exact HK.out)⟩
end Go.Proofs.Ytgejkhbehoabdaa.Q
namespace Go.Proofs.Ytgejkhbehoabdaa.Q
open Go.RowKit Go.Proofs.YtgejkhbehoabdaaW.PrintWords Go.Proofs.YtgejkhbehoabdaaW.PrintLast Go.Proofs.YtgejkhbehoabdaaW.PrintMore
attribute [local go_sem] max2_int min2_int max_two min_two max_three min_three max_four min_four   -- for this text's walks alone
set_option linter.unusedVariables false
set_option linter.unusedSimpArgs false
def impl_slopes.l0 : Nat → List (S79) → List (S47) → Int → Bool → Option ((List (S47)))
 | 0, _, _, _, _ => none
 | k + 1, x0, x4, x5, xA => if x5 < (x0.length : Int) then (if 0 ≤ (wrap64 (x5 - 1)) then (if (wrap64 (x5 - 1)) < (x0.length : Int) then (if 0 ≤ x5 then ((impl_calc_slope.f k xA ((rd_T79 x0 (wrap64 (x5 - 1))).f0.f0) ((rd_T79 x0 (wrap64 (x5 - 1))).f0.f1) ((rd_T79 x0 (wrap64 (x5 - 1))).f1.f0) ((rd_T79 x0 (wrap64 (x5 - 1))).f1.f1) ((rd_T79 x0 x5).f0.f0) ((rd_T79 x0 x5).f0.f1) ((rd_T79 x0 x5).f1.f0) ((rd_T79 x0 x5).f1.f1)).bind fun btB => (if x4.length < 8796093022208 then (impl_slopes.l0 k x0 (x4 ++ [(⟨btB.1, btB.2.1⟩ : S47)]) (wrap64 (x5 + 1)) btB.2.2) else (none))) else (none)) else (none)) else (none)) else (some x4)
def impl_slopes.f (k : Nat) (l0 : List (S79)) : Option ((List (S47))) := impl_slopes.l0 k l0 ([] : List (S47)) 1 false
def impl_slopes.T6 : Bool × List (List Nat × List Nat) := (true, [([], []), ([], []), ([], []), ([2], [2]), ([1, 3], [1, 3]), ([4], [4]), ([], []), ([], []), ([6, 7], [6, 7]), ([8], [8]), ([5, 9], [5, 9]), ([10], [10]), ([0, 11, 10], [0, 11]), ([12, 12, 0, 1, 2, 3, 4, 5, 6, 7, 8, 9, 10, 11, 12], [0, 12])])
def impl_slopes.B6 : List Nat := [0, 0, 0, 4, 14, 30, 0, 0, 192, 448, 1022, 2046, 4095, 8191]
theorem impl_slopes.tab6 : rtab .any (opsOf Try.f134 6) = impl_slopes.T6 := by kernel_rfl
theorem impl_slopes.bits6 : waitsOk impl_slopes.T6.2 impl_slopes.B6 = true := by kernel_rfl
theorem zz119 {p : Prop} (h : p := by (with_reducible repeat (first | apply Kd.R_alloc | apply Kd.R_drewN | apply Kd.R_drew)); exact HO_4.out) : p := h
theorem zz56 {p : Prop} (h : p := by repeat (first | (with_reducible first | exact HB.out | apply below_alloc | apply pw_below_drewN | apply below_drew1 | refine below_set ?_ (IsS92.ge HIA.out)) | exact HB.out)) : p := h
set_option maxHeartbeats 8000000 in
set_option maxRecDepth 100000 in
theorem impl_slopes.calls (k : Nat) (A0 : Option Addr) (c0 : Nat) (l0 : List (S79)) (r : List (S47)) (w : World) (hr0 : Kd.C k79 w A0 l0.length l0) (hc0 : l0.length ≤ c0) (h : impl_slopes.f k l0 = some r) :
  Calls Try.prog 134 #[.slice A0 l0.length c0] w fun e w' => ∃ v0_ : Value, e = .returned (v0_) ∧ Kd.R k47 47 w' w.heap.size (fun _ => True) v0_ r ∧ Below w.heap.size w w' := by
 have hu92 := Try.underlying92; have hu79 := Try.underlying79; have HR0 := Aside0.mk hr0; have HC0 := Aside0.mk hc0; clear hr0 hc0; have HB := Aside0.mk (Below.refl w.heap.size w); have H : (impl_slopes.l0 k l0 ([] : List (S47)) 1 false) = some r := h; clear h; have H' := Aside0.mk H; clear H; go_enter Try.func134, Try.ntmps134
 go_wp2_with (first | ((with_reducible refine gate_dst (N := 3) rfl ?_); refine box_event ?hg (N := 3) ?hd (cs := #[.bool false]) (t := 92) ?hr ?_; (case hd => rfl); (case hg => rfl); (case hr => first | (go_simp; done) | (go_simp; rfl)); intro gbA hg w2 hbox hb; have n0_ := Aside0.mk (below_step zz95 hb); have n1_ := Aside0.mk ((show IsS92 w w2 gbA false from ⟨hbox, (by rw [hg]; exact (below_size zz95))⟩)); clear HB; have HB := n0_; have HIA := n1_; clear n0_ n1_; clear hb hbox hg))
 go_loopg [4, 5] k (fun kq v4 v5 w' => ∃ (x4_1 : List (S47)) (x5_1 : Int) (xB_1 : Bool), v5 = .int .i64 x5_1 ∧ Aside0 (impl_slopes.l0 kq l0 x4_1 x5_1 xB_1 = some r) ∧ Aside0 (kq ≤ k) ∧ Aside0 (Kd.R k47 47 w' w.heap.size (fun _ => True) v4 x4_1) ∧ Aside0 (IsS92 w w' gbA xB_1) ∧ Aside0 (Below w.heap.size w w'))
 case atStart => exact ⟨(([] : List (S47))), (1), (false), zz124, H', ⟨Nat.le_refl _⟩, ⟨by first | exact Kd.R_nil _ _ _ _ _ | exact Kd.N_nil _ _ _ _ _ | exact Kd.V_nil _ _ _ _ _ | exact Kd.Q_nil _ _ _ _ _ | exact Kd.S_nil _ _ _ _ _⟩, ⟨by repeat (first | (with_reducible first | exact HIA.out | apply IsS92.alloc | apply IsS92.drewN | apply IsS92.drew | apply IsS92.set_0) | exact HIA.out)⟩, ⟨by repeat (first | (with_reducible first | exact HB.out | apply below_alloc | apply pw_below_drewN | apply below_drew1 | refine below_set ?_ (IsS92.ge HIA.out)) | exact HB.out)⟩⟩
 case round =>
  clear H'; try clear c1
  try clear p2
  obtain ⟨x4_1, x5_1, xB_1, rfl, HA, HK1, HO_4, HIA, HB⟩ := hrel; cases gk with
  | zero => exact absurd HA.out (by simp [impl_slopes.l0])
  | succ k1 =>
   have H := HA.out; clear HA; simp only [impl_slopes.l0] at H; by_cases c3 : x5_1 < (l0.length : Int)
   ·rw [if_pos c3] at H; have c3b0 : decide (x5_1 < (l0.length : Int)) = true := decide_eq_true c3; clear c3; obtain ⟨ji4, hji4⟩ : ∃ j_ : Int, (wrap64 (x5_1 - 1)) = j_ := ⟨_, rfl⟩; replace H : (if 0 ≤ (ji4) then (if (ji4) < (l0.length : Int) then (if 0 ≤ x5_1 then ((impl_calc_slope.f k1 xB_1 ((rd_T79 l0 (ji4)).f0.f0) ((rd_T79 l0 (ji4)).f0.f1) ((rd_T79 l0 (ji4)).f1.f0) ((rd_T79 l0 (ji4)).f1.f1) ((rd_T79 l0 x5_1).f0.f0) ((rd_T79 l0 x5_1).f0.f1) ((rd_T79 l0 x5_1).f1.f0) ((rd_T79 l0 x5_1).f1.f1)).bind fun btC => (if x4_1.length < 8796093022208 then (impl_slopes.l0 k1 l0 (x4_1 ++ [(⟨btC.1, btC.2.1⟩ : S47)]) (wrap64 (x5_1 + 1)) btC.2.2) else (none))) else (none)) else (none)) else (none)) = some r := by first | (rw [hji4] at H; exact H) | (simp only [hji4] at H ⊢; exact H)
    have hji4w : (IntKind.i64.wrap (x5_1 - 1)) = ji4 := (i64_w _).trans hji4; by_cases c5 : 0 ≤ (ji4)
    ·rw [if_pos c5] at H; have c5b0 : decide (0 ≤ (ji4)) = true := decide_eq_true c5; clear c5; by_cases c6 : (ji4) < (l0.length : Int)
     ·rw [if_pos c6] at H; have c6b0 : decide ((ji4) < (l0.length : Int)) = true := decide_eq_true c6; clear c6; by_cases c7 : 0 ≤ x5_1
      ·rw [if_pos c7] at H; have c7b0 : decide (0 ≤ x5_1) = true := decide_eq_true c7; clear c7; replace H := Option.bind_eq_some_iff.mp H; obtain ⟨⟨tC, tD, tE⟩, A80, H⟩ := H; replace H : (if x4_1.length < 8796093022208 then (impl_slopes.l0 k1 l0 (x4_1 ++ [(⟨tC, tD⟩ : S47)]) (wrap64 (x5_1 + 1)) tE) else (none)) = some r := H; have A8 := Aside0.mk A80; clear A80; by_cases c9 : x4_1.length < 8796093022208
       ·rw [if_pos c9] at H; have LMc9 := Aside0.mk c9; clear c9; obtain ⟨yF, hyF⟩ : ∃ y_ : List (S47), y_ = (x4_1 ++ [(⟨tC, tD⟩ : S47)]) := ⟨_, rfl⟩; replace H : (impl_slopes.l0 k1 l0 yF (wrap64 (x5_1 + 1)) tE) = some r := by first | (rw [hyF]; with_reducible exact H) | (have H2_ := (Option.bind_some _ _).symm.trans H; rw [hyF]; with_reducible exact H2_) | (have H2_ := (Option.bind_some _ _).symm.trans H; with_reducible exact H2_) | with_reducible exact H | (rw [hyF]; exact H) | exact H
        have NyF := Aside0.mk hyF; clear hyF; have H' := Aside0.mk H; clear H; try go_wp2
        have n0_ := Aside0.mk (Kd.R_drew HO_4.out); clear HO_4; have HO_4 := n0_; clear n0_; replace HIA := Aside0.mk (IsS92.drew HIA.out); replace HB := Aside0.mk (below_drew1 HB.out); have pG : 0 ≤ ((ji4) : Int) := of_decide_eq_true zz123; have qG : (ji4) < (l0.length : Int) := of_decide_eq_true zz123; obtain ⟨adG, eG, hxG_0, hxG_1, hxG_2, hxG_3⟩ := at_T79 HR0.out (ji4) pG qG; have hwG_3 := hxG_3; have hwG_2 := hxG_2; have hwG_1 := hxG_1; have hwG_0 := hxG_0; cases eG
        replace hxG_0 := (HB.out.cell (World.block_lt_of_cell? w _ hxG_0)).trans hxG_0; replace hxG_1 := (HB.out.cell (World.block_lt_of_cell? w _ hxG_1)).trans hxG_1; replace hxG_2 := (HB.out.cell (World.block_lt_of_cell? w _ hxG_2)).trans hxG_2; replace hxG_3 := (HB.out.cell (World.block_lt_of_cell? w _ hxG_3)).trans hxG_3; replace pG := eq_true pG; replace qG := eq_true qG; have pH : 0 ≤ (x5_1 : Int) := of_decide_eq_true zz123; have qH : x5_1 < (l0.length : Int) := of_decide_eq_true zz123; obtain ⟨adH, eH, hxH_0, hxH_1, hxH_2, hxH_3⟩ := at_T79 HR0.out x5_1 pH qH; have hwH_3 := hxH_3; have hwH_2 := hxH_2; have hwH_1 := hxH_1; have hwH_0 := hxH_0; obtain rfl : adG = adH := (by injection eH); replace hxH_0 := (HB.out.cell (World.block_lt_of_cell? w _ hxH_0)).trans hxH_0; replace hxH_1 := (HB.out.cell (World.block_lt_of_cell? w _ hxH_1)).trans hxH_1; replace hxH_2 := (HB.out.cell (World.block_lt_of_cell? w _ hxH_2)).trans hxH_2; replace hxH_3 := (HB.out.cell (World.block_lt_of_cell? w _ hxH_3)).trans hxH_3; replace pH := eq_true pH; replace qH := eq_true qH; refine start_ (n := 14) (S := fun w' => w'.cell? (adG.add (((ji4)).toNat * 4)) = some (.int .i64 ((rd_T79 l0 (ji4)).f0.f0)) ∧ w'.cell? ⟨(adG.add (((ji4)).toNat * 4)).block, (adG.add (((ji4)).toNat * 4)).off + 1, none⟩ = some (.int .i64 ((rd_T79 l0 (ji4)).f0.f1)) ∧ w'.cell? ⟨(adG.add (((ji4)).toNat * 4)).block, (adG.add (((ji4)).toNat * 4)).off + 2, none⟩ = some (.int .i64 ((rd_T79 l0 (ji4)).f1.f0)) ∧ w'.cell? ⟨(adG.add (((ji4)).toNat * 4)).block, (adG.add (((ji4)).toNat * 4)).off + 3, none⟩ = some (.int .i64 ((rd_T79 l0 (ji4)).f1.f1)) ∧ w'.cell? (adG.add ((x5_1).toNat * 4)) = some (.int .i64 ((rd_T79 l0 x5_1).f0.f0)) ∧ w'.cell? ⟨(adG.add ((x5_1).toNat * 4)).block, (adG.add ((x5_1).toNat * 4)).off + 1, none⟩ = some (.int .i64 ((rd_T79 l0 x5_1).f0.f1)) ∧ w'.cell? ⟨(adG.add ((x5_1).toNat * 4)).block, (adG.add ((x5_1).toNat * 4)).off + 2, none⟩ = some (.int .i64 ((rd_T79 l0 x5_1).f1.f0)) ∧ w'.cell? ⟨(adG.add ((x5_1).toNat * 4)).block, (adG.add ((x5_1).toNat * 4)).off + 3, none⟩ = some (.int .i64 ((rd_T79 l0 x5_1).f1.f1))) (ds := []) #[fF, fF, fF, fF, fF, fF, fF, fF, fF, fF, fF, fF, fF, fF] (by kernel_rfl) rfl rfl ⟨((HB.out.cell (World.block_lt_of_cell? w _ hwG_0)).trans hwG_0), ((HB.out.cell (World.block_lt_of_cell? w _ hwG_1)).trans hwG_1), ((HB.out.cell (World.block_lt_of_cell? w _ hwG_2)).trans hwG_2), ((HB.out.cell (World.block_lt_of_cell? w _ hwG_3)).trans hwG_3), ((HB.out.cell (World.block_lt_of_cell? w _ hwH_0)).trans hwH_0), ((HB.out.cell (World.block_lt_of_cell? w _ hwH_1)).trans hwH_1), ((HB.out.cell (World.block_lt_of_cell? w _ hwH_2)).trans hwH_2), ((HB.out.cell (World.block_lt_of_cell? w _ hwH_3)).trans hwH_3)⟩ (fun hHeld => ?_); refine with_tabW impl_slopes.tab6 impl_slopes.bits6 (fun HT_ HW_ => ?_); generalize wr.drew = w10 at HO_4 HIA HB hxG_0 hxG_1 hxG_2 hxG_3 hxH_0 hxH_1 hxH_2 hxH_3 hHeld ⊢; refine pureA 0 (some 12) #[tT, fF, fF, fF, fF, fF, fF, fF, fF, fF, fF, fF, fF, fF] HT_ ?_; refine pureA 1 (some 13) #[tT, tT, fF, fF, fF, fF, fF, fF, fF, fF, fF, fF, fF, fF] HT_ ?_; refine pureA 2 (some 14) #[tT, tT, tT, fF, fF, fF, fF, fF, fF, fF, fF, fF, fF, fF] HT_ ?_; refine pureA 3 (some 15) #[tT, tT, tT, tT, fF, fF, fF, fF, fF, fF, fF, fF, fF, fF] HT_ ?_; refine pureA 4 (some 16) #[tT, tT, tT, tT, tT, fF, fF, fF, fF, fF, fF, fF, fF, fF] HT_ ?_; refine pureA 6 (some 18) #[tT, tT, tT, tT, tT, fF, tT, fF, fF, fF, fF, fF, fF, fF] HT_ ?_; refine pureA 7 (some 19) #[tT, tT, tT, tT, tT, fF, tT, tT, fF, fF, fF, fF, fF, fF] HT_ ?_; refine pureA 8 (some 20) #[tT, tT, tT, tT, tT, fF, tT, tT, tT, fF, fF, fF, fF, fF] HT_ ?_; refine takeA0 5 (some 17) #[tT, tT, tT, tT, tT, tT, tT, tT, tT, fF, fF, fF, fF, fF] HT_ HW_ hHeld ?_; refine takeA0 9 (some 21) #[tT, tT, tT, tT, tT, tT, tT, tT, tT, tT, fF, fF, fF, fF] HT_ HW_ hHeld ?_; refine one_ (i := 10) (N := some 22) #[tT, tT, tT, tT, tT, tT, tT, tT, tT, tT, tT, fF, fF, fF] rfl rfl (one_of HT_.out (by kernel_rfl)) (by decide) (fun K hK => ?_); refine goes_ Try.func151 (by kernel_rfl) rfl #[.pointer (some ⟨gbA, 0, none⟩), .agg #[.int .i64 ((rd_T79 l0 (ji4)).f0.f0), .int .i64 ((rd_T79 l0 (ji4)).f0.f1), .int .i64 ((rd_T79 l0 (ji4)).f1.f0), .int .i64 ((rd_T79 l0 (ji4)).f1.f1)], .agg #[.int .i64 ((rd_T79 l0 x5_1).f0.f0), .int .i64 ((rd_T79 l0 x5_1).f0.f1), .int .i64 ((rd_T79 l0 x5_1).f1.f0), .int .i64 ((rd_T79 l0 x5_1).f1.f1)]] (by rfl) rfl rfl (by (try simp only [List.map_toArray, List.map_cons, List.map_nil]); first | done | (simp only [hji4]; rfl) | rfl | (simp only [List.length_drop, List.length_take]; rfl)) ?_; with_reducible refine (impl_calc_slope.calls k1 gbA xB_1 ((rd_T79 l0 (ji4)).f0.f0) ((rd_T79 l0 (ji4)).f0.f1) ((rd_T79 l0 (ji4)).f1.f0) ((rd_T79 l0 (ji4)).f1.f1) ((rd_T79 l0 x5_1).f0.f0) ((rd_T79 l0 x5_1).f0.f1) ((rd_T79 l0 x5_1).f1.f0) ((rd_T79 l0 x5_1).f1.f1) tC tD tE w _ ?side1 ?side2 A8.out).mono ?_
        (case side1 => repeat (first | (with_reducible first | exact HIA.out | apply IsS92.alloc | apply IsS92.drewN | apply IsS92.drew | apply IsS92.set_0) | exact HIA.out)); (case side2 => repeat (first | (with_reducible first | exact HB.out | apply below_alloc | apply pw_below_drewN | apply below_drew1 | refine below_set ?_ (IsS92.ge HIA.out)) | exact HB.out)); rintro e w11 ⟨rfl, hi, hb, hk⟩; refine ⟨_, rfl, ?_⟩; have n0_ := Aside0.mk (Kd.R_mono (Kd.R_keep (IsS92.apart (show IsS92 w _ gbA xB_1 from by repeat (first | (with_reducible first | exact HIA.out | apply IsS92.alloc | apply IsS92.drewN | apply IsS92.drew | apply IsS92.set_0) | exact HIA.out)) zz119 (by decide)) hk (fun _ h => h.2)) (fun _ h => h.1)); clear HO_4; have HO_4 := n0_; clear n0_; replace HIA := Aside0.mk (hi); replace HB := Aside0.mk (hb); (try clear hb); (try clear hk); (try clear hi); refine hK.out _ _ ⟨((HB.out.cell (World.block_lt_of_cell? w _ hwG_0)).trans hwG_0), ((HB.out.cell (World.block_lt_of_cell? w _ hwG_1)).trans hwG_1), ((HB.out.cell (World.block_lt_of_cell? w _ hwG_2)).trans hwG_2), ((HB.out.cell (World.block_lt_of_cell? w _ hwG_3)).trans hwG_3), ((HB.out.cell (World.block_lt_of_cell? w _ hwH_0)).trans hwH_0), ((HB.out.cell (World.block_lt_of_cell? w _ hwH_1)).trans hwH_1), ((HB.out.cell (World.block_lt_of_cell? w _ hwH_2)).trans hwH_2), ((HB.out.cell (World.block_lt_of_cell? w _ hwH_3)).trans hwH_3)⟩ (fun hHeld => ?_); clear hK K; refine normA (some 22) ?_; refine one_ (i := 11) (N := some 23) #[tT, tT, tT, tT, tT, tT, tT, tT, tT, tT, tT, tT, fF, fF] rfl rfl (one_of HT_.out (by kernel_rfl)) (by decide) (fun K hK => ?_); refine value_ (w1 := ?_) (v := ?_) (by rfl) rfl ?_ ?_; rotate_left 2
        ·go_simp
         constructor
         ·rfl
         ·rfl
        refine hK.out _ _ ⟨(World.cell?_alloc_lt _ _ _ (World.block_lt_of_cell? _ _ (((HB.out.cell (World.block_lt_of_cell? w _ hwG_0)).trans hwG_0)))).trans (((HB.out.cell (World.block_lt_of_cell? w _ hwG_0)).trans hwG_0)), (World.cell?_alloc_lt _ _ _ (World.block_lt_of_cell? _ _ (((HB.out.cell (World.block_lt_of_cell? w _ hwG_1)).trans hwG_1)))).trans (((HB.out.cell (World.block_lt_of_cell? w _ hwG_1)).trans hwG_1)), (World.cell?_alloc_lt _ _ _ (World.block_lt_of_cell? _ _ (((HB.out.cell (World.block_lt_of_cell? w _ hwG_2)).trans hwG_2)))).trans (((HB.out.cell (World.block_lt_of_cell? w _ hwG_2)).trans hwG_2)), (World.cell?_alloc_lt _ _ _ (World.block_lt_of_cell? _ _ (((HB.out.cell (World.block_lt_of_cell? w _ hwG_3)).trans hwG_3)))).trans (((HB.out.cell (World.block_lt_of_cell? w _ hwG_3)).trans hwG_3)), (World.cell?_alloc_lt _ _ _ (World.block_lt_of_cell? _ _ (((HB.out.cell (World.block_lt_of_cell? w _ hwH_0)).trans hwH_0)))).trans (((HB.out.cell (World.block_lt_of_cell? w _ hwH_0)).trans hwH_0)), (World.cell?_alloc_lt _ _ _ (World.block_lt_of_cell? _ _ (((HB.out.cell (World.block_lt_of_cell? w _ hwH_1)).trans hwH_1)))).trans (((HB.out.cell (World.block_lt_of_cell? w _ hwH_1)).trans hwH_1)), (World.cell?_alloc_lt _ _ _ (World.block_lt_of_cell? _ _ (((HB.out.cell (World.block_lt_of_cell? w _ hwH_2)).trans hwH_2)))).trans (((HB.out.cell (World.block_lt_of_cell? w _ hwH_2)).trans hwH_2)), (World.cell?_alloc_lt _ _ _ (World.block_lt_of_cell? _ _ (((HB.out.cell (World.block_lt_of_cell? w _ hwH_3)).trans hwH_3)))).trans (((HB.out.cell (World.block_lt_of_cell? w _ hwH_3)).trans hwH_3))⟩ (fun hHeld => ?_); clear hK K; refine normA (some 23) ?_; refine one_ (i := 12) (N := some 24) #[tT, tT, tT, tT, tT, tT, tT, tT, tT, tT, tT, tT, tT, fF] rfl rfl (one_of HT_.out (by kernel_rfl)) (by decide) (fun K hK => ?_); refine Kd.R_append_step k47 (w0 := w) w.heap.size (by rfl) (.tmp 12) (.tmp 23) 24 47 (.agg #[(.int .i64 0), (.int .i64 0)]) 16 rfl Try.underlying24 info47 rfl (by decide) (by omega) u4 x4_1 (⟨tC, tD⟩ : S47) [.int .i64 tC, .int .i64 tD] (fun _ => True) (fun _ => False) rfl rfl ?aP (fun _ hk => hk.elim) ?aF ?aO ?aB ?aS ?aL ?_; (case aP => exact k47_mkM _ _ _ (⟨tC, tD⟩ : S47)); (case aB => exact zz56); (case aF => exact (fun _ _ => trivial)); (case aO => exact zz119); (case aS => exact (below_size zz56)); (case aL => have := LMc9.out; omega); intro vI w12 ho hb hg hat; rw [← NyF.out] at ho; have n0_ := Aside0.mk (IsS92.grown (by repeat (first | (with_reducible first | exact HIA.out | apply IsS92.alloc | apply IsS92.drewN | apply IsS92.drew | apply IsS92.set_0) | exact HIA.out)) hg (IsS92.own_ne HIA.out HO_4.out (by decide))); have n2_ := Aside0.mk (ho); clear HIA HO_4; have HIA := n0_; have HOJ := n2_; clear n0_ n2_; replace HB := Aside0.mk (hb); clear ho hb hg hat; refine hK.out _ _ ⟨((HB.out.cell (World.block_lt_of_cell? w _ hwG_0)).trans hwG_0), ((HB.out.cell (World.block_lt_of_cell? w _ hwG_1)).trans hwG_1), ((HB.out.cell (World.block_lt_of_cell? w _ hwG_2)).trans hwG_2), ((HB.out.cell (World.block_lt_of_cell? w _ hwG_3)).trans hwG_3), ((HB.out.cell (World.block_lt_of_cell? w _ hwH_0)).trans hwH_0), ((HB.out.cell (World.block_lt_of_cell? w _ hwH_1)).trans hwH_1), ((HB.out.cell (World.block_lt_of_cell? w _ hwH_2)).trans hwH_2), ((HB.out.cell (World.block_lt_of_cell? w _ hwH_3)).trans hwH_3)⟩ (fun hHeld => ?_); clear hK K; refine normA (some 24) ?_; refine pureA 13 (some 4) #[tT, tT, tT, tT, tT, tT, tT, tT, tT, tT, tT, tT, tT, tT] HT_ ?_; refine done_ (done_of HT_.out (by kernel_rfl)) ?_; try go_wp2
        go_roundg k1
        case measure => have := HK1.out; omega
        case rel => exact ⟨(yF), (wrap64 (x5_1 + 1)), (tE), zz124, H', ⟨by have := HK1.out; omega⟩, ⟨by (with_reducible repeat (first | apply Kd.R_alloc | apply Kd.R_drewN | apply Kd.R_drew)); exact HOJ.out⟩, ⟨by repeat (first | (with_reducible first | exact HIA.out | apply IsS92.alloc | apply IsS92.drewN | apply IsS92.drew | apply IsS92.set_0) | exact HIA.out)⟩, ⟨by repeat (first | (with_reducible first | exact HB.out | apply below_alloc | apply pw_below_drewN | apply below_drew1 | refine below_set ?_ (IsS92.ge HIA.out)) | exact HB.out)⟩⟩
       ·rw [if_neg c9] at H; exact absurd H (by simp)
      ·rw [if_neg c7] at H; exact absurd H (by simp)
     ·rw [if_neg c6] at H; exact absurd H (by simp)
    ·rw [if_neg c5] at H; exact absurd H (by simp)
   ·rw [if_neg c3] at H; have c3b0 : decide (x5_1 < (l0.length : Int)) = false := decide_eq_false c3; clear c3; obtain rfl := Option.some.inj H; go_wp2
    go_ret
    exact ⟨_, by first | rfl | (simp [errW_none, errW_some] <;> rfl) | (simp [*, errW_none, errW_some] <;> rfl), by (with_reducible repeat (first | apply Kd.R_alloc | apply Kd.R_drewN | apply Kd.R_drew)); exact HO_4.out, by repeat (first | (with_reducible first | exact HB.out | apply below_alloc | apply pw_below_drewN | apply below_drew1 | refine below_set ?_ (IsS92.ge HIA.out)) | exact HB.out)⟩
end Go.Proofs.Ytgejkhbehoabdaa.Q
namespace Go.Proofs.Ytgejkhbehoabdaa.Q
open Go.RowKit Go.Proofs.YtgejkhbehoabdaaW.PrintWords Go.Proofs.YtgejkhbehoabdaaW.PrintLast Go.Proofs.YtgejkhbehoabdaaW.PrintMore
attribute [local go_sem] max2_int min2_int max_two min_two max_three min_three max_four min_four   -- for this text's walks alone
set_option linter.unusedVariables false
set_option linter.unusedSimpArgs false
def MinFunc_impl_compare.l0 : Nat → List (S47) → Int → Int → Int → Option (Int × Int)
 | 0, _, _, _, _ => none
 | k + 1, x0, x6, xA, xB => if x6 < (x0.length : Int) then (if 0 ≤ x6 then ((impl_compare.f ((rd_T47 x0 x6).f0) ((rd_T47 x0 x6).f1) xA xB).bind fun tC => (if tC < 0 then (MinFunc_impl_compare.l0 k x0 (wrap64 (x6 + 1)) ((rd_T47 x0 x6).f0) ((rd_T47 x0 x6).f1)) else (MinFunc_impl_compare.l0 k x0 (wrap64 (x6 + 1)) xA xB))) else (none)) else (some (xA, xB))
def MinFunc_impl_compare.f (k : Nat) (l0 : List (S47)) : Option (Int × Int) := if (l0.length : Int) < 1 then (none) else (if 0 < (l0.length : Int) then (MinFunc_impl_compare.l0 k l0 1 ((rd_T47 l0 0).f0) ((rd_T47 l0 0).f1)) else (none))
def MinFunc_impl_compare.T7 : Bool × List (List Nat × List Nat) := (true, [([], []), ([], []), ([], []), ([1, 2], [1, 2]), ([3], [3]), ([], []), ([0, 4, 5], [0, 4, 5]), ([6], [6])])
def MinFunc_impl_compare.B7 : List Nat := [0, 0, 0, 6, 14, 0, 63, 127]
theorem MinFunc_impl_compare.tab7 : rtab .any (opsOf Try.f136 7) = MinFunc_impl_compare.T7 := by kernel_rfl
theorem MinFunc_impl_compare.bits7 : waitsOk MinFunc_impl_compare.T7.2 MinFunc_impl_compare.B7 = true := by kernel_rfl
theorem zz87 {p : Prop} (h : p := by repeat (first | (with_reducible first | exact HB.out | apply below_alloc | apply pw_below_drewN | apply below_drew1 | refine below_set ?_ GEA.out) | exact HB.out)) : p := h
theorem zz48 {p : Prop} (h : p := by repeat (first | (with_reducible first | exact HB.out | apply below_alloc | apply pw_below_drewN | apply below_drew1 | refine below_set ?_ GEA.out | refine below_set ?_ GEB.out) | exact HB.out)) : p := h
set_option maxHeartbeats 8000000 in
set_option maxRecDepth 100000 in
theorem MinFunc_impl_compare.calls (k : Nat) (A0 : Option Addr) (c0 : Nat) (l0 : List (S47)) (r1 : Int) (r2 : Int) (w : World) (hr0 : Kd.C k47 w A0 l0.length l0) (hc0 : l0.length ≤ c0) (h : MinFunc_impl_compare.f k l0 = some (r1, r2)) :
  Calls Try.prog 136 #[.slice A0 l0.length c0, .func (.func 137) #[] #[]] w fun e w' => e = .returned (.agg #[.int .i64 r1, .int .i64 r2]) ∧ Below w.heap.size w w' := by
 have hu47 := Try.underlying47; have HR0 := Aside0.mk hr0; have HC0 := Aside0.mk hc0; clear hr0 hc0; have HB := Aside0.mk (Below.refl w.heap.size w); have H : (if (l0.length : Int) < 1 then (none) else (if 0 < (l0.length : Int) then (MinFunc_impl_compare.l0 k l0 1 ((rd_T47 l0 0).f0) ((rd_T47 l0 0).f1)) else (none))) = some (r1, r2) := h; clear h; by_cases c2 : (l0.length : Int) < 1
 ·rw [if_pos c2] at H; exact absurd H (by simp)
 ·rw [if_neg c2] at H; have c2b0 : decide ((l0.length : Int) < 1) = false := decide_eq_false c2; have c2b1 : decide (l0.length < 1) = false := decide_eq_false (by omega); clear c2; by_cases c3 : 0 < (l0.length : Int)
  ·rw [if_pos c3] at H; have c3b0 : decide (0 < (l0.length : Int)) = true := decide_eq_true c3; have c3b1 : decide (0 < l0.length) = true := decide_eq_true (by omega); clear c3; have H' := Aside0.mk H; clear H; go_enter Try.func136, Try.ntmps136
   go_wp2_with (first | ((with_reducible refine gate_dst (N := 4) rfl ?_); refine box_event ?hg (N := 4) ?hd (cs := #[.int .i64 0, .int .i64 0]) (t := 47) ?hr ?_; (case hd => rfl); (case hg => rfl); (case hr => first | (go_simp; done) | (go_simp; rfl)); intro gbA hg w4 hbox hb; have n2_ := gwA (below_size zz95) hg; have n3_ := gwA (below_size zz95) hg; have GWA := n2_; have GEA := n3_; clear n2_ n3_; have BKA := Aside0.mk (hbox); replace HB := Aside0.mk (below_step zz95 hb); clear hb hbox hg; have pC : 0 ≤ (0 : Int) := (by omega); have qC : 0 < (l0.length : Int) := of_decide_eq_true zz123; obtain ⟨adC, eC, hxC_0, hxC_1⟩ := at_T47 HR0.out 0 pC qC; cases eC; have qiC : (0 < l0.length) = True := eq_true (by omega); (try rw [show ((0 : Int)).toNat = 0 from rfl] at hxC_0); (try rw [show 0 * 2 = 0 from rfl] at hxC_0); (try rw [Addr.add_zero'] at hxC_0); (try rw [show ((0 : Int)).toNat = 0 from rfl] at hxC_1); (try rw [show 0 * 2 = 0 from rfl] at hxC_1); (try rw [Addr.add_zero'] at hxC_1); replace hxC_0 := (HB.out.cell (World.block_lt_of_cell? w _ hxC_0)).trans hxC_0; replace hxC_1 := (HB.out.cell (World.block_lt_of_cell? w _ hxC_1)).trans hxC_1; replace pC := eq_true pC; replace qC := eq_true qC) | ((with_reducible refine gate_dst (N := 5) rfl ?_); refine box_event ?hg (N := 5) ?hd (cs := #[.int .i64 0, .int .i64 0]) (t := 47) ?hr ?_; (case hd => rfl); (case hg => rfl); (case hr => first | (go_simp; done) | (go_simp; rfl)); intro gbB hg w5 hbox hb; have n3_ := gwA (below_size zz87) hg; have n4_ := gwA (below_size zz87) hg; have n5_ := nltA BKA hg; have n6_ := ngtA BKA hg; have GWB := n3_; have GEB := n4_; have NBA_B := n5_; have NBB_A := n6_; clear n3_ n4_ n5_ n6_; replace BKA := blkA BKA hb; have BKB := Aside0.mk (hbox); replace HB := Aside0.mk (below_step zz87 hb); clear hb hbox hg; have hnb6 := NBB_A.out; have hnc6 := NBA_B.out; have hcz7_0 : w5.cell? ⟨gbB, 0, none⟩ = some (.int .i64 0) := (blk_cell BKB.out 0).trans rfl; have hcz7_1 : w5.cell? ⟨gbB, 1, none⟩ = some (.int .i64 0) := (blk_cell BKB.out 1).trans rfl; have hfz7_0 := blk_frozen BKB.out 0; have hfz7_1 := blk_frozen BKB.out 1))
   go_loopg [6] k (fun kq v6 w' => ∃ (x6_1 : Int) (xD_1 : Int) (xE_1 : Int), v6 = .int .i64 x6_1 ∧ Aside0 (MinFunc_impl_compare.l0 kq l0 x6_1 xD_1 xE_1 = some (r1, r2)) ∧ Aside0 (kq ≤ k) ∧ Aside0 (w'.heap[gbA]? = some (.cells #[.int .i64 0, .int .i64 0] 47 (0, 0))) ∧ Aside0 (w'.heap[gbB]? = some (.cells #[.int .i64 xD_1, .int .i64 xE_1] 47 (0, 0))) ∧ Aside0 (Below w.heap.size w w'))
   case atStart => exact ⟨(1), ((rd_T47 l0 0).f0), ((rd_T47 l0 0).f1), zz124, H', ⟨Nat.le_refl _⟩, ⟨by (with_reducible repeat (first | refine blk_drewN ?_ _ | refine blk_drew ?_ | refine blk_alloc ?_ _)); refine blk_far ?_ NBA_B.out _; (with_reducible repeat (first | refine blk_drewN ?_ _ | refine blk_drew ?_ | refine blk_alloc ?_ _)); refine blk_far ?_ NBA_B.out _; (with_reducible repeat (first | refine blk_drewN ?_ _ | refine blk_drew ?_ | refine blk_alloc ?_ _)); exact BKA.out⟩, ⟨by (with_reducible repeat (first | refine blk_drewN ?_ _ | refine blk_drew ?_ | refine blk_alloc ?_ _)); refine blk_put (cs := #[.int .i64 ((rd_T47 l0 0).f0), .int .i64 0]) ?_ 1 _ rfl; (with_reducible repeat (first | refine blk_drewN ?_ _ | refine blk_drew ?_ | refine blk_alloc ?_ _)); refine blk_put (cs := #[.int .i64 0, .int .i64 0]) ?_ 0 _ rfl; (with_reducible repeat (first | refine blk_drewN ?_ _ | refine blk_drew ?_ | refine blk_alloc ?_ _)); exact BKB.out⟩, ⟨by repeat (first | (with_reducible first | exact HB.out | apply below_alloc | apply pw_below_drewN | apply below_drew1 | refine below_set ?_ GEA.out | refine below_set ?_ GEB.out) | exact HB.out)⟩⟩
   case round =>
    clear H'; try clear c2
    try clear c2b0
    try clear c2b1
    try clear p2
    try clear c3
    try clear c3b0
    try clear c3b1
    try clear p5
    try clear q5
    try clear hx5
    try clear qi5
    try clear c6
    try clear hcz7_0
    try clear hcz7_1
    try clear hfz7_0
    try clear hfz7_1
    try clear hxC_0
    try clear hxC_1
    try clear pC
    try clear qC
    obtain ⟨x6_1, xD_1, xE_1, rfl, HA, HK1, BKA, BKB, HB⟩ := hrel; cases gk with
    | zero => exact absurd HA.out (by simp [MinFunc_impl_compare.l0])
    | succ k1 =>
     have H := HA.out; clear HA; simp only [MinFunc_impl_compare.l0] at H; by_cases c8 : x6_1 < (l0.length : Int)
     ·rw [if_pos c8] at H; have c8b0 : decide (x6_1 < (l0.length : Int)) = true := decide_eq_true c8; clear c8; by_cases c9 : 0 ≤ x6_1
      ·rw [if_pos c9] at H; have c9b0 : decide (0 ≤ x6_1) = true := decide_eq_true c9; clear c9; replace H := Option.bind_eq_some_iff.mp H; obtain ⟨tF, AG, H⟩ := H; replace H : (if tF < 0 then (MinFunc_impl_compare.l0 k1 l0 (wrap64 (x6_1 + 1)) ((rd_T47 l0 x6_1).f0) ((rd_T47 l0 x6_1).f1)) else (MinFunc_impl_compare.l0 k1 l0 (wrap64 (x6_1 + 1)) xD_1 xE_1)) = some (r1, r2) := H; have A10 := Aside0.mk AG; clear AG; by_cases c11 : tF < 0
       ·rw [if_pos c11] at H; have c11b0 : decide (tF < 0) = true := decide_eq_true c11; clear c11; have H' := Aside0.mk H; clear H; try go_wp2
        replace BKA := Aside0.mk (blk_drew BKA.out); replace BKB := Aside0.mk (blk_drew BKB.out); replace HB := Aside0.mk (below_drew1 HB.out); have pH : 0 ≤ (x6_1 : Int) := of_decide_eq_true zz123; have qH : x6_1 < (l0.length : Int) := of_decide_eq_true zz123; obtain ⟨adH, eH, hxH_0, hxH_1⟩ := at_T47 HR0.out x6_1 pH qH; have hwH_1 := hxH_1; have hwH_0 := hxH_0; obtain rfl : adC = adH := (by injection eH); replace hxH_0 := (HB.out.cell (World.block_lt_of_cell? w _ hxH_0)).trans hxH_0; replace hxH_1 := (HB.out.cell (World.block_lt_of_cell? w _ hxH_1)).trans hxH_1; replace pH := eq_true pH; replace qH := eq_true qH; refine start_ (n := 8) (S := fun w' => w'.cell? ⟨gbB, 0, none⟩ = some (.int .i64 xD_1) ∧ w'.cell? ⟨gbB, 1, none⟩ = some (.int .i64 xE_1) ∧ w'.cell? (adC.add ((x6_1).toNat * 2)) = some (.int .i64 ((rd_T47 l0 x6_1).f0)) ∧ w'.cell? ⟨(adC.add ((x6_1).toNat * 2)).block, (adC.add ((x6_1).toNat * 2)).off + 1, none⟩ = some (.int .i64 ((rd_T47 l0 x6_1).f1))) (ds := []) #[fF, fF, fF, fF, fF, fF, fF, fF] (by kernel_rfl) rfl rfl ⟨(blk_cell BKB.out 0).trans rfl, (blk_cell BKB.out 1).trans rfl, ((HB.out.cell (World.block_lt_of_cell? w _ hwH_0)).trans hwH_0), ((HB.out.cell (World.block_lt_of_cell? w _ hwH_1)).trans hwH_1)⟩ (fun hHeld => ?_); refine with_tabW MinFunc_impl_compare.tab7 MinFunc_impl_compare.bits7 (fun HT_ HW_ => ?_); generalize wr.drew = w12 at BKA BKB HB hxH_0 hxH_1 hHeld ⊢; refine pureA 0 (some 20) #[tT, fF, fF, fF, fF, fF, fF, fF] HT_ ?_; refine pureA 1 (some 21) #[tT, tT, fF, fF, fF, fF, fF, fF] HT_ ?_; refine pureA 2 (some 22) #[tT, tT, tT, fF, fF, fF, fF, fF] HT_ ?_; refine pureA 3 (some 23) #[tT, tT, tT, tT, fF, fF, fF, fF] HT_ ?_; refine takeA1 4 (some 24) #[tT, tT, tT, tT, tT, fF, fF, fF] HT_ HW_ hHeld ?_; refine takeA1 5 (some 25) #[tT, tT, tT, tT, tT, tT, fF, fF] HT_ HW_ hHeld ?_; refine one_ (i := 6) (N := some 26) #[tT, tT, tT, tT, tT, tT, tT, fF] rfl rfl (one_of HT_.out (by kernel_rfl)) (by decide) (fun K hK => ?_); refine goesT_ 20 (by rfl) Try.func137 (by kernel_rfl) rfl #[.agg #[.int .i64 ((rd_T47 l0 x6_1).f0), .int .i64 ((rd_T47 l0 x6_1).f1)], .agg #[.int .i64 xD_1, .int .i64 xE_1]] (by rfl) rfl rfl zz94 ?_; with_reducible refine (impl_compare.calls ((rd_T47 l0 x6_1).f0) ((rd_T47 l0 x6_1).f1) xD_1 xE_1 tF _ A10.out).mono ?_
        rintro e w13 ⟨rfl, hb⟩; refine ⟨_, rfl, ?_⟩; replace BKA := blkA BKA hb; replace BKB := blkA BKB hb; replace HB := Aside0.mk (below_step zz48 hb); (try clear hb); refine hK.out _ _ ⟨(blk_cell BKB.out 0).trans rfl, (blk_cell BKB.out 1).trans rfl, ((HB.out.cell (World.block_lt_of_cell? w _ hwH_0)).trans hwH_0), ((HB.out.cell (World.block_lt_of_cell? w _ hwH_1)).trans hwH_1)⟩ (fun hHeld => ?_); clear hK K; refine normA (some 26) ?_; refine pureA 7 (some 27) #[tT, tT, tT, tT, tT, tT, tT, tT] HT_ ?_; refine done_ (done_of HT_.out (by kernel_rfl)) ?_; have pI : 0 ≤ (x6_1 : Int) := of_decide_eq_true zz123; have qI : x6_1 < (l0.length : Int) := of_decide_eq_true zz123; obtain ⟨adI, eI, hxI_0, hxI_1⟩ := at_T47 HR0.out x6_1 pI qI; obtain rfl : adC = adI := (by injection eI); replace hxI_0 := (HB.out.cell (World.block_lt_of_cell? w _ hxI_0)).trans hxI_0; replace hxI_1 := (HB.out.cell (World.block_lt_of_cell? w _ hxI_1)).trans hxI_1; replace pI := eq_true pI; replace qI := eq_true qI; have hnb14 := NBB_A.out; have hnc14 := NBA_B.out; have hcz15_0 : w13.cell? ⟨gbB, 0, none⟩ = some (.int .i64 xD_1) := (blk_cell BKB.out 0).trans rfl; have hcz15_1 : w13.cell? ⟨gbB, 1, none⟩ = some (.int .i64 xE_1) := (blk_cell BKB.out 1).trans rfl; have hfz15_0 := blk_frozen BKB.out 0; have hfz15_1 := blk_frozen BKB.out 1; try go_wp2
        go_roundg k1
        case measure => have := HK1.out; omega
        case rel => exact ⟨(wrap64 (x6_1 + 1)), ((rd_T47 l0 x6_1).f0), ((rd_T47 l0 x6_1).f1), zz124, H', ⟨by have := HK1.out; omega⟩, ⟨by (with_reducible repeat (first | refine blk_drewN ?_ _ | refine blk_drew ?_ | refine blk_alloc ?_ _)); refine blk_far ?_ NBA_B.out _; (with_reducible repeat (first | refine blk_drewN ?_ _ | refine blk_drew ?_ | refine blk_alloc ?_ _)); refine blk_far ?_ NBA_B.out _; (with_reducible repeat (first | refine blk_drewN ?_ _ | refine blk_drew ?_ | refine blk_alloc ?_ _)); exact BKA.out⟩, ⟨by (with_reducible repeat (first | refine blk_drewN ?_ _ | refine blk_drew ?_ | refine blk_alloc ?_ _)); refine blk_put (cs := #[.int .i64 ((rd_T47 l0 x6_1).f0), .int .i64 xE_1]) ?_ 1 _ rfl; (with_reducible repeat (first | refine blk_drewN ?_ _ | refine blk_drew ?_ | refine blk_alloc ?_ _)); refine blk_put (cs := #[.int .i64 xD_1, .int .i64 xE_1]) ?_ 0 _ rfl; (with_reducible repeat (first | refine blk_drewN ?_ _ | refine blk_drew ?_ | refine blk_alloc ?_ _)); exact BKB.out⟩, ⟨by repeat (first | (with_reducible first | exact HB.out | apply below_alloc | apply pw_below_drewN | apply below_drew1 | refine below_set ?_ GEA.out | refine below_set ?_ GEB.out) | exact HB.out)⟩⟩
       ·rw [if_neg c11] at H; have c11b0 : decide (tF < 0) = false := decide_eq_false c11; clear c11; have H' := Aside0.mk H; clear H; try go_wp2
        replace BKA := Aside0.mk (blk_drew BKA.out); replace BKB := Aside0.mk (blk_drew BKB.out); replace HB := Aside0.mk (below_drew1 HB.out); have pH : 0 ≤ (x6_1 : Int) := of_decide_eq_true zz123; have qH : x6_1 < (l0.length : Int) := of_decide_eq_true zz123; obtain ⟨adH, eH, hxH_0, hxH_1⟩ := at_T47 HR0.out x6_1 pH qH; have hwH_1 := hxH_1; have hwH_0 := hxH_0; obtain rfl : adC = adH := (by injection eH); replace hxH_0 := (HB.out.cell (World.block_lt_of_cell? w _ hxH_0)).trans hxH_0; replace hxH_1 := (HB.out.cell (World.block_lt_of_cell? w _ hxH_1)).trans hxH_1; replace pH := eq_true pH; replace qH := eq_true qH; refine start_ (n := 8) (S := fun w' => w'.cell? ⟨gbB, 0, none⟩ = some (.int .i64 xD_1) ∧ w'.cell? ⟨gbB, 1, none⟩ = some (.int .i64 xE_1) ∧ w'.cell? (adC.add ((x6_1).toNat * 2)) = some (.int .i64 ((rd_T47 l0 x6_1).f0)) ∧ w'.cell? ⟨(adC.add ((x6_1).toNat * 2)).block, (adC.add ((x6_1).toNat * 2)).off + 1, none⟩ = some (.int .i64 ((rd_T47 l0 x6_1).f1))) (ds := []) #[fF, fF, fF, fF, fF, fF, fF, fF] (by kernel_rfl) rfl rfl ⟨(blk_cell BKB.out 0).trans rfl, (blk_cell BKB.out 1).trans rfl, ((HB.out.cell (World.block_lt_of_cell? w _ hwH_0)).trans hwH_0), ((HB.out.cell (World.block_lt_of_cell? w _ hwH_1)).trans hwH_1)⟩ (fun hHeld => ?_); refine with_tabW MinFunc_impl_compare.tab7 MinFunc_impl_compare.bits7 (fun HT_ HW_ => ?_); generalize wr.drew = w16 at BKA BKB HB hxH_0 hxH_1 hHeld ⊢; refine pureA 0 (some 20) #[tT, fF, fF, fF, fF, fF, fF, fF] HT_ ?_; refine pureA 1 (some 21) #[tT, tT, fF, fF, fF, fF, fF, fF] HT_ ?_; refine pureA 2 (some 22) #[tT, tT, tT, fF, fF, fF, fF, fF] HT_ ?_; refine pureA 3 (some 23) #[tT, tT, tT, tT, fF, fF, fF, fF] HT_ ?_; refine takeA1 4 (some 24) #[tT, tT, tT, tT, tT, fF, fF, fF] HT_ HW_ hHeld ?_; refine takeA1 5 (some 25) #[tT, tT, tT, tT, tT, tT, fF, fF] HT_ HW_ hHeld ?_; refine one_ (i := 6) (N := some 26) #[tT, tT, tT, tT, tT, tT, tT, fF] rfl rfl (one_of HT_.out (by kernel_rfl)) (by decide) (fun K hK => ?_); refine goesT_ 20 (by rfl) Try.func137 (by kernel_rfl) rfl #[.agg #[.int .i64 ((rd_T47 l0 x6_1).f0), .int .i64 ((rd_T47 l0 x6_1).f1)], .agg #[.int .i64 xD_1, .int .i64 xE_1]] (by rfl) rfl rfl zz94 ?_; with_reducible refine (impl_compare.calls ((rd_T47 l0 x6_1).f0) ((rd_T47 l0 x6_1).f1) xD_1 xE_1 tF _ A10.out).mono ?_
        rintro e w17 ⟨rfl, hb⟩; refine ⟨_, rfl, ?_⟩; replace BKA := blkA BKA hb; replace BKB := blkA BKB hb; replace HB := Aside0.mk (below_step zz48 hb); (try clear hb); refine hK.out _ _ ⟨(blk_cell BKB.out 0).trans rfl, (blk_cell BKB.out 1).trans rfl, ((HB.out.cell (World.block_lt_of_cell? w _ hwH_0)).trans hwH_0), ((HB.out.cell (World.block_lt_of_cell? w _ hwH_1)).trans hwH_1)⟩ (fun hHeld => ?_); clear hK K; refine normA (some 26) ?_; refine pureA 7 (some 27) #[tT, tT, tT, tT, tT, tT, tT, tT] HT_ ?_; refine done_ (done_of HT_.out (by kernel_rfl)) ?_; try go_wp2
        go_roundg k1
        case measure => have := HK1.out; omega
        case rel => exact ⟨(wrap64 (x6_1 + 1)), (xD_1), (xE_1), zz124, H', ⟨by have := HK1.out; omega⟩, ⟨by (with_reducible repeat (first | refine blk_drewN ?_ _ | refine blk_drew ?_ | refine blk_alloc ?_ _)); exact BKA.out⟩, ⟨by (with_reducible repeat (first | refine blk_drewN ?_ _ | refine blk_drew ?_ | refine blk_alloc ?_ _)); exact BKB.out⟩, ⟨by repeat (first | (with_reducible first | exact HB.out | apply below_alloc | apply pw_below_drewN | apply below_drew1 | refine below_set ?_ GEA.out | refine below_set ?_ GEB.out) | exact HB.out)⟩⟩
      ·rw [if_neg c9] at H; exact absurd H (by simp)
     ·rw [if_neg c8] at H; have c8b0 : decide (x6_1 < (l0.length : Int)) = false := decide_eq_false c8; clear c8; simp only [Option.some.injEq, Prod.mk.injEq] at H; obtain ⟨rfl, rfl⟩ := H; have hnb18 := NBB_A.out; have hnc18 := NBA_B.out; have hcz19_0 : wr.cell? ⟨gbB, 0, none⟩ = some (.int .i64 xD_1) := (blk_cell BKB.out 0).trans rfl; have hcz19_1 : wr.cell? ⟨gbB, 1, none⟩ = some (.int .i64 xE_1) := (blk_cell BKB.out 1).trans rfl; have hfz19_0 := blk_frozen BKB.out 0; have hfz19_1 := blk_frozen BKB.out 1; have hcz20_0 : wr.cell? ⟨gbA, 0, none⟩ = some (.int .i64 0) := (blk_cell BKA.out 0).trans rfl; have hcz20_1 : wr.cell? ⟨gbA, 1, none⟩ = some (.int .i64 0) := (blk_cell BKA.out 1).trans rfl; have hfz20_0 := blk_frozen BKA.out 0; have hfz20_1 := blk_frozen BKA.out 1; go_wp2
      refine bodyPost_ret (results_cell_row rfl _ _ gbA 47 #[.int .i64 xD_1, .int .i64 xE_1] (0, 0) _ rfl (by (with_reducible repeat (first | refine blk_drewN ?_ _ | refine blk_drew ?_ | refine blk_alloc ?_ _)); refine blk_put (cs := #[.int .i64 xD_1, .int .i64 0]) ?_ 1 _ rfl; (with_reducible repeat (first | refine blk_drewN ?_ _ | refine blk_drew ?_ | refine blk_alloc ?_ _)); refine blk_put (cs := #[.int .i64 0, .int .i64 0]) ?_ 0 _ rfl; (with_reducible repeat (first | refine blk_drewN ?_ _ | refine blk_drew ?_ | refine blk_alloc ?_ _)); exact BKA.out) Try.underlying47 rfl (by kernel_rfl)) rfl ?_; exact ⟨by first | rfl | (simp [errW_none, errW_some] <;> rfl) | (simp [*, errW_none, errW_some] <;> rfl), by repeat (first | (with_reducible first | exact HB.out | apply below_alloc | apply pw_below_drewN | apply below_drew1 | refine below_set ?_ GEA.out | refine below_set ?_ GEB.out) | exact HB.out)⟩
  ·rw [if_neg c3] at H; exact absurd H (by simp)
end Go.Proofs.Ytgejkhbehoabdaa.Q
namespace Go.Proofs.Ytgejkhbehoabdaa.Q
open Go.RowKit Go.Proofs.YtgejkhbehoabdaaW.PrintWords Go.Proofs.YtgejkhbehoabdaaW.PrintLast Go.Proofs.YtgejkhbehoabdaaW.PrintMore
attribute [local go_sem] max2_int min2_int max_two min_two max_three min_three max_four min_four   -- for this text's walks alone
set_option linter.unusedVariables false
set_option linter.unusedSimpArgs false
def impl_expansion.l0 : Nat → List (S47) → List (S47) → Int → Int → Option (Int × Int)
 | 0, _, _, _, _ => none
 | k + 1, x3, x7, x8, x9 => if x9 < x8 then (if 0 ≤ x9 then (if x9 < (x7.length : Int) then ((impl_abs.f ((rd_T47 x7 x9).f0)).bind fun tA => (if x3.length < 8796093022208 then (impl_expansion.l0 k (x3 ++ [(⟨tA, (rd_T47 x7 x9).f1⟩ : S47)]) x7 x8 (wrap64 (x9 + 1))) else (none))) else (none)) else (none)) else ((MinFunc_impl_compare.f k x3).bind fun btB => (some (btB.1, btB.2)))
def impl_expansion.f (k : Nat) (l0 : List (S79)) : Option (Int × Int) := (impl_slopes.f k l0).bind fun tA => (impl_expansion.l0 k ([] : List (S47)) tA (tA.length : Int) 0)
def impl_expansion.T5 : Bool × List (List Nat × List Nat) := (true, [([], []), ([], []), ([1], [1]), ([2], [2]), ([], []), ([4], [4]), ([3, 5], [3, 5]), ([6], [6]), ([0, 7, 3], [0, 7]), ([8, 8, 0, 1, 2, 3, 4, 5, 6, 7, 8], [0, 8])])
def impl_expansion.B5 : List Nat := [0, 0, 2, 6, 0, 16, 62, 126, 255, 511]
theorem impl_expansion.tab5 : rtab .any (opsOf Try.f75 5) = impl_expansion.T5 := by kernel_rfl
theorem impl_expansion.bits5 : waitsOk impl_expansion.T5.2 impl_expansion.B5 = true := by kernel_rfl
theorem zz120 {p : Prop} (h : p := by (with_reducible repeat (first | apply Kd.R_alloc | apply Kd.R_drewN | apply Kd.R_drew)); exact HO_7.out) : p := h
theorem zz110 {p : Prop} (h : p := by (with_reducible repeat (first | refine blk_drewN ?_ _ | refine blk_drew ?_ | refine blk_alloc ?_ _)); exact BKA.out) : p := h
theorem zz109 {p : Prop} (h : p := by (with_reducible repeat (first | refine blk_drewN ?_ _ | refine blk_drew ?_ | refine blk_alloc ?_ _)); exact BKB.out) : p := h
theorem zz88 {p : Prop} (h : p := by repeat (first | (with_reducible first | exact HB.out | apply below_alloc | apply pw_below_drewN | apply below_drew1 | refine below_set ?_ GEB.out) | exact HB.out)) : p := h
theorem zz49 {p : Prop} (h : p := by repeat (first | (with_reducible first | exact HB.out | apply below_alloc | apply pw_below_drewN | apply below_drew1 | refine below_set ?_ GEB.out | refine below_set ?_ GEA.out) | exact HB.out)) : p := h
set_option maxHeartbeats 8000000 in
set_option maxRecDepth 100000 in
theorem impl_expansion.calls (k : Nat) (A0 : Option Addr) (c0 : Nat) (l0 : List (S79)) (r1 : Int) (r2 : Int) (w : World) (hr0 : Kd.C k79 w A0 l0.length l0) (hc0 : l0.length ≤ c0) (h : impl_expansion.f k l0 = some (r1, r2)) :
  Calls Try.prog 75 #[.slice A0 l0.length c0] w fun e w' => e = .returned (.agg #[.int .i64 r1, .int .i64 r2]) ∧ Below w.heap.size w w' := by
 have hu47 := Try.underlying47; have HR0 := Aside0.mk hr0; have HC0 := Aside0.mk hc0; clear hr0 hc0; have HB := Aside0.mk (Below.refl w.heap.size w); have H : ((impl_slopes.f k l0).bind fun tC => (impl_expansion.l0 k ([] : List (S47)) tC (tC.length : Int) 0)) = some (r1, r2) := h; clear h; replace H := Option.bind_eq_some_iff.mp H; obtain ⟨tC, A20, H⟩ := H; replace H : (impl_expansion.l0 k ([] : List (S47)) tC (tC.length : Int) 0) = some (r1, r2) := H; have A2 := Aside0.mk A20; clear A20; have H' := Aside0.mk H; clear H; go_enter Try.func75, Try.ntmps75
 go_wp2_with (first | ((with_reducible refine gate_dst (N := 2) rfl ?_); refine box_event ?hg (N := 2) ?hd (cs := #[.int .i64 0, .int .i64 0]) (t := 47) ?hr ?_; (case hd => rfl); (case hg => rfl); (case hr => first | (go_simp; done) | (go_simp; rfl)); intro gbB hg w3 hbox hb; have n2_ := gwA (below_size zz95) hg; have n3_ := gwA (below_size zz95) hg; have GWB := n2_; have GEB := n3_; clear n2_ n3_; have BKB := Aside0.mk (hbox); replace HB := Aside0.mk (below_step zz95 hb); clear hb hbox hg) | ((with_reducible refine gate_callee (f := 134) rfl ?_); refine goesL_ (some 7) rfl rfl Try.func134 (by kernel_rfl) rfl #[.slice A0 l0.length c0] rfl zz94 ?_; (with_reducible refine (impl_slopes.calls k _ _ l0 tC _ ?side1 ?side2 A2.out).mono ?_); (case side1 => repeat (first | exact (Kd.C_below HR0.out HB.out) | (with_reducible refine Kd.C_alloc ?_ _) | (with_reducible refine Kd.C_drewN ?_ _) | (with_reducible refine Kd.C_drew ?_))); (case side2 => exact HC0.out); rintro e w4 ⟨vD, rfl, ho0, hb⟩; refine ⟨_, rfl, ?_⟩; have n0_ := Aside0.mk (Kd.R_lower (Kd.R_newB ho0 (g := gbB) (o := .cells #[.int .i64 0, .int .i64 0] 47 (0, 0)) zz109) (below_size zz88)); have HOE := n0_; clear n0_; replace BKB := blkA BKB hb; replace HB := Aside0.mk (below_step zz88 hb); (try clear hb); (try clear ho0); obtain ⟨Ao5, co5, eo5⟩ := Kd.R_slice HOE.out; subst eo5))
 go_loopg [3, 9] k (fun kq v3 v9 w' => ∃ (x3_1 : List (S47)) (x9_1 : Int), v9 = .int .i64 x9_1 ∧ Aside0 (impl_expansion.l0 kq x3_1 tC (tC.length : Int) x9_1 = some (r1, r2)) ∧ Aside0 (kq ≤ k) ∧ Aside0 (Kd.R k47 47 w' w.heap.size (fun k_ => some k_ ≠ ((.slice Ao5 tC.length co5) : Value).ownBlock ∧ k_ ≠ gbB) v3 x3_1) ∧ Aside0 (Kd.R k47 47 w' w.heap.size (fun k_ => some k_ ≠ (v3 : Value).ownBlock ∧ k_ ≠ gbB) (.slice Ao5 tC.length co5) tC) ∧ Aside0 (w'.heap[gbB]? = some (.cells #[.int .i64 0, .int .i64 0] 47 (0, 0))) ∧ Aside0 (Below w.heap.size w w'))
 case atStart => exact ⟨(([] : List (S47))), (0), zz124, H', ⟨Nat.le_refl _⟩, ⟨by first | exact Kd.R_nil _ _ _ _ _ | exact Kd.N_nil _ _ _ _ _ | exact Kd.V_nil _ _ _ _ _ | exact Kd.Q_nil _ _ _ _ _ | exact Kd.S_nil _ _ _ _ _⟩, ⟨by (with_reducible repeat (first | apply Kd.R_alloc | apply Kd.R_drewN | apply Kd.R_drew)); exact Kd.R_mono HOE.out (fun _ hk => ⟨(by simp [Value.ownBlock]), hk.2⟩)⟩, ⟨by (with_reducible repeat (first | refine blk_drewN ?_ _ | refine blk_drew ?_ | refine blk_alloc ?_ _)); exact BKB.out⟩, ⟨by repeat (first | (with_reducible first | exact HB.out | apply below_alloc | apply pw_below_drewN | apply below_drew1 | refine below_set ?_ GEB.out) | exact HB.out)⟩⟩
 case round =>
  clear H'; try clear c1
  try clear p2
  obtain ⟨x3_1, x9_1, rfl, HA, HK1, HO_3, HO_7, BKB, HB⟩ := hrel; cases gk with
  | zero => exact absurd HA.out (by simp [impl_expansion.l0])
  | succ k1 =>
   have H := HA.out; clear HA; simp only [impl_expansion.l0] at H; by_cases c6 : x9_1 < (tC.length : Int)
   ·rw [if_pos c6] at H; have c6b0 : decide (x9_1 < (tC.length : Int)) = true := decide_eq_true c6; clear c6; by_cases c7 : 0 ≤ x9_1
    ·rw [if_pos c7] at H; have c7b0 : decide (0 ≤ x9_1) = true := decide_eq_true c7; clear c7; by_cases c8 : x9_1 < (tC.length : Int)
     ·rw [if_pos c8] at H; have c8b0 : decide (x9_1 < (tC.length : Int)) = true := decide_eq_true c8; clear c8; replace H := Option.bind_eq_some_iff.mp H; obtain ⟨tF, A90, H⟩ := H; replace H : (if x3_1.length < 8796093022208 then (impl_expansion.l0 k1 (x3_1 ++ [(⟨tF, (rd_T47 tC x9_1).f1⟩ : S47)]) tC (tC.length : Int) (wrap64 (x9_1 + 1))) else (none)) = some (r1, r2) := H; have A9 := Aside0.mk A90; clear A90; by_cases c10 : x3_1.length < 8796093022208
      ·rw [if_pos c10] at H; have LMc10 := Aside0.mk c10; clear c10; obtain ⟨yG, hyG⟩ : ∃ y_ : List (S47), y_ = (x3_1 ++ [(⟨tF, (rd_T47 tC x9_1).f1⟩ : S47)]) := ⟨_, rfl⟩; replace H : (impl_expansion.l0 k1 yG tC (tC.length : Int) (wrap64 (x9_1 + 1))) = some (r1, r2) := by first | (rw [hyG]; with_reducible exact H) | (have H2_ := (Option.bind_some _ _).symm.trans H; rw [hyG]; with_reducible exact H2_) | (have H2_ := (Option.bind_some _ _).symm.trans H; with_reducible exact H2_) | with_reducible exact H | (rw [hyG]; exact H) | exact H
       have NyG := Aside0.mk hyG; clear hyG; have H' := Aside0.mk H; clear H; have pH : 0 ≤ (x9_1 : Int) := of_decide_eq_true zz123; have qH : x9_1 < (tC.length : Int) := of_decide_eq_true zz123; obtain ⟨adH, eH, hxH_0, hxH_1⟩ := at_T47 (Kd.R_reads' HO_7.out).2.2 x9_1 pH qH; cases eH
       replace pH := eq_true pH; replace qH := eq_true qH; try go_wp2_with (first | ((with_reducible refine gate_dst (N := 5) rfl ?_); refine box_event ?hg (N := 5) ?hd (cs := #[.int .i64 0, .int .i64 0]) (t := 47) ?hr ?_; (case hd => rfl); (case hg => rfl); (case hr => first | (go_simp; done) | (go_simp; rfl)); intro gbA hg w11 hbox hb; have n0_ := Aside0.mk (Kd.R_below (Kd.R_elderB zz118 gbA (Nat.le_of_eq hg.symm)) hb); have n1_ := Aside0.mk (Kd.R_below (Kd.R_elderB zz120 gbA (Nat.le_of_eq hg.symm)) hb); have n5_ := gwA (below_size zz88) hg; have n6_ := gwA (below_size zz88) hg; have n7_ := nltA BKB hg; have n8_ := ngtA BKB hg; clear HO_3 HO_7; have HO_3 := n0_; have HO_7 := n1_; have GWA := n5_; have GEA := n6_; have NBB_A := n7_; have NBA_B := n8_; clear n0_ n1_ n5_ n6_ n7_ n8_; replace BKB := blkA BKB hb; have BKA := Aside0.mk (hbox); replace HB := Aside0.mk (below_step zz88 hb); clear hb hbox hg; have hnb12 := NBA_B.out; have hnc12 := NBB_A.out; have hcz13_0 : w11.cell? ⟨gbA, 0, none⟩ = some (.int .i64 0) := (blk_cell BKA.out 0).trans rfl; have hcz13_1 : w11.cell? ⟨gbA, 1, none⟩ = some (.int .i64 0) := (blk_cell BKA.out 1).trans rfl; have hfz13_0 := blk_frozen BKA.out 0; have hfz13_1 := blk_frozen BKA.out 1))
       have n0_ : Aside0 (Kd.R k47 47 ((w11.setCell ⟨gbA, 0, none⟩ (.int .i64 ((rd_T47 tC x9_1).f0))).setCell ⟨gbA, 1, none⟩ (.int .i64 ((rd_T47 tC x9_1).f1))) w.heap.size (fun k_ => some k_ ≠ (.slice (some adH) tC.length co5 : Value).ownBlock ∧ k_ ≠ gbB ∧ k_ ≠ gbA) u3 x3_1) := ⟨by (with_reducible repeat (first | apply Kd.R_alloc | apply Kd.R_drewN | apply Kd.R_drew)); exact Kd.R_mono (Kd.R_far (p := ⟨gbA, 1, none⟩) (Kd.R_far (p := ⟨gbA, 0, none⟩) (Kd.R_mono HO_3.out (fun k_ hk => (⟨hk, hk.2⟩ : _ ∧ k_ ≠ gbA))) (fun _ hk => hk.2) (.int .i64 ((rd_T47 tC x9_1).f0))) (fun _ hk => hk.2) (.int .i64 ((rd_T47 tC x9_1).f1))) (fun _ hk => ⟨hk.1.1.1, ⟨hk.1.1.2, hk.1.2⟩⟩)⟩; have n1_ : Aside0 (Kd.R k47 47 ((w11.setCell ⟨gbA, 0, none⟩ (.int .i64 ((rd_T47 tC x9_1).f0))).setCell ⟨gbA, 1, none⟩ (.int .i64 ((rd_T47 tC x9_1).f1))) w.heap.size (fun k_ => some k_ ≠ (u3 : Value).ownBlock ∧ k_ ≠ gbB ∧ k_ ≠ gbA) (.slice (some adH) tC.length co5) tC) := ⟨by (with_reducible repeat (first | apply Kd.R_alloc | apply Kd.R_drewN | apply Kd.R_drew)); exact Kd.R_mono (Kd.R_far (p := ⟨gbA, 1, none⟩) (Kd.R_far (p := ⟨gbA, 0, none⟩) (Kd.R_mono HO_7.out (fun k_ hk => (⟨hk, hk.2⟩ : _ ∧ k_ ≠ gbA))) (fun _ hk => hk.2) (.int .i64 ((rd_T47 tC x9_1).f0))) (fun _ hk => hk.2) (.int .i64 ((rd_T47 tC x9_1).f1))) (fun _ hk => ⟨hk.1.1.1, ⟨hk.1.1.2, hk.1.2⟩⟩)⟩; have n2_ : Aside0 (((w11.setCell ⟨gbA, 0, none⟩ (.int .i64 ((rd_T47 tC x9_1).f0))).setCell ⟨gbA, 1, none⟩ (.int .i64 ((rd_T47 tC x9_1).f1))).heap[gbB]? = some (.cells #[.int .i64 0, .int .i64 0] 47 (0, 0))) := ⟨by (with_reducible repeat (first | refine blk_drewN ?_ _ | refine blk_drew ?_ | refine blk_alloc ?_ _)); refine blk_far ?_ NBB_A.out _; (with_reducible repeat (first | refine blk_drewN ?_ _ | refine blk_drew ?_ | refine blk_alloc ?_ _)); refine blk_far ?_ NBB_A.out _; (with_reducible repeat (first | refine blk_drewN ?_ _ | refine blk_drew ?_ | refine blk_alloc ?_ _)); exact BKB.out⟩; have n3_ : Aside0 (((w11.setCell ⟨gbA, 0, none⟩ (.int .i64 ((rd_T47 tC x9_1).f0))).setCell ⟨gbA, 1, none⟩ (.int .i64 ((rd_T47 tC x9_1).f1))).heap[gbA]? = some (.cells #[.int .i64 ((rd_T47 tC x9_1).f0), .int .i64 ((rd_T47 tC x9_1).f1)] 47 (0, 0))) := ⟨by (with_reducible repeat (first | refine blk_drewN ?_ _ | refine blk_drew ?_ | refine blk_alloc ?_ _)); refine blk_put (cs := #[.int .i64 ((rd_T47 tC x9_1).f0), .int .i64 0]) ?_ 1 _ rfl; (with_reducible repeat (first | refine blk_drewN ?_ _ | refine blk_drew ?_ | refine blk_alloc ?_ _)); refine blk_put (cs := #[.int .i64 0, .int .i64 0]) ?_ 0 _ rfl; (with_reducible repeat (first | refine blk_drewN ?_ _ | refine blk_drew ?_ | refine blk_alloc ?_ _)); exact BKA.out⟩; have n4_ : Aside0 (Below w.heap.size w ((w11.setCell ⟨gbA, 0, none⟩ (.int .i64 ((rd_T47 tC x9_1).f0))).setCell ⟨gbA, 1, none⟩ (.int .i64 ((rd_T47 tC x9_1).f1)))) := ⟨by repeat (first | (with_reducible first | exact HB.out | apply below_alloc | apply pw_below_drewN | apply below_drew1 | refine below_set ?_ GEB.out | refine below_set ?_ GEA.out) | exact HB.out)⟩; generalize ((w11.setCell ⟨gbA, 0, none⟩ (.int .i64 ((rd_T47 tC x9_1).f0))).setCell ⟨gbA, 1, none⟩ (.int .i64 ((rd_T47 tC x9_1).f1))) = w14 at n0_ n1_ n2_ n3_ n4_ ⊢; have HO_3 := n0_; have HO_7 := n1_; have BKB := n2_; have BKA := n3_; have HB := n4_; clear n0_ n1_ n2_ n3_ n4_; have n0_ := Aside0.mk (Kd.R_drew HO_3.out); have n1_ := Aside0.mk (Kd.R_drew HO_7.out); clear HO_3 HO_7; have HO_3 := n0_; have HO_7 := n1_; clear n0_ n1_; replace BKB := Aside0.mk (blk_drew BKB.out); replace BKA := Aside0.mk (blk_drew BKA.out); replace HB := Aside0.mk (below_drew1 HB.out); refine start_ (n := 10) (S := fun w' => w'.cell? ⟨gbA, 0, none⟩ = some (.int .i64 ((rd_T47 tC x9_1).f0)) ∧ w'.cell? ⟨gbA, 1, none⟩ = some (.int .i64 ((rd_T47 tC x9_1).f1))) (ds := []) #[fF, fF, fF, fF, fF, fF, fF, fF, fF, fF] (by kernel_rfl) rfl rfl ⟨(blk_cell BKA.out 0).trans rfl, (blk_cell BKA.out 1).trans rfl⟩ (fun hHeld => ?_); refine with_tabW impl_expansion.tab5 impl_expansion.bits5 (fun HT_ HW_ => ?_); generalize w14.drew = w15 at HO_3 HO_7 BKB BKA HB hHeld ⊢; refine pureA 0 (some 13) #[tT, fF, fF, fF, fF, fF, fF, fF, fF, fF] HT_ ?_; refine pureA 1 (some 14) #[tT, tT, fF, fF, fF, fF, fF, fF, fF, fF] HT_ ?_; refine pureA 4 (some 17) #[tT, tT, fF, fF, tT, fF, fF, fF, fF, fF] HT_ ?_; refine takeA2 2 (some 15) #[tT, tT, tT, fF, tT, fF, fF, fF, fF, fF] HT_ HW_ hHeld ?_; refine takeA2 5 (some 18) #[tT, tT, tT, fF, tT, tT, fF, fF, fF, fF] HT_ HW_ hHeld ?_; refine one_ (i := 3) (N := some 16) #[tT, tT, tT, tT, tT, tT, fF, fF, fF, fF] rfl rfl (one_of HT_.out (by kernel_rfl)) (by decide) (fun K hK => ?_); refine goes_ Try.func135 (by kernel_rfl) rfl #[.int .i64 ((rd_T47 tC x9_1).f0)] (by rfl) rfl rfl zz94 ?_; with_reducible refine (impl_abs.calls ((rd_T47 tC x9_1).f0) tF _ A9.out).mono ?_
       rintro e w' ⟨rfl, ⟨nd, rfl⟩⟩; refine ⟨_, rfl, ?_⟩; refine hK.out _ _ ⟨(blk_cell BKA.out 0).trans rfl, (blk_cell BKA.out 1).trans rfl⟩ (fun hHeld => ?_); clear hK K; refine normA (some 16) ?_; refine pureA 6 (some 19) #[tT, tT, tT, tT, tT, tT, tT, fF, fF, fF] HT_ ?_; refine one_ (i := 7) (N := some 20) #[tT, tT, tT, tT, tT, tT, tT, tT, fF, fF] rfl rfl (one_of HT_.out (by kernel_rfl)) (by decide) (fun K hK => ?_); refine value_ (w1 := ?_) (v := ?_) (by rfl) rfl ?_ ?_; rotate_left 2
       ·go_simp
        constructor
        ·rfl
        ·rfl
       refine hK.out _ _ ⟨(blk_cell (blk_alloc BKA.out _) 0).trans rfl, (blk_cell (blk_alloc BKA.out _) 1).trans rfl⟩ (fun hHeld => ?_); clear hK K; refine normA (some 20) ?_; refine one_ (i := 8) (N := some 21) #[tT, tT, tT, tT, tT, tT, tT, tT, tT, fF] rfl rfl (one_of HT_.out (by kernel_rfl)) (by decide) (fun K hK => ?_); refine Kd.R_append_step k47 (w0 := w) w.heap.size (by rfl) (.tmp 13) (.tmp 20) 24 47 (.agg #[(.int .i64 0), (.int .i64 0)]) 16 rfl Try.underlying24 info47 rfl (by decide) (by omega) u3 x3_1 (⟨tF, (rd_T47 tC x9_1).f1⟩ : S47) [.int .i64 tF, .int .i64 ((rd_T47 tC x9_1).f1)] (fun k_ => some k_ ≠ (.slice (some adH) tC.length co5 : Value).ownBlock ∧ k_ ≠ gbB ∧ k_ ≠ gbA) (fun _ => False) rfl rfl ?aP (fun _ hk => hk.elim) ?aF ?aO ?aB ?aS ?aL ?_; (case aP => exact k47_mkM _ _ _ (⟨tF, (rd_T47 tC x9_1).f1⟩ : S47)); (case aB => exact zz49); (case aF => exact (fun k_ hk => ⟨Kd.fresh' (Kd.R_lt zz120) k_ hk, Kd.freshB (g := gbB) (o := .cells #[.int .i64 0, .int .i64 0] 47 (0, 0)) zz109 k_ hk, Kd.freshB (g := gbA) (o := .cells #[.int .i64 ((rd_T47 tC x9_1).f0), .int .i64 ((rd_T47 tC x9_1).f1)] 47 (0, 0)) zz110 k_ hk⟩)); (case aO => exact zz118); (case aS => exact (below_size zz49)); (case aL => have := LMc10.out; omega); intro vI w16 ho hb hg hat; rw [← NyG.out] at ho; have n0_ := Aside0.mk (Kd.R_after (ok := (fun k_ => k_ ≠ gbB ∧ k_ ≠ gbA)) (by (with_reducible repeat (first | apply Kd.R_alloc | apply Kd.R_drewN | apply Kd.R_drew)); exact Kd.R_mono HO_7.out (fun _ hk => ⟨⟨hk.2.1, hk.2.2⟩, hk.1⟩)) hg hat); have n1_ := Aside0.mk (blk_grown (g := gbB) (o := .cells #[.int .i64 0, .int .i64 0] 47 (0, 0)) zz109 hg (Kd.R_away HO_3.out (fun _ hk => hk.2.1))); have n2_ := Aside0.mk (blk_grown (g := gbA) (o := .cells #[.int .i64 ((rd_T47 tC x9_1).f0), .int .i64 ((rd_T47 tC x9_1).f1)] 47 (0, 0)) zz110 hg (Kd.R_away HO_3.out (fun _ hk => hk.2.2))); have n4_ := Aside0.mk (ho); clear HO_7 BKB BKA HO_3; have HO_7 := n0_; have BKB := n1_; have BKA := n2_; have HOJ := n4_; clear n0_ n1_ n2_ n4_; replace HB := Aside0.mk (hb); clear ho hb hg hat; refine hK.out _ _ ⟨(blk_cell BKA.out 0).trans rfl, (blk_cell BKA.out 1).trans rfl⟩ (fun hHeld => ?_); clear hK K; refine normA (some 21) ?_; refine pureA 9 (some 3) #[tT, tT, tT, tT, tT, tT, tT, tT, tT, tT] HT_ ?_; refine done_ (done_of HT_.out (by kernel_rfl)) ?_; try go_wp2
       go_roundg k1
       case measure => have := HK1.out; omega
       case rel => exact ⟨(yG), (wrap64 (x9_1 + 1)), zz124, H', ⟨by have := HK1.out; omega⟩, ⟨by (with_reducible repeat (first | apply Kd.R_alloc | apply Kd.R_drewN | apply Kd.R_drew)); exact Kd.R_mono HOJ.out (fun _ hk => ⟨hk.1, hk.2.1⟩)⟩, ⟨by (with_reducible repeat (first | apply Kd.R_alloc | apply Kd.R_drewN | apply Kd.R_drew)); exact Kd.R_mono HO_7.out (fun _ hk => ⟨hk.2, hk.1.1⟩)⟩, ⟨by (with_reducible repeat (first | refine blk_drewN ?_ _ | refine blk_drew ?_ | refine blk_alloc ?_ _)); exact BKB.out⟩, ⟨by repeat (first | (with_reducible first | exact HB.out | apply below_alloc | apply pw_below_drewN | apply below_drew1 | refine below_set ?_ GEB.out | refine below_set ?_ GEA.out) | exact HB.out)⟩⟩
      ·rw [if_neg c10] at H; exact absurd H (by simp)
     ·rw [if_neg c8] at H; exact absurd H (by simp)
    ·rw [if_neg c7] at H; exact absurd H (by simp)
   ·rw [if_neg c6] at H; have c6b0 : decide (x9_1 < (tC.length : Int)) = false := decide_eq_false c6; clear c6; replace H := Option.bind_eq_some_iff.mp H; obtain ⟨⟨tK, tL⟩, AM, H⟩ := H; replace H : (some (tK, tL)) = some (r1, r2) := H; have A17 := Aside0.mk AM; clear AM; simp only [Option.some.injEq, Prod.mk.injEq] at H; obtain ⟨rfl, rfl⟩ := H; obtain ⟨Ao18, co18, eo18⟩ := Kd.R_slice HO_3.out; subst eo18; go_wp2_with (first | ((with_reducible refine gate_callee (f := 136) rfl ?_); refine goesL_ (some 24) rfl rfl Try.func136 (by kernel_rfl) rfl #[.slice Ao18 x3_1.length co18, .func (.func 137) #[] #[]] rfl zz94 ?_; (with_reducible refine (MinFunc_impl_compare.calls k1 _ _ x3_1 tK tL _ ?side1 ?side2 A17.out).mono ?_); (case side1 => repeat (first | exact (Kd.R_reads' HO_3.out).2.2 | (with_reducible refine Kd.C_alloc ?_ _) | (with_reducible refine Kd.C_drewN ?_ _) | (with_reducible refine Kd.C_drew ?_))); (case side2 => exact (Kd.R_reads' HO_3.out).2.1); rintro e w19 ⟨rfl, hb⟩; refine ⟨_, rfl, ?_⟩; have n0_ := Aside0.mk (Kd.R_below zz118 hb); have n1_ := Aside0.mk (Kd.R_below zz120 hb); clear HO_3 HO_7; have HO_3 := n0_; have HO_7 := n1_; clear n0_ n1_; replace BKB := blkA BKB hb; replace HB := Aside0.mk (below_step zz88 hb); (try clear hb); have hcz20_0 : w19.cell? ⟨gbB, 0, none⟩ = some (.int .i64 0) := (blk_cell BKB.out 0).trans rfl; have hcz20_1 : w19.cell? ⟨gbB, 1, none⟩ = some (.int .i64 0) := (blk_cell BKB.out 1).trans rfl; have hfz20_0 := blk_frozen BKB.out 0; have hfz20_1 := blk_frozen BKB.out 1))
    refine bodyPost_ret (results_cell_row rfl _ _ gbB 47 #[.int .i64 tK, .int .i64 tL] (0, 0) _ rfl (by (with_reducible repeat (first | refine blk_drewN ?_ _ | refine blk_drew ?_ | refine blk_alloc ?_ _)); refine blk_put (cs := #[.int .i64 tK, .int .i64 0]) ?_ 1 _ rfl; (with_reducible repeat (first | refine blk_drewN ?_ _ | refine blk_drew ?_ | refine blk_alloc ?_ _)); refine blk_put (cs := #[.int .i64 0, .int .i64 0]) ?_ 0 _ rfl; (with_reducible repeat (first | refine blk_drewN ?_ _ | refine blk_drew ?_ | refine blk_alloc ?_ _)); exact BKB.out) Try.underlying47 rfl (by kernel_rfl)) rfl ?_; exact ⟨by first | rfl | (simp [errW_none, errW_some] <;> rfl) | (simp [*, errW_none, errW_some] <;> rfl), by repeat (first | (with_reducible first | exact HB.out | apply below_alloc | apply pw_below_drewN | apply below_drew1 | refine below_set ?_ GEB.out) | exact HB.out)⟩
def impl_ExpansionOf.f (k : Nat) (l0 : List (S79)) : Option (Int × Int × Bool) := (impl_isMap.f k l0).bind fun tA => (if tA = true then ((impl_expansion.f k l0).bind fun btB => (some (btB.1, btB.2, true))) else (some (0, 0, false)))
theorem zz89 {p : Prop} (h : p := by repeat (first | (with_reducible first | exact HB.out | apply below_alloc | apply pw_below_drewN | apply below_drew1 | refine below_set ?_ GEA.out) | exact HB.out)) : p := h
set_option maxHeartbeats 8000000 in
set_option maxRecDepth 100000 in
theorem impl_ExpansionOf.calls (k : Nat) (A0 : Option Addr) (c0 : Nat) (l0 : List (S79)) (r1 : Int) (r2 : Int) (r3 : Bool) (w : World) (hr0 : Kd.C k79 w A0 l0.length l0) (hc0 : l0.length ≤ c0) (h : impl_ExpansionOf.f k l0 = some (r1, r2, r3)) :
  Calls Try.prog 36 #[.slice A0 l0.length c0] w fun e w' => e = .returned (.tuple #[.agg #[.int .i64 r1, .int .i64 r2], .bool r3]) ∧ Below w.heap.size w w' := by
 have hu47 := Try.underlying47; have HR0 := Aside0.mk hr0; have HC0 := Aside0.mk hc0; clear hr0 hc0; have HB := Aside0.mk (Below.refl w.heap.size w); have H : ((impl_isMap.f k l0).bind fun tB => (if tB = true then ((impl_expansion.f k l0).bind fun btC => (some (btC.1, btC.2, true))) else (some (0, 0, false)))) = some (r1, r2, r3) := h; clear h; replace H := Option.bind_eq_some_iff.mp H; obtain ⟨tB, A20, H⟩ := H; replace H : (if tB = true then ((impl_expansion.f k l0).bind fun btC => (some (btC.1, btC.2, true))) else (some (0, 0, false))) = some (r1, r2, r3) := H; have A2 := Aside0.mk A20; clear A20; by_cases c3 : tB = true
 ·subst c3; have H1 : ((impl_expansion.f k l0).bind fun btC => (some (btC.1, btC.2, true))) = some (r1, r2, r3) := by rw [if_pos rfl] at H; exact H
  clear H; have H := H1; clear H1; replace H := Option.bind_eq_some_iff.mp H; obtain ⟨⟨tC, tD⟩, A40, H⟩ := H; replace H : (some (tC, tD, true)) = some (r1, r2, r3) := H; have A4 := Aside0.mk A40; clear A40; simp only [Option.some.injEq, Prod.mk.injEq] at H; obtain ⟨rfl, rfl, rfl⟩ := H; go_enter Try.func36, Try.ntmps36
  go_wp2_with (first | ((with_reducible refine gate_dst (N := 2) rfl ?_); refine box_event ?hg (N := 2) ?hd (cs := #[.int .i64 0, .int .i64 0]) (t := 47) ?hr ?_; (case hd => rfl); (case hg => rfl); (case hr => first | (go_simp; done) | (go_simp; rfl)); intro gbA hg w5 hbox hb; have n2_ := gwA (below_size zz95) hg; have n3_ := gwA (below_size zz95) hg; have GWA := n2_; have GEA := n3_; clear n2_ n3_; have BKA := Aside0.mk (hbox); replace HB := Aside0.mk (below_step zz95 hb); clear hb hbox hg) | ((with_reducible refine gate_callee (f := 70) rfl ?_); refine goesL_ (some 5) rfl rfl Try.func70 (by kernel_rfl) rfl #[.slice A0 l0.length c0] rfl zz94 ?_; (with_reducible refine (impl_isMap.calls k _ _ l0 true _ ?side1 ?side2 A2.out).mono ?_); (case side1 => repeat (first | exact (Kd.C_below HR0.out HB.out) | (with_reducible refine Kd.C_alloc ?_ _) | (with_reducible refine Kd.C_drewN ?_ _) | (with_reducible refine Kd.C_drew ?_))); (case side2 => exact HC0.out); rintro e w6 ⟨rfl, hb⟩; refine ⟨_, rfl, ?_⟩; replace BKA := blkA BKA hb; replace HB := Aside0.mk (below_step zz89 hb); (try clear hb)) | ((with_reducible refine gate_callee (f := 75) rfl ?_); refine goesL_ (some 9) rfl rfl Try.func75 (by kernel_rfl) rfl #[.slice A0 l0.length c0] rfl zz94 ?_; (with_reducible refine (impl_expansion.calls k _ _ l0 tC tD _ ?side1 ?side2 A4.out).mono ?_); (case side1 => repeat (first | exact (Kd.C_below HR0.out HB.out) | (with_reducible refine Kd.C_alloc ?_ _) | (with_reducible refine Kd.C_drewN ?_ _) | (with_reducible refine Kd.C_drew ?_))); (case side2 => exact HC0.out); rintro e w7 ⟨rfl, hb⟩; refine ⟨_, rfl, ?_⟩; replace BKA := blkA BKA hb; replace HB := Aside0.mk (below_step zz89 hb); (try clear hb); have hcz8_0 : w7.cell? ⟨gbA, 0, none⟩ = some (.int .i64 0) := (blk_cell BKA.out 0).trans rfl; have hcz8_1 : w7.cell? ⟨gbA, 1, none⟩ = some (.int .i64 0) := (blk_cell BKA.out 1).trans rfl; have hfz8_0 := blk_frozen BKA.out 0; have hfz8_1 := blk_frozen BKA.out 1))
  refine bodyPost_ret (results_ct rfl _ _ gbA 47 #[.int .i64 tC, .int .i64 tD] (0, 0) _ rfl (by (with_reducible repeat (first | refine blk_drewN ?_ _ | refine blk_drew ?_ | refine blk_alloc ?_ _)); refine blk_put (cs := #[.int .i64 tC, .int .i64 0]) ?_ 1 _ rfl; (with_reducible repeat (first | refine blk_drewN ?_ _ | refine blk_drew ?_ | refine blk_alloc ?_ _)); refine blk_put (cs := #[.int .i64 0, .int .i64 0]) ?_ 0 _ rfl; (with_reducible repeat (first | refine blk_drewN ?_ _ | refine blk_drew ?_ | refine blk_alloc ?_ _)); exact BKA.out) Try.underlying47 rfl (by kernel_rfl)) rfl ?_; exact ⟨by first | rfl | (simp [errW_none, errW_some] <;> rfl) | (simp [*, errW_none, errW_some] <;> rfl), by repeat (first | (with_reducible first | exact HB.out | apply below_alloc | apply pw_below_drewN | apply below_drew1 | refine below_set ?_ GEA.out) | exact HB.out)⟩
 ·replace c3 := Bool.eq_false_iff.mpr c3; subst c3; have H1 : (some (0, 0, false)) = some (r1, r2, r3) := by rw [if_neg (show ¬ (false = true) by decide)] at H; exact H
  clear H; have H := H1; clear H1; simp only [Option.some.injEq, Prod.mk.injEq] at H; obtain ⟨rfl, rfl, rfl⟩ := H; go_enter Try.func36, Try.ntmps36
  go_wp2_with (first | ((with_reducible refine gate_dst (N := 2) rfl ?_); refine box_event ?hg (N := 2) ?hd (cs := #[.int .i64 0, .int .i64 0]) (t := 47) ?hr ?_; (case hd => rfl); (case hg => rfl); (case hr => first | (go_simp; done) | (go_simp; rfl)); intro gbA hg w9 hbox hb; have n2_ := gwA (below_size zz95) hg; have n3_ := gwA (below_size zz95) hg; have GWA := n2_; have GEA := n3_; clear n2_ n3_; have BKA := Aside0.mk (hbox); replace HB := Aside0.mk (below_step zz95 hb); clear hb hbox hg) | ((with_reducible refine gate_callee (f := 70) rfl ?_); refine goesL_ (some 5) rfl rfl Try.func70 (by kernel_rfl) rfl #[.slice A0 l0.length c0] rfl zz94 ?_; (with_reducible refine (impl_isMap.calls k _ _ l0 false _ ?side1 ?side2 A2.out).mono ?_); (case side1 => repeat (first | exact (Kd.C_below HR0.out HB.out) | (with_reducible refine Kd.C_alloc ?_ _) | (with_reducible refine Kd.C_drewN ?_ _) | (with_reducible refine Kd.C_drew ?_))); (case side2 => exact HC0.out); rintro e w10 ⟨rfl, hb⟩; refine ⟨_, rfl, ?_⟩; replace BKA := blkA BKA hb; replace HB := Aside0.mk (below_step zz89 hb); (try clear hb); have hcz11_0 : w10.cell? ⟨gbA, 0, none⟩ = some (.int .i64 0) := (blk_cell BKA.out 0).trans rfl; have hcz11_1 : w10.cell? ⟨gbA, 1, none⟩ = some (.int .i64 0) := (blk_cell BKA.out 1).trans rfl; have hfz11_0 := blk_frozen BKA.out 0; have hfz11_1 := blk_frozen BKA.out 1))
  refine bodyPost_ret (results_ct rfl _ _ gbA 47 #[.int .i64 0, .int .i64 0] (0, 0) _ rfl (by (with_reducible repeat (first | refine blk_drewN ?_ _ | refine blk_drew ?_ | refine blk_alloc ?_ _)); refine blk_put (cs := #[.int .i64 0, .int .i64 0]) ?_ 1 _ rfl; (with_reducible repeat (first | refine blk_drewN ?_ _ | refine blk_drew ?_ | refine blk_alloc ?_ _)); refine blk_put (cs := #[.int .i64 0, .int .i64 0]) ?_ 0 _ rfl; (with_reducible repeat (first | refine blk_drewN ?_ _ | refine blk_drew ?_ | refine blk_alloc ?_ _)); exact BKA.out) Try.underlying47 rfl (by kernel_rfl)) rfl ?_; exact ⟨by first | rfl | (simp [errW_none, errW_some] <;> rfl) | (simp [*, errW_none, errW_some] <;> rfl), by repeat (first | (with_reducible first | exact HB.out | apply below_alloc | apply pw_below_drewN | apply below_drew1 | refine below_set ?_ GEA.out) | exact HB.out)⟩
end Go.Proofs.Ytgejkhbehoabdaa.Q
namespace Go.Proofs.Ytgejkhbehoabdaa.Q
open Go.RowKit Go.Proofs.YtgejkhbehoabdaaW.PrintWords Go.Proofs.YtgejkhbehoabdaaW.PrintLast Go.Proofs.YtgejkhbehoabdaaW.PrintMore
attribute [local go_sem] max2_int min2_int max_two min_two max_three min_three max_four min_four   -- for this text's walks alone
set_option linter.unusedVariables false
set_option linter.unusedSimpArgs false
def laws_FnExactExpansionOf.j0 : Nat → List (S87) → List (S79) → Bool → Option (Bool)
 | 0, _, _, _ => none
 | k + 1, x0, x6, x35 => if x35 = true then (some false) else ((laws_toPointS.f k x0).bind fun tA => ((laws_eqPointS.f k x6 tA).bind fun tB => (if tB = true then (some true) else (some false))))
def laws_FnExactExpansionOf.f (k : Nat) (l0 : List (S87)) : Option (Bool) := (laws_szPointS.f l0 1048576).bind fun tA => (if tA < 0 then (some true) else ((laws_toPointS.f k l0).bind fun tB => ((spec_ExpansionOf.f k tB).bind fun btC => ((laws_toPointS.f k l0).bind fun tD => ((impl_ExpansionOf.f k tD).bind fun btE => ((laws_eqRat.f btE.1 btE.2.1 btC.1 btC.2.1).bind fun tF => (if tF = true then (laws_FnExactExpansionOf.j0 k l0 tD (btE.2.2 != btC.2.2)) else (laws_FnExactExpansionOf.j0 k l0 tD true))))))))
theorem zz121 {p : Prop} (h : p := by (with_reducible repeat (first | apply Kd.R_alloc | apply Kd.R_drewN | apply Kd.R_drew)); exact HO_6.out) : p := h
theorem zz117 {p : Prop} (h : p := by (with_reducible repeat (first | apply Kd.R_alloc | apply Kd.R_drewN | apply Kd.R_drew)); exact HOA.out) : p := h
theorem zz116 {p : Prop} (h : p := by (with_reducible repeat (first | apply Kd.R_alloc | apply Kd.R_drewN | apply Kd.R_drew)); exact HOB.out) : p := h
theorem zz115 {p : Prop} (h : p := by (with_reducible repeat (first | apply Kd.R_alloc | apply Kd.R_drewN | apply Kd.R_drew)); exact HOC.out) : p := h
theorem zz90 {p : Prop} (h : p := by repeat (first | (with_reducible first | exact HB.out | apply below_alloc | apply pw_below_drewN | apply below_drew1 | refine below_set ?_ GED.out) | exact HB.out)) : p := h
theorem zz50 {p : Prop} (h : p := by repeat (first | (with_reducible first | exact HB.out | apply below_alloc | apply pw_below_drewN | apply below_drew1 | refine below_set ?_ GED.out | refine below_set ?_ GEE.out) | exact HB.out)) : p := h
theorem zz17 {p : Prop} (h : p := by (with_reducible repeat (first | apply Kd.R_alloc | apply Kd.R_drewN | apply Kd.R_drew)); exact (Kd.R_mono (Kd.R_far (p := ⟨gbE, 1, none⟩) (Kd.R_far (p := ⟨gbE, 0, none⟩) (Kd.R_types HOB.out BKE.out (by decide)) (fun _ hk => hk.2) (.int .i64 tF)) (fun _ hk => hk.2) (.int .i64 tG)) (fun _ h_ => h_.1))) : p := h
theorem zz16 {p : Prop} (h : p := by (with_reducible repeat (first | apply Kd.R_alloc | apply Kd.R_drewN | apply Kd.R_drew)); exact (Kd.R_mono (Kd.R_far (p := ⟨gbE, 1, none⟩) (Kd.R_far (p := ⟨gbE, 0, none⟩) (Kd.R_types HOC.out BKE.out (by decide)) (fun _ hk => hk.2) (.int .i64 tF)) (fun _ hk => hk.2) (.int .i64 tG)) (fun _ h_ => h_.1))) : p := h
theorem zz15 {p : Prop} (h : p := by (with_reducible repeat (first | apply Kd.R_alloc | apply Kd.R_drewN | apply Kd.R_drew)); exact (Kd.R_mono (Kd.R_far (p := ⟨gbD, 1, none⟩) (Kd.R_far (p := ⟨gbD, 0, none⟩) (Kd.R_types HOC.out BKD.out (by decide)) (fun _ hk => hk.2) (.int .i64 tH)) (fun _ hk => hk.2) (.int .i64 tI)) (fun _ h_ => h_.1))) : p := h
theorem zz13 {p : Prop} (h : p := by (with_reducible repeat (first | refine blk_drewN ?_ _ | refine blk_drew ?_ | refine blk_alloc ?_ _)); refine blk_far ?_ NBD_E.out _; (with_reducible repeat (first | refine blk_drewN ?_ _ | refine blk_drew ?_ | refine blk_alloc ?_ _)); refine blk_far ?_ NBD_E.out _; (with_reducible repeat (first | refine blk_drewN ?_ _ | refine blk_drew ?_ | refine blk_alloc ?_ _)); exact BKD.out) : p := h
theorem zz5 {p : Prop} (h : p := by (with_reducible repeat (first | refine blk_drewN ?_ _ | refine blk_drew ?_ | refine blk_alloc ?_ _)); refine blk_put (cs := #[.int .i64 tF, .int .i64 0]) ?_ 1 _ rfl; (with_reducible repeat (first | refine blk_drewN ?_ _ | refine blk_drew ?_ | refine blk_alloc ?_ _)); refine blk_put (cs := #[.int .i64 0, .int .i64 0]) ?_ 0 _ rfl; (with_reducible repeat (first | refine blk_drewN ?_ _ | refine blk_drew ?_ | refine blk_alloc ?_ _)); exact BKE.out) : p := h
set_option maxHeartbeats 8000000 in
set_option maxRecDepth 100000 in
theorem laws_FnExactExpansionOf.calls (k : Nat) (A0 : Option Addr) (c0 : Nat) (l0 : List (S87)) (r : Bool) (w : World) (hr0 : Kd.C k87 w A0 l0.length l0) (hc0 : l0.length ≤ c0) (h : laws_FnExactExpansionOf.f k l0 = some r) :
  Calls Try.prog 6 #[.slice A0 l0.length c0] w fun e w' => e = .returned (.bool r) ∧ Below w.heap.size w w' := by
 have hu47 := Try.underlying47; have HR0 := Aside0.mk hr0; have HC0 := Aside0.mk hc0; clear hr0 hc0; have HB := Aside0.mk (Below.refl w.heap.size w); have H : ((laws_szPointS.f l0 1048576).bind fun tJ => (if tJ < 0 then (some true) else ((laws_toPointS.f k l0).bind fun tK => ((spec_ExpansionOf.f k tK).bind fun btH => ((laws_toPointS.f k l0).bind fun tL => ((impl_ExpansionOf.f k tL).bind fun btF => ((laws_eqRat.f btF.1 btF.2.1 btH.1 btH.2.1).bind fun tM => (if tM = true then (laws_FnExactExpansionOf.j0 k l0 tL (btF.2.2 != btH.2.2)) else (laws_FnExactExpansionOf.j0 k l0 tL true))))))))) = some r := h; clear h; replace H := Option.bind_eq_some_iff.mp H; obtain ⟨tJ, A20, H⟩ := H; replace H : (if tJ < 0 then (some true) else ((laws_toPointS.f k l0).bind fun tK => ((spec_ExpansionOf.f k tK).bind fun btH => ((laws_toPointS.f k l0).bind fun tL => ((impl_ExpansionOf.f k tL).bind fun btF => ((laws_eqRat.f btF.1 btF.2.1 btH.1 btH.2.1).bind fun tM => (if tM = true then (laws_FnExactExpansionOf.j0 k l0 tL (btF.2.2 != btH.2.2)) else (laws_FnExactExpansionOf.j0 k l0 tL true)))))))) = some r := H; have A2 := Aside0.mk A20; clear A20; by_cases c3 : tJ < 0
 ·rw [if_pos c3] at H; have c3b0 : decide (tJ < 0) = true := decide_eq_true c3; clear c3; obtain rfl := Option.some.inj H; go_enter Try.func6, Try.ntmps6
  go_wp2_with (first | ((with_reducible refine gate_callee (f := 30) rfl ?_); refine goesL_ (some 11) rfl rfl Try.func30 (by kernel_rfl) rfl #[.slice A0 l0.length c0, .int .i64 1048576] rfl zz94 ?_; (with_reducible refine (laws_szPointS.calls _ _ l0 1048576 tJ _ ?side1 ?side2 A2.out).mono ?_); (case side1 => repeat (first | exact HR0.out | (with_reducible refine Kd.C_alloc ?_ _) | (with_reducible refine Kd.C_drewN ?_ _) | (with_reducible refine Kd.C_drew ?_))); (case side2 => exact HC0.out); rintro e w' ⟨rfl, ⟨nd, rfl⟩⟩; refine ⟨_, rfl, ?_⟩))
  go_ret
  exact ⟨by first | rfl | (simp [errW_none, errW_some] <;> rfl) | (simp [*, errW_none, errW_some] <;> rfl), by repeat (first | (with_reducible first | exact HB.out | apply below_alloc | apply pw_below_drewN | apply below_drew1) | exact HB.out)⟩
 ·rw [if_neg c3] at H; have c3b0 : decide (tJ < 0) = false := decide_eq_false c3; clear c3; replace H := Option.bind_eq_some_iff.mp H; obtain ⟨tK, A40, H⟩ := H; replace H : ((spec_ExpansionOf.f k tK).bind fun btH => ((laws_toPointS.f k l0).bind fun tL => ((impl_ExpansionOf.f k tL).bind fun btF => ((laws_eqRat.f btF.1 btF.2.1 btH.1 btH.2.1).bind fun tM => (if tM = true then (laws_FnExactExpansionOf.j0 k l0 tL (btF.2.2 != btH.2.2)) else (laws_FnExactExpansionOf.j0 k l0 tL true)))))) = some r := H; have A4 := Aside0.mk A40; clear A40; replace H := Option.bind_eq_some_iff.mp H; obtain ⟨⟨tH, tI, tN⟩, A50, H⟩ := H; replace H : ((laws_toPointS.f k l0).bind fun tL => ((impl_ExpansionOf.f k tL).bind fun btF => ((laws_eqRat.f btF.1 btF.2.1 tH tI).bind fun tM => (if tM = true then (laws_FnExactExpansionOf.j0 k l0 tL (btF.2.2 != tN)) else (laws_FnExactExpansionOf.j0 k l0 tL true))))) = some r := H; have A5 := Aside0.mk A50; clear A50; replace H := Option.bind_eq_some_iff.mp H; obtain ⟨tL, A60, H⟩ := H; replace H : ((impl_ExpansionOf.f k tL).bind fun btF => ((laws_eqRat.f btF.1 btF.2.1 tH tI).bind fun tM => (if tM = true then (laws_FnExactExpansionOf.j0 k l0 tL (btF.2.2 != tN)) else (laws_FnExactExpansionOf.j0 k l0 tL true)))) = some r := H; have A6 := Aside0.mk A60; clear A60; replace H := Option.bind_eq_some_iff.mp H; obtain ⟨⟨tF, tG, tO⟩, A70, H⟩ := H; replace H : ((laws_eqRat.f tF tG tH tI).bind fun tM => (if tM = true then (laws_FnExactExpansionOf.j0 k l0 tL (tO != tN)) else (laws_FnExactExpansionOf.j0 k l0 tL true))) = some r := H; have A7 := Aside0.mk A70; clear A70; have HC8 := Aside0.mk H; clear H; go_enter Try.func6, Try.ntmps6
  go_upto_region 8 with (first | ((with_reducible refine gate_callee (f := 30) rfl ?_); refine goesL_ (some 11) rfl rfl Try.func30 (by kernel_rfl) rfl #[.slice A0 l0.length c0, .int .i64 1048576] rfl zz94 ?_; (with_reducible refine (laws_szPointS.calls _ _ l0 1048576 tJ _ ?side1 ?side2 A2.out).mono ?_); (case side1 => repeat (first | exact HR0.out | (with_reducible refine Kd.C_alloc ?_ _) | (with_reducible refine Kd.C_drewN ?_ _) | (with_reducible refine Kd.C_drew ?_))); (case side2 => exact HC0.out); rintro e w' ⟨rfl, ⟨nd, rfl⟩⟩; refine ⟨_, rfl, ?_⟩) | ((with_reducible refine gate_callee (f := 32) rfl ?_); refine goesL_ (some 16) rfl rfl Try.func32 (by kernel_rfl) rfl #[.slice A0 l0.length c0] rfl zz94 ?_; (with_reducible refine (laws_toPointS.calls k _ _ l0 tK _ ?side1 ?side2 A4.out).mono ?_); (case side1 => repeat (first | exact HR0.out | (with_reducible refine Kd.C_alloc ?_ _) | (with_reducible refine Kd.C_drewN ?_ _) | (with_reducible refine Kd.C_drew ?_))); (case side2 => exact HC0.out); rintro e w9 ⟨vP, rfl, ho0, hb⟩; refine ⟨_, rfl, ?_⟩; have n0_ := Aside0.mk (Kd.R_lower ho0 (below_size zz95)); have HOC := n0_; clear n0_; replace HB := Aside0.mk (below_step zz95 hb); (try clear hb); (try clear ho0); obtain ⟨Ao10, co10, eo10⟩ := Kd.R_slice HOC.out; subst eo10) | ((with_reducible refine gate_callee (f := 35) rfl ?_); refine goesL_ (some 17) rfl rfl Try.func35 (by kernel_rfl) rfl #[.slice Ao10 tK.length co10] rfl zz94 ?_; (with_reducible refine (spec_ExpansionOf.calls k _ _ tK tH tI tN _ ?side1 ?side2 A5.out).mono ?_); (case side1 => repeat (first | exact (Kd.R_reads' HOC.out).2.2 | (with_reducible refine Kd.C_alloc ?_ _) | (with_reducible refine Kd.C_drewN ?_ _) | (with_reducible refine Kd.C_drew ?_))); (case side2 => exact (Kd.R_reads' HOC.out).2.1); rintro e w11 ⟨rfl, hb⟩; refine ⟨_, rfl, ?_⟩; have n0_ := Aside0.mk (Kd.R_below zz115 hb); clear HOC; have HOC := n0_; clear n0_; replace HB := Aside0.mk (below_step zz95 hb); (try clear hb)) | ((with_reducible refine gate_dst (N := 4) rfl ?_); refine box_event ?hg (N := 4) ?hd (cs := #[.int .i64 0, .int .i64 0]) (t := 47) ?hr ?_; (case hd => rfl); (case hg => rfl); (case hr => first | (go_simp; done) | (go_simp; rfl)); intro gbD hg w12 hbox hb; have n0_ := Aside0.mk (Kd.R_below zz115 hb); have n3_ := gwA (below_size zz95) hg; have n4_ := gwA (below_size zz95) hg; clear HOC; have HOC := n0_; have GWD := n3_; have GED := n4_; clear n0_ n3_ n4_; have BKD := Aside0.mk (hbox); replace HB := Aside0.mk (below_step zz95 hb); clear hb hbox hg; have hcz13_0 : w12.cell? ⟨gbD, 0, none⟩ = some (.int .i64 0) := (blk_cell BKD.out 0).trans rfl; have hcz13_1 : w12.cell? ⟨gbD, 1, none⟩ = some (.int .i64 0) := (blk_cell BKD.out 1).trans rfl; have hfz13_0 := blk_frozen BKD.out 0; have hfz13_1 := blk_frozen BKD.out 1) | ((with_reducible refine gate_callee (f := 32) rfl ?_); refine goesL_ (some 21) rfl rfl Try.func32 (by kernel_rfl) rfl #[.slice A0 l0.length c0] rfl zz94 ?_; (with_reducible refine (laws_toPointS.calls k _ _ l0 tL _ ?side1 ?side2 A6.out).mono ?_); (case side1 => exact Kd.C_below HR0.out zz90); (case side2 => exact HC0.out); rintro e w14 ⟨vQ, rfl, ho0, hb⟩; refine ⟨_, rfl, ?_⟩; have n0_ := Aside0.mk (Kd.R_elder' zz15 (Kd.R_base ho0) hb); have n1_ := Aside0.mk (Kd.R_lower (Kd.R_new' ho0 (Kd.R_lt zz15)) (below_size zz90)); have n2_ := Aside0.mk (blk_below (g := gbD) (o := .cells #[.int .i64 tH, .int .i64 tI] 47 (0, 0)) (by (with_reducible repeat (first | refine blk_drewN ?_ _ | refine blk_drew ?_ | refine blk_alloc ?_ _)); refine blk_put (cs := #[.int .i64 tH, .int .i64 0]) ?_ 1 _ rfl; (with_reducible repeat (first | refine blk_drewN ?_ _ | refine blk_drew ?_ | refine blk_alloc ?_ _)); refine blk_put (cs := #[.int .i64 0, .int .i64 0]) ?_ 0 _ rfl; (with_reducible repeat (first | refine blk_drewN ?_ _ | refine blk_drew ?_ | refine blk_alloc ?_ _)); exact BKD.out) hb); clear HOC BKD; have HOC := n0_; have HOB := n1_; have BKD := n2_; clear n0_ n1_ n2_; replace HB := Aside0.mk (below_step zz90 hb); (try clear hb); (try clear ho0); obtain ⟨Ao15, co15, eo15⟩ := Kd.R_slice HOB.out; subst eo15) | ((with_reducible refine gate_callee (f := 36) rfl ?_); refine goesL_ (some 24) rfl rfl Try.func36 (by kernel_rfl) rfl #[.slice Ao15 tL.length co15] rfl zz94 ?_; (with_reducible refine (impl_ExpansionOf.calls k _ _ tL tF tG tO _ ?side1 ?side2 A7.out).mono ?_); (case side1 => repeat (first | exact (Kd.R_reads' HOB.out).2.2 | (with_reducible refine Kd.C_alloc ?_ _) | (with_reducible refine Kd.C_drewN ?_ _) | (with_reducible refine Kd.C_drew ?_))); (case side2 => exact (Kd.R_reads' HOB.out).2.1); rintro e w16 ⟨rfl, hb⟩; refine ⟨_, rfl, ?_⟩; have n0_ := Aside0.mk (Kd.R_below zz115 hb); have n1_ := Aside0.mk (Kd.R_below zz116 hb); clear HOC HOB; have HOC := n0_; have HOB := n1_; clear n0_ n1_; replace BKD := blkA BKD hb; replace HB := Aside0.mk (below_step zz90 hb); (try clear hb)) | ((with_reducible refine gate_dst (N := 7) rfl ?_); refine box_event ?hg (N := 7) ?hd (cs := #[.int .i64 0, .int .i64 0]) (t := 47) ?hr ?_; (case hd => rfl); (case hg => rfl); (case hr => first | (go_simp; done) | (go_simp; rfl)); intro gbE hg w17 hbox hb; have n0_ := Aside0.mk (Kd.R_below zz115 hb); have n1_ := Aside0.mk (Kd.R_below zz116 hb); have n5_ := gwA (below_size zz90) hg; have n6_ := gwA (below_size zz90) hg; have n7_ := nltA BKD hg; have n8_ := ngtA BKD hg; clear HOC HOB; have HOC := n0_; have HOB := n1_; have GWE := n5_; have GEE := n6_; have NBD_E := n7_; have NBE_D := n8_; clear n0_ n1_ n5_ n6_ n7_ n8_; replace BKD := blkA BKD hb; have BKE := Aside0.mk (hbox); replace HB := Aside0.mk (below_step zz90 hb); clear hb hbox hg; have hnb18 := NBE_D.out; have hnc18 := NBD_E.out; have hcz19_0 : w17.cell? ⟨gbE, 0, none⟩ = some (.int .i64 0) := (blk_cell BKE.out 0).trans rfl; have hcz19_1 : w17.cell? ⟨gbE, 1, none⟩ = some (.int .i64 0) := (blk_cell BKE.out 1).trans rfl; have hfz19_0 := blk_frozen BKE.out 0; have hfz19_1 := blk_frozen BKE.out 1))
  (try simp only [Act.put, List.setIfInBounds_toArray, List.set_cons_zero, List.set_cons_succ]); go_cut [35] (fun v35 wc => ∃ (kq : Nat) (x35_7 : Bool), v35 = .bool x35_7 ∧ Aside0 (laws_FnExactExpansionOf.j0 kq l0 tL x35_7 = some r) ∧ Aside0 (kq ≤ k) ∧ Aside0 (Kd.R k79 79 wc w.heap.size (fun _ => True) (.slice Ao15 tL.length co15) tL) ∧ Aside0 (wc.heap[gbD]? = some (.cells #[.int .i64 tH, .int .i64 tI] 47 (0, 0))) ∧ Aside0 (wc.heap[gbE]? = some (.cells #[.int .i64 tF, .int .i64 tG] 47 (0, 0))) ∧ Aside0 (Below w.heap.size w wc))
  case first =>
   have H := HC8.out; clear HC8; replace H := Option.bind_eq_some_iff.mp H; obtain ⟨tM, AR, H⟩ := H; replace H : (if tM = true then (laws_FnExactExpansionOf.j0 k l0 tL (tO != tN)) else (laws_FnExactExpansionOf.j0 k l0 tL true)) = some r := H; have A20 := Aside0.mk AR; clear AR; by_cases c21 : tM = true
   ·subst c21; have H1 : (laws_FnExactExpansionOf.j0 k l0 tL (tO != tN)) = some r := by rw [if_pos rfl] at H; exact H
    clear H; have H := H1; clear H1; have H' := Aside0.mk H; clear H; have hnb22 := NBE_D.out; have hnc22 := NBD_E.out; have hcz23_0 : w17.cell? ⟨gbE, 0, none⟩ = some (.int .i64 0) := (blk_cell BKE.out 0).trans rfl; have hcz23_1 : w17.cell? ⟨gbE, 1, none⟩ = some (.int .i64 0) := (blk_cell BKE.out 1).trans rfl; have hfz23_0 := blk_frozen BKE.out 0; have hfz23_1 := blk_frozen BKE.out 1; have hcz24_0 : w17.cell? ⟨gbD, 0, none⟩ = some (.int .i64 tH) := (blk_cell BKD.out 0).trans rfl; have hcz24_1 : w17.cell? ⟨gbD, 1, none⟩ = some (.int .i64 tI) := (blk_cell BKD.out 1).trans rfl; have hfz24_0 := blk_frozen BKD.out 0; have hfz24_1 := blk_frozen BKD.out 1; go_wp2_with (first | ((with_reducible refine gate_callee (f := 37) rfl ?_); refine goesL_ (some 29) rfl rfl Try.func37 (by kernel_rfl) rfl #[.agg #[.int .i64 tF, .int .i64 tG], .agg #[.int .i64 tH, .int .i64 tI]] rfl zz94 ?_; (with_reducible refine (laws_eqRat.calls tF tG tH tI true _ A20.out).mono ?_); rintro e w25 ⟨rfl, hb⟩; refine ⟨_, rfl, ?_⟩; have n0_ := Aside0.mk (Kd.R_below zz16 hb); have n1_ := Aside0.mk (Kd.R_below zz17 hb); have n2_ := Aside0.mk (blk_below (g := gbD) (o := .cells #[.int .i64 tH, .int .i64 tI] 47 (0, 0)) zz13 hb); have n3_ := Aside0.mk (blk_below (g := gbE) (o := .cells #[.int .i64 tF, .int .i64 tG] 47 (0, 0)) zz5 hb); clear HOC HOB BKD BKE; have HOC := n0_; have HOB := n1_; have BKD := n2_; have BKE := n3_; clear n0_ n1_ n2_ n3_; replace HB := Aside0.mk (below_step zz50 hb); (try clear hb)))
    go_meet
    case rel => exact ⟨_, ((tO != tN)), zz124, H', ⟨by first | omega | exact Nat.le_refl _⟩, ⟨by (with_reducible repeat (first | apply Kd.R_alloc | apply Kd.R_drewN | apply Kd.R_drew)); exact Kd.R_mono HOB.out (fun _ hk => trivial)⟩, ⟨by (with_reducible repeat (first | refine blk_drewN ?_ _ | refine blk_drew ?_ | refine blk_alloc ?_ _)); exact BKD.out⟩, ⟨by (with_reducible repeat (first | refine blk_drewN ?_ _ | refine blk_drew ?_ | refine blk_alloc ?_ _)); exact BKE.out⟩, ⟨by repeat (first | (with_reducible first | exact HB.out | apply below_alloc | apply pw_below_drewN | apply below_drew1 | refine below_set ?_ GED.out | refine below_set ?_ GEE.out) | exact HB.out)⟩⟩
   ·replace c21 := Bool.eq_false_iff.mpr c21; subst c21; have H1 : (laws_FnExactExpansionOf.j0 k l0 tL true) = some r := by rw [if_neg (show ¬ (false = true) by decide)] at H; exact H
    clear H; have H := H1; clear H1; have H' := Aside0.mk H; clear H; have hnb26 := NBE_D.out; have hnc26 := NBD_E.out; have hcz27_0 : w17.cell? ⟨gbE, 0, none⟩ = some (.int .i64 0) := (blk_cell BKE.out 0).trans rfl; have hcz27_1 : w17.cell? ⟨gbE, 1, none⟩ = some (.int .i64 0) := (blk_cell BKE.out 1).trans rfl; have hfz27_0 := blk_frozen BKE.out 0; have hfz27_1 := blk_frozen BKE.out 1; have hcz28_0 : w17.cell? ⟨gbD, 0, none⟩ = some (.int .i64 tH) := (blk_cell BKD.out 0).trans rfl; have hcz28_1 : w17.cell? ⟨gbD, 1, none⟩ = some (.int .i64 tI) := (blk_cell BKD.out 1).trans rfl; have hfz28_0 := blk_frozen BKD.out 0; have hfz28_1 := blk_frozen BKD.out 1; go_wp2_with (first | ((with_reducible refine gate_callee (f := 37) rfl ?_); refine goesL_ (some 29) rfl rfl Try.func37 (by kernel_rfl) rfl #[.agg #[.int .i64 tF, .int .i64 tG], .agg #[.int .i64 tH, .int .i64 tI]] rfl zz94 ?_; (with_reducible refine (laws_eqRat.calls tF tG tH tI false _ A20.out).mono ?_); rintro e w29 ⟨rfl, hb⟩; refine ⟨_, rfl, ?_⟩; have n0_ := Aside0.mk (Kd.R_below zz16 hb); have n1_ := Aside0.mk (Kd.R_below zz17 hb); have n2_ := Aside0.mk (blk_below (g := gbD) (o := .cells #[.int .i64 tH, .int .i64 tI] 47 (0, 0)) zz13 hb); have n3_ := Aside0.mk (blk_below (g := gbE) (o := .cells #[.int .i64 tF, .int .i64 tG] 47 (0, 0)) zz5 hb); clear HOC HOB BKD BKE; have HOC := n0_; have HOB := n1_; have BKD := n2_; have BKE := n3_; clear n0_ n1_ n2_ n3_; replace HB := Aside0.mk (below_step zz50 hb); (try clear hb)))
    go_meet
    case rel => exact ⟨_, (true), zz124, H', ⟨by first | omega | exact Nat.le_refl _⟩, ⟨by (with_reducible repeat (first | apply Kd.R_alloc | apply Kd.R_drewN | apply Kd.R_drew)); exact Kd.R_mono HOB.out (fun _ hk => trivial)⟩, ⟨by (with_reducible repeat (first | refine blk_drewN ?_ _ | refine blk_drew ?_ | refine blk_alloc ?_ _)); exact BKD.out⟩, ⟨by (with_reducible repeat (first | refine blk_drewN ?_ _ | refine blk_drew ?_ | refine blk_alloc ?_ _)); exact BKE.out⟩, ⟨by repeat (first | (with_reducible first | exact HB.out | apply below_alloc | apply pw_below_drewN | apply below_drew1 | refine below_set ?_ GED.out | refine below_set ?_ GEE.out) | exact HB.out)⟩⟩
  case rest =>
   clear HC8; try clear c1
   try clear c2
   try clear p2
   try clear c3
   try clear c3b0
   try clear c6
   try clear c18
   try clear c21
   try clear c22
   try clear c26
   try clear hcz13_0
   try clear hcz13_1
   try clear hcz19_0
   try clear hcz19_1
   try clear hcz23_0
   try clear hcz23_1
   try clear hcz24_0
   try clear hcz24_1
   try clear hcz27_0
   try clear hcz27_1
   try clear hcz28_0
   try clear hcz28_1
   try clear hfz13_0
   try clear hfz13_1
   try clear hfz19_0
   try clear hfz19_1
   try clear hfz23_0
   try clear hfz23_1
   try clear hfz24_0
   try clear hfz24_1
   try clear hfz27_0
   try clear hfz27_1
   try clear hfz28_0
   try clear hfz28_1
   obtain ⟨kq, x35_7, rfl, HA, HJ7, HO_6, BKD, BKE, HB⟩ := hcut; cases kq with
   | zero => exact absurd HA.out (by simp [laws_FnExactExpansionOf.j0])
   | succ kj7 =>
    have H := HA.out; clear HA; simp only [laws_FnExactExpansionOf.j0] at H; by_cases c30 : x35_7 = true
    ·subst c30; have H1 : (some false) = some r := by rw [if_pos rfl] at H; exact H
     clear H; have H := H1; clear H1; obtain rfl := Option.some.inj H; go_wp2
     go_ret
     exact ⟨by first | rfl | (simp [errW_none, errW_some] <;> rfl) | (simp [*, errW_none, errW_some] <;> rfl), by repeat (first | (with_reducible first | exact HB.out | apply below_alloc | apply pw_below_drewN | apply below_drew1 | refine below_set ?_ GED.out | refine below_set ?_ GEE.out) | exact HB.out)⟩
    ·replace c30 := Bool.eq_false_iff.mpr c30; subst c30; have H1 : ((laws_toPointS.f kj7 l0).bind fun tS => ((laws_eqPointS.f kj7 tL tS).bind fun tT => (if tT = true then (some true) else (some false)))) = some r := by rw [if_neg (show ¬ (false = true) by decide)] at H; exact H
     clear H; have H := H1; clear H1; replace H := Option.bind_eq_some_iff.mp H; obtain ⟨tS, AU, H⟩ := H; replace H : ((laws_eqPointS.f kj7 tL tS).bind fun tT => (if tT = true then (some true) else (some false))) = some r := H; have A31 := Aside0.mk AU; clear AU; replace H := Option.bind_eq_some_iff.mp H; obtain ⟨tT, AV, H⟩ := H; replace H : (if tT = true then (some true) else (some false)) = some r := H; have A32 := Aside0.mk AV; clear AV; by_cases c33 : tT = true
     ·subst c33; have H1 : (some true) = some r := by rw [if_pos rfl] at H; exact H
      clear H; have H := H1; clear H1; obtain rfl := Option.some.inj H; go_wp2_with (first | ((with_reducible refine gate_callee (f := 32) rfl ?_); refine goesL_ (some 38) rfl rfl Try.func32 (by kernel_rfl) rfl #[.slice A0 l0.length c0] rfl zz94 ?_; (with_reducible refine (laws_toPointS.calls kj7 _ _ l0 tS _ ?side1 ?side2 A31.out).mono ?_); (case side1 => repeat (first | exact (Kd.C_below HR0.out HB.out) | (with_reducible refine Kd.C_alloc ?_ _) | (with_reducible refine Kd.C_drewN ?_ _) | (with_reducible refine Kd.C_drew ?_))); (case side2 => exact HC0.out); rintro e w34 ⟨vW, rfl, ho0, hb⟩; refine ⟨_, rfl, ?_⟩; have n0_ := Aside0.mk (Kd.R_elder' zz121 (Kd.R_base ho0) hb); have n1_ := Aside0.mk (Kd.R_lower (Kd.R_new' ho0 (Kd.R_lt zz121)) (below_size zz50)); clear HO_6; have HO_6 := n0_; have HOA := n1_; clear n0_ n1_; replace BKD := blkA BKD hb; replace BKE := blkA BKE hb; replace HB := Aside0.mk (below_step zz50 hb); (try clear hb); (try clear ho0); obtain ⟨Ao35, co35, eo35⟩ := Kd.R_slice HOA.out; subst eo35) | ((with_reducible refine gate_callee (f := 25) rfl ?_); refine goesL_ (some 39) rfl rfl Try.func25 (by kernel_rfl) rfl #[.slice Ao15 tL.length co15, .slice Ao35 tS.length co35] rfl zz94 ?_; (with_reducible refine (laws_eqPointS.calls kj7 _ _ tL _ _ tS true _ ?side1 ?side2 ?side3 ?side4 A32.out).mono ?_); (case side1 => repeat (first | exact (Kd.R_reads' HO_6.out).2.2 | (with_reducible refine Kd.C_alloc ?_ _) | (with_reducible refine Kd.C_drewN ?_ _) | (with_reducible refine Kd.C_drew ?_))); (case side2 => exact (Kd.R_reads' HO_6.out).2.1); (case side3 => repeat (first | exact (Kd.R_reads' HOA.out).2.2 | (with_reducible refine Kd.C_alloc ?_ _) | (with_reducible refine Kd.C_drewN ?_ _) | (with_reducible refine Kd.C_drew ?_))); (case side4 => exact (Kd.R_reads' HOA.out).2.1); rintro e w36 ⟨rfl, hb⟩; refine ⟨_, rfl, ?_⟩; have n0_ := Aside0.mk (Kd.R_below zz121 hb); have n1_ := Aside0.mk (Kd.R_below zz117 hb); clear HO_6 HOA; have HO_6 := n0_; have HOA := n1_; clear n0_ n1_; replace BKD := blkA BKD hb; replace BKE := blkA BKE hb; replace HB := Aside0.mk (below_step zz50 hb); (try clear hb)))
      go_ret
      exact ⟨by first | rfl | (simp [errW_none, errW_some] <;> rfl) | (simp [*, errW_none, errW_some] <;> rfl), by repeat (first | (with_reducible first | exact HB.out | apply below_alloc | apply pw_below_drewN | apply below_drew1 | refine below_set ?_ GED.out | refine below_set ?_ GEE.out) | exact HB.out)⟩
     ·replace c33 := Bool.eq_false_iff.mpr c33; subst c33; have H1 : (some false) = some r := by rw [if_neg (show ¬ (false = true) by decide)] at H; exact H
      clear H; have H := H1; clear H1; obtain rfl := Option.some.inj H; go_wp2_with (first | ((with_reducible refine gate_callee (f := 32) rfl ?_); refine goesL_ (some 38) rfl rfl Try.func32 (by kernel_rfl) rfl #[.slice A0 l0.length c0] rfl zz94 ?_; (with_reducible refine (laws_toPointS.calls kj7 _ _ l0 tS _ ?side1 ?side2 A31.out).mono ?_); (case side1 => repeat (first | exact (Kd.C_below HR0.out HB.out) | (with_reducible refine Kd.C_alloc ?_ _) | (with_reducible refine Kd.C_drewN ?_ _) | (with_reducible refine Kd.C_drew ?_))); (case side2 => exact HC0.out); rintro e w37 ⟨vW, rfl, ho0, hb⟩; refine ⟨_, rfl, ?_⟩; have n0_ := Aside0.mk (Kd.R_elder' zz121 (Kd.R_base ho0) hb); have n1_ := Aside0.mk (Kd.R_lower (Kd.R_new' ho0 (Kd.R_lt zz121)) (below_size zz50)); clear HO_6; have HO_6 := n0_; have HOA := n1_; clear n0_ n1_; replace BKD := blkA BKD hb; replace BKE := blkA BKE hb; replace HB := Aside0.mk (below_step zz50 hb); (try clear hb); (try clear ho0); obtain ⟨Ao38, co38, eo38⟩ := Kd.R_slice HOA.out; subst eo38) | ((with_reducible refine gate_callee (f := 25) rfl ?_); refine goesL_ (some 39) rfl rfl Try.func25 (by kernel_rfl) rfl #[.slice Ao15 tL.length co15, .slice Ao38 tS.length co38] rfl zz94 ?_; (with_reducible refine (laws_eqPointS.calls kj7 _ _ tL _ _ tS false _ ?side1 ?side2 ?side3 ?side4 A32.out).mono ?_); (case side1 => repeat (first | exact (Kd.R_reads' HO_6.out).2.2 | (with_reducible refine Kd.C_alloc ?_ _) | (with_reducible refine Kd.C_drewN ?_ _) | (with_reducible refine Kd.C_drew ?_))); (case side2 => exact (Kd.R_reads' HO_6.out).2.1); (case side3 => repeat (first | exact (Kd.R_reads' HOA.out).2.2 | (with_reducible refine Kd.C_alloc ?_ _) | (with_reducible refine Kd.C_drewN ?_ _) | (with_reducible refine Kd.C_drew ?_))); (case side4 => exact (Kd.R_reads' HOA.out).2.1); rintro e w39 ⟨rfl, hb⟩; refine ⟨_, rfl, ?_⟩; have n0_ := Aside0.mk (Kd.R_below zz121 hb); have n1_ := Aside0.mk (Kd.R_below zz117 hb); clear HO_6 HOA; have HO_6 := n0_; have HOA := n1_; clear n0_ n1_; replace BKD := blkA BKD hb; replace BKE := blkA BKE hb; replace HB := Aside0.mk (below_step zz50 hb); (try clear hb)))
      go_ret
      exact ⟨by first | rfl | (simp [errW_none, errW_some] <;> rfl) | (simp [*, errW_none, errW_some] <;> rfl), by repeat (first | (with_reducible first | exact HB.out | apply below_alloc | apply pw_below_drewN | apply below_drew1 | refine below_set ?_ GED.out | refine below_set ?_ GEE.out) | exact HB.out)⟩
def laws_FnExactExpansionOf.Pure : Prop := ∀ (l0 : List (S87)), l0.length ≤ maxLen → (∀ x ∈ l0, (((Lit.int .i64 x.f0.f0).wf = true ∧ (Lit.int .i64 x.f0.f1).wf = true) ∧ ((Lit.int .i64 x.f1.f0).wf = true ∧ (Lit.int .i64 x.f1.f1).wf = true))) → ∃ k, laws_FnExactExpansionOf.f k l0 = some true
end Go.Proofs.Ytgejkhbehoabdaa.Q
set_option linter.unusedVariables false
set_option linter.unusedSimpArgs false
namespace Go.Proofs.Ytgejkhbehoabdaa.Pu
open Go.RowKit Go.Proofs.Ytgejkhbehoabdaa.Q Go.Proofs.YtgejkhbehoabdaaW.PrintWords Go.Proofs.YtgejkhbehoabdaaW.PrintLast Go.Proofs.YtgejkhbehoabdaaW.PrintMore
theorem wr (x : Int) (h : -9223372036854775808 ≤ x ∧ x ≤ 9223372036854775807) : wrap64 x = x := by unfold wrap64; omega
theorem drop_getD {α : Type} (l : List α) (i : Nat) (d : α) (h : i < l.length) : l.drop i = l.getD i d :: l.drop (i + 1) := by
  rw [List.drop_eq_getElem_cons h, List.getD_eq_getElem?_getD, List.getElem?_eq_getElem h]
  rfl
theorem getD_setG {α : Type} (l : List α) (i j : Nat) (v d : α) (hi : i < l.length) : (l.set i v).getD j d = if i = j then v else l.getD j d := by
  simp only [List.getD_eq_getElem?_getD, List.getElem?_set]
  by_cases e : i = j
  · subst e; simp [hi]
  · simp [e]
theorem ext_getDG {α : Type} (d : α) (a b : List α) (hl : a.length = b.length) (h : ∀ j, j < a.length → a.getD j d = b.getD j d) : a = b := by
  apply List.ext_getElem hl
  intro j h1 h2
  have := h j h1
  simpa [List.getD_eq_getElem?_getD, h1, h2] using this
theorem half_lt (b r n : Nat) (hb : b < 2 ^ (n + 1)) (hr : r < b) (h0 : 0 < r) : b % r < 2 ^ n := by
  have h1 : b % r < r := Nat.mod_lt _ h0
  have h2 := Nat.div_add_mod b r
  have h3 : 1 ≤ b / r := (Nat.one_le_div_iff h0).2 (Nat.le_of_lt hr)
  have h4 : r * 1 ≤ r * (b / r) := Nat.mul_le_mul_left r h3
  have h5 : 2 ^ (n + 1) = 2 * 2 ^ n := by rw [Nat.pow_succ]; omega
  omega
theorem gcd_l : ∀ (n k a b : Nat), b < 2 ^ n → 2 * n + 1 < k → impl_greatestDivisor.l0 k (a : Int) (b : Int) = some ((Nat.gcd a b : Nat) : Int) := by
  intro n
  induction n with
  | zero =>
    intro k a b hb hk
    obtain ⟨k, rfl⟩ : ∃ m, k = m + 1 := ⟨k - 1, by omega⟩
    have : b = 0 := by simpa using hb
    subst this
    simp [impl_greatestDivisor.l0]
  | succ n ih =>
    intro k a b hb hk
    obtain ⟨k, rfl⟩ : ∃ m, k = m + 2 := ⟨k - 2, by omega⟩
    simp only [impl_greatestDivisor.l0]
    by_cases h0 : b = 0
    · subst h0; simp
    · rw [if_neg (by omega), ← Int.ofNat_tmod]
      by_cases h1 : a % b = 0
      · rw [h1, if_pos (by rfl), Nat.gcd_comm, Nat.gcd_rec, h1, Nat.gcd_zero_left]
      · rw [if_neg (by omega), ← Int.ofNat_tmod, ih k _ _ (half_lt b (a % b) n hb (Nat.mod_lt _ (by omega)) (by omega)) (by omega)]
        congr 2
        rw [Nat.gcd_comm a b, Nat.gcd_rec b a, Nat.gcd_rec (a % b) b, Nat.gcd_comm]
theorem raCommon_l : ∀ (n k a b : Nat), b < 2 ^ n → 2 * n + 1 < k → spec_raCommon.l0 k (a : Int) (b : Int) = some ((Nat.gcd a b : Nat) : Int) := by
  intro n
  induction n with
  | zero =>
    intro k a b hb hk
    obtain ⟨k, rfl⟩ : ∃ m, k = m + 1 := ⟨k - 1, by omega⟩
    have : b = 0 := by simpa using hb
    subst this
    simp [spec_raCommon.l0]
  | succ n ih =>
    intro k a b hb hk
    obtain ⟨k, rfl⟩ : ∃ m, k = m + 2 := ⟨k - 2, by omega⟩
    simp only [spec_raCommon.l0]
    by_cases h0 : b = 0
    · subst h0; simp
    · rw [if_pos (by omega), if_neg (by omega), ← Int.ofNat_tmod]
      by_cases h1 : a % b = 0
      · rw [h1, if_neg (by simp), Nat.gcd_comm, Nat.gcd_rec, h1, Nat.gcd_zero_left]
      · rw [if_pos (by omega), if_neg (by omega), ← Int.ofNat_tmod, ih k _ _ (half_lt b (a % b) n hb (Nat.mod_lt _ (by omega)) (by omega)) (by omega)]
        congr 2
        rw [Nat.gcd_comm a b, Nat.gcd_rec b a, Nat.gcd_rec (a % b) b, Nat.gcd_comm]
theorem abs_eq (a : Int) (h : -9223372036854775807 ≤ a ∧ a ≤ 9223372036854775807) : impl_abs.f a = some (a.natAbs : Int) := by
  unfold impl_abs.f
  split
  · rw [wr _ (by omega)]; congr 1; omega
  · congr 1; omega
theorem l1Abs_eq (a : Int) (h : -9223372036854775807 ≤ a ∧ a ≤ 9223372036854775807) : spec_l1Abs.f a = some (a.natAbs : Int) := by
  unfold spec_l1Abs.f spec_l1Most.f
  rw [wr _ (by omega)]
  split
  · simp only [Option.bind_some]; congr 1; omega
  · simp only [Option.bind_some]; congr 1; omega
theorem gcd_eq (a b : Int) (ha : -9223372036854775807 ≤ a ∧ a ≤ 9223372036854775807) (hb : -9223372036854775807 ≤ b ∧ b ≤ 9223372036854775807) (k : Nat) (hk : 200 ≤ k) : impl_greatestDivisor.f k a b = some ((Int.gcd a b : Nat) : Int) := by
  unfold impl_greatestDivisor.f
  rw [abs_eq a ha, abs_eq b hb]
  simp only [Option.bind_some]
  rw [gcd_l 64 k _ _ (by omega) (by omega)]
  rfl
def OkR (n d : Int) : Prop := 1 ≤ d ∧ d ≤ 1000000000 ∧ -1000000000 ≤ n ∧ n ≤ 1000000000 ∧ Int.gcd n d = 1
instance (n d : Int) : Decidable (OkR n d) := by unfold OkR; infer_instance
theorem isRat_eq (n d : Int) (k : Nat) (hk : 200 ≤ k) : impl_isRat.f k n d = some (decide (OkR n d)) := by
  unfold impl_isRat.f impl_within.f OkR
  by_cases h1 : 1 ≤ d
  · rw [if_pos h1]
    simp only [Option.bind_some]
    by_cases h2 : d ≤ 1000000000
    · rw [if_pos (by simpa using h2)]
      by_cases h3 : -1000000000 ≤ n
      · rw [if_pos h3]
        simp only [Option.bind_some]
        by_cases h4 : n ≤ 1000000000
        · rw [if_pos (by simpa using h4), gcd_eq n d (by omega) (by omega) k hk]
          simp only [Option.bind_some]
          congr 1
          simp only [h1, h2, h3, h4, true_and]
          rw [Bool.eq_iff_iff]
          simp only [beq_iff_eq, decide_eq_true_eq]
          omega
        · rw [if_neg (by simpa using h4)]; simp [h4]
      · rw [if_neg h3]; simp [h3]
    · rw [if_neg (by simpa using h2)]; simp [h2]
  · rw [if_neg h1]; simp [h1]
theorem raGood_eq (n d : Int) (k : Nat) (hk : 200 ≤ k) : spec_raGood.f k n d = some (decide (OkR n d)) := by
  unfold spec_raGood.f spec_l1In.f OkR
  by_cases h1 : 1 ≤ d
  · rw [if_pos h1]
    simp only [Option.bind_some]
    by_cases h2 : d ≤ 1000000000
    · rw [if_pos (by simpa using h2)]
      by_cases h3 : -1000000000 ≤ n
      · rw [if_pos h3]
        simp only [Option.bind_some]
        by_cases h4 : n ≤ 1000000000
        · rw [if_pos (by simpa using h4), l1Abs_eq n (by omega)]
          simp only [Option.bind_some]
          unfold spec_raCommon.f
          have := raCommon_l 64 k n.natAbs d.natAbs (by omega) (by omega)
          rw [show (d.natAbs : Int) = d by omega] at this
          rw [this]
          simp only [Option.bind_some]
          congr 1
          simp only [h1, h2, h3, h4, true_and]
          rw [Bool.eq_iff_iff, Int.gcd_eq_natAbs_gcd_natAbs]
          simp only [beq_iff_eq, decide_eq_true_eq]
          omega
        · rw [if_neg (by simpa using h4)]; simp [h4]
      · rw [if_neg h3]; simp [h3]
    · rw [if_neg (by simpa using h2)]; simp [h2]
  · rw [if_neg h1]; simp [h1]
def sg (n d : Int) : Int := if d < 0 then -(Int.gcd n d : Int) else (Int.gcd n d : Int)
def mk (n d : Int) : Int × Int × Bool := if OkR (n.tdiv (sg n d)) (d.tdiv (sg n d)) then (n.tdiv (sg n d), d.tdiv (sg n d), true) else (0, 0, false)
theorem tdiv_bd (n q : Int) (h : -9223372036854775807 ≤ n ∧ n ≤ 9223372036854775807) : -9223372036854775808 ≤ n.tdiv q ∧ n.tdiv q ≤ 9223372036854775807 := by
  have h1 := Int.natAbs_tdiv n q
  have h2 : n.natAbs.div q.natAbs ≤ n.natAbs := Nat.div_le_self _ _
  omega
theorem gcd_pos (n d : Int) (hd : d ≠ 0) : 0 < Int.gcd n d := by
  rw [Int.gcd_eq_natAbs_gcd_natAbs]
  exact Nat.gcd_pos_of_pos_right _ (by omega)
theorem gcd_le (n d : Int) (hd : d ≠ 0) : Int.gcd n d ≤ d.natAbs := by
  rw [Int.gcd_eq_natAbs_gcd_natAbs]
  exact Nat.gcd_le_right _ (by omega)
theorem lowest_eq (n d : Int) (hd : d ≠ 0) (hn : -9223372036854775807 ≤ n ∧ n ≤ 9223372036854775807) (hd2 : -9223372036854775807 ≤ d ∧ d ≤ 9223372036854775807) (k : Nat) (hk : 200 ≤ k) : impl_lowest.f k n d = some (mk n d) := by
  unfold impl_lowest.f mk
  have h1 := gcd_pos n d hd
  have h2 := gcd_le n d hd
  rw [gcd_eq n d hn hd2 k hk]
  simp only [Option.bind_some]
  unfold sg
  split
  · rw [wr (-(Int.gcd n d : Int)) (by omega), if_neg (by omega), wr _ (tdiv_bd _ _ hn), wr _ (tdiv_bd _ _ hd2), isRat_eq _ _ k hk]
    simp only [Option.bind_some, decide_eq_true_eq]
    split <;> rfl
  · rw [if_neg (by omega), wr _ (tdiv_bd _ _ hn), wr _ (tdiv_bd _ _ hd2), isRat_eq _ _ k hk]
    simp only [Option.bind_some, decide_eq_true_eq]
    split <;> rfl
theorem raMake_eq (n d : Int) (hd : d ≠ 0) (hn : -9223372036854775807 ≤ n ∧ n ≤ 9223372036854775807) (hd2 : -9223372036854775807 ≤ d ∧ d ≤ 9223372036854775807) (k : Nat) (hk : 200 ≤ k) : spec_raMake.f k n d = some (mk n d) := by
  unfold spec_raMake.f mk
  have h1 := gcd_pos n d hd
  have h2 := gcd_le n d hd
  rw [if_neg hd, l1Abs_eq n hn, l1Abs_eq d hd2]
  simp only [Option.bind_some]
  unfold spec_raCommon.f
  rw [raCommon_l 64 k _ _ (by omega) (by omega)]
  simp only [Option.bind_some]
  rw [← Int.gcd_eq_natAbs_gcd_natAbs]
  unfold sg
  split
  · rw [wr (-(Int.gcd n d : Int)) (by omega), if_neg (by omega), wr _ (tdiv_bd _ _ hn), wr _ (tdiv_bd _ _ hd2), raGood_eq _ _ k hk]
    simp only [Option.bind_some, decide_eq_true_eq]
    split <;> rfl
  · rw [if_neg (by omega), wr _ (tdiv_bd _ _ hn), wr _ (tdiv_bd _ _ hd2), raGood_eq _ _ k hk]
    simp only [Option.bind_some, decide_eq_true_eq]
    split <;> rfl
theorem natAbs_div_le (n q : Int) : (n.tdiv q).natAbs ≤ n.natAbs := by
  rw [Int.natAbs_tdiv]
  exact Nat.div_le_self _ _
theorem mk_small (n d : Int) (hd : d ≠ 0) (hn : n.natAbs ≤ 1000000000) (hd2 : d.natAbs ≤ 1000000000) : OkR (n.tdiv (sg n d)) (d.tdiv (sg n d)) ∧ (n.tdiv (sg n d)).natAbs ≤ n.natAbs ∧ (d.tdiv (sg n d)).natAbs ≤ d.natAbs ∧ mk n d = (n.tdiv (sg n d), d.tdiv (sg n d), true) := by
  have hg := gcd_pos n d hd
  have e1 : (Int.gcd n d : Int) ∣ n := Int.gcd_dvd_left n d
  have e2 : (Int.gcd n d : Int) ∣ d := Int.gcd_dvd_right n d
  have h1 := natAbs_div_le n (sg n d)
  have h2 := natAbs_div_le d (sg n d)
  have hgo := Int.gcd_ediv_gcd_ediv_gcd hg
  have ok : OkR (n.tdiv (sg n d)) (d.tdiv (sg n d)) := by
    have hpos : 1 ≤ d.tdiv (sg n d) ∧ Int.gcd (n.tdiv (sg n d)) (d.tdiv (sg n d)) = 1 := by
      unfold sg
      split
      · rename_i hneg
        rw [Int.tdiv_neg, Int.tdiv_neg, Int.gcd_neg, Int.neg_gcd, Int.tdiv_eq_ediv_of_dvd e1, Int.tdiv_eq_ediv_of_dvd e2]
        refine ⟨?_, hgo⟩
        obtain ⟨c, hc⟩ := e2
        have : d / (Int.gcd n d : Int) = c := by
          conv => lhs; lhs; rw [hc]
          exact Int.mul_ediv_cancel_left c (by omega)
        rw [this]
        have : c < 0 := by
          rcases Int.lt_or_le c 0 with h | h
          · exact h
          · have := Int.mul_nonneg (show (0 : Int) ≤ (Int.gcd n d : Int) by omega) h
            omega
        omega
      · rename_i hpos
        rw [Int.tdiv_eq_ediv_of_dvd e1, Int.tdiv_eq_ediv_of_dvd e2]
        refine ⟨?_, hgo⟩
        obtain ⟨c, hc⟩ := e2
        have : d / (Int.gcd n d : Int) = c := by
          conv => lhs; lhs; rw [hc]
          exact Int.mul_ediv_cancel_left c (by omega)
        rw [this]
        rcases Int.lt_or_le 0 c with h | h
        · omega
        · have := Int.mul_le_mul_of_nonneg_left h (show (0 : Int) ≤ (Int.gcd n d : Int) by omega)
          rw [Int.mul_zero] at this
          omega
    exact ⟨hpos.1, by omega, by omega, by omega, hpos.2⟩
  exact ⟨ok, h1, h2, by unfold mk; rw [if_pos ok]⟩
end Go.Proofs.Ytgejkhbehoabdaa.Pu
set_option linter.unusedVariables false
set_option linter.unusedSimpArgs false
namespace Go.Proofs.Ytgejkhbehoabdaa.Pu
open Go.RowKit Go.Proofs.Ytgejkhbehoabdaa.Q Go.Proofs.YtgejkhbehoabdaaW.PrintWords Go.Proofs.YtgejkhbehoabdaaW.PrintLast Go.Proofs.YtgejkhbehoabdaaW.PrintMore
theorem rdRat (l : List S47) (i : Nat) : rd_T47 l (i : Int) = l.getD i z47 := by simp [rd_T47]
theorem eqRat_self (x : S47) : laws_eqRat.f x.f0 x.f1 x.f0 x.f1 = some true := by
  simp [laws_eqRat.f, laws_eqRat.f]
end Go.Proofs.Ytgejkhbehoabdaa.Pu
set_option linter.unusedVariables false
set_option linter.unusedSimpArgs false
namespace Go.Proofs.Ytgejkhbehoabdaa.Pu
open Go.RowKit Go.Proofs.Ytgejkhbehoabdaa.Q Go.Proofs.YtgejkhbehoabdaaW.PrintWords Go.Proofs.YtgejkhbehoabdaaW.PrintLast Go.Proofs.YtgejkhbehoabdaaW.PrintMore
theorem rdPoint (l : List S79) (i : Nat) : rd_T79 l (i : Int) = l.getD i z79 := by simp [rd_T79]
theorem rdlPoint (l : List S87) (i : Nat) : rd_T87 l (i : Int) = l.getD i z87 := by simp [rd_T87]
def cvPoint (x : S87) : S79 := ⟨⟨x.f0.f0, x.f0.f1⟩, ⟨x.f1.f0, x.f1.f1⟩⟩
theorem cvPoint_getD (l : List S87) (i : Nat) (h : i < l.length) : (l.map cvPoint).getD i z79 = cvPoint (l.getD i z87) := by
  simp [List.getD_eq_getElem?_getD, h]
theorem toPointS_l (x0 : List S87) (hb : x0.length ≤ 9000000000000000000) : ∀ (d k : Nat) (x3 : List S79) (i : Nat), i + d = x0.length → x3.length = x0.length → (∀ j, j < i → x3.getD j z79 = cvPoint (x0.getD j z87)) → d < k → laws_toPointS.l0 k x0 x3 (i : Int) = some (x0.map cvPoint) := by
  intro d
  induction d with
  | zero =>
    intro k x3 i hi hl hj hk
    obtain ⟨k, rfl⟩ : ∃ m, k = m + 1 := ⟨k - 1, by omega⟩
    simp only [laws_toPointS.l0]
    rw [if_neg (by omega), ext_getDG z79 x3 (x0.map cvPoint) (by simpa using hl) (fun j h => by rw [hj j (by omega), cvPoint_getD _ _ (by omega)])]
  | succ d ih =>
    intro k x3 i hi hl hj hk
    obtain ⟨k, rfl⟩ : ∃ m, k = m + 1 := ⟨k - 1, by omega⟩
    simp only [laws_toPointS.l0, laws_toPoint.f, laws_toRat.f, Option.bind_some]
    rw [if_pos (by omega), if_pos (by omega), if_pos (by omega), wr _ (by omega), Int.toNat_natCast, rdlPoint]
    refine ih k _ (i + 1) (by omega) (by simpa using hl) (fun j h => ?_) (by omega)
    rw [getD_setG _ _ _ _ _ (by omega)]
    split
    · rename_i e; rw [← e]; rfl
    · exact hj j (by omega)
theorem toPointS (l : List S87) (hb : l.length ≤ 1048576) (k : Nat) (hk : l.length < k) : laws_toPointS.f k l = some (l.map cvPoint) := by
  unfold laws_toPointS.f
  rw [if_pos (by omega), if_pos (by omega)]
  exact toPointS_l l (by omega) l.length k _ 0 (by omega) (by simp) (fun j h => by omega) hk
theorem eqPoint_self (x : S79) : laws_eqPoint.f x.f0.f0 x.f0.f1 x.f1.f0 x.f1.f1 x.f0.f0 x.f0.f1 x.f1.f0 x.f1.f1 = some true := by
  simp [laws_eqPoint.f, laws_eqRat.f]
theorem eqPointS_l (a : List S79) (hb : a.length ≤ 9000000000000000000) : ∀ (d k : Nat) (i : Nat), i + d = a.length → d < k → laws_eqPointS.l0 k a a (i : Int) = some true := by
  intro d
  induction d with
  | zero =>
    intro k i hi hk
    obtain ⟨k, rfl⟩ : ∃ m, k = m + 1 := ⟨k - 1, by omega⟩
    simp only [laws_eqPointS.l0]
    rw [if_neg (by omega)]
  | succ d ih =>
    intro k i hi hk
    obtain ⟨k, rfl⟩ : ∃ m, k = m + 1 := ⟨k - 1, by omega⟩
    simp only [laws_eqPointS.l0, eqPoint_self, Option.bind_some]
    rw [if_pos (by omega), if_pos (by omega), if_pos (by omega), wr _ (by omega)]
    exact ih k (i + 1) (by omega) (by omega)
theorem eqPointS_self (a : List S79) (hb : a.length ≤ 9000000000000000000) (k : Nat) (hk : a.length < k) : laws_eqPointS.f k a a = some true := by
  unfold laws_eqPointS.f
  rw [if_pos rfl]
  exact eqPointS_l a hb a.length k 0 (by omega) hk
end Go.Proofs.Ytgejkhbehoabdaa.Pu
set_option linter.unusedVariables false
set_option linter.unusedSimpArgs false
namespace Go.Proofs.Ytgejkhbehoabdaa.Pu
open Go.RowKit Go.Proofs.Ytgejkhbehoabdaa.Q Go.Proofs.YtgejkhbehoabdaaW.PrintWords Go.Proofs.YtgejkhbehoabdaaW.PrintLast Go.Proofs.YtgejkhbehoabdaaW.PrintMore
theorem mul_bd (x y : Int) (B C : Nat) (hx : x.natAbs ≤ B) (hy : y.natAbs ≤ C) : (x * y).natAbs ≤ B * C := by
  rw [Int.natAbs_mul]
  exact Nat.mul_le_mul hx hy
def Bd (n d : Int) : Prop := n.natAbs ≤ 1000000000 ∧ d.natAbs ≤ 1000000000
theorem OkR.bd {n d : Int} (h : OkR n d) : Bd n d := by
  obtain ⟨h1, h2, h3, h4, _⟩ := h
  exact ⟨by omega, by omega⟩
theorem cross_bd {a b c d : Int} (h1 : Bd a b) (h2 : Bd c d) : (a * d).natAbs ≤ 1000000000000000000 ∧ (c * b).natAbs ≤ 1000000000000000000 ∧ (b * d).natAbs ≤ 1000000000000000000 ∧ (a * c).natAbs ≤ 1000000000000000000 :=
  ⟨mul_bd a d _ _ h1.1 h2.2, mul_bd c b _ _ h2.1 h1.2, mul_bd b d _ _ h1.2 h2.2, mul_bd a c _ _ h1.1 h2.1⟩
theorem less_eq {a b c d : Int} (h1 : Bd a b) (h2 : Bd c d) : impl_less.f a b c d = some (decide (a * d < c * b)) := by
  obtain ⟨m1, m2, _⟩ := cross_bd h1 h2
  unfold impl_less.f impl_compare.f
  generalize a * d = p at *
  generalize c * b = q at *
  rw [wr p (by omega), wr q (by omega)]
  by_cases h : p < q
  · rw [if_pos h]; simp [h]
  · rw [if_neg h]
    by_cases h3 : p > q
    · rw [if_pos h3]; simp [h]
    · rw [if_neg h3]; simp [h]
theorem raCmp_eq {a b c d : Int} (h1 : Bd a b) (h2 : Bd c d) : ∃ t, spec_raCmp.f a b c d = some t ∧ (t < 0 ↔ a * d < c * b) ∧ (t = 0 ↔ a * d = c * b) := by
  obtain ⟨m1, m2, _⟩ := cross_bd h1 h2
  unfold spec_raCmp.f spec_l1Sign.f
  generalize a * d = p at *
  generalize c * b = q at *
  rw [wr p (by omega), wr q (by omega), wr (p - q) (by omega)]
  by_cases h : p - q > 0
  · rw [if_pos h]
    exact ⟨1, rfl, by omega, by omega⟩
  · rw [if_neg h]
    by_cases h3 : p - q < 0
    · rw [if_pos h3]
      exact ⟨-1, rfl, by omega, by omega⟩
    · rw [if_neg h3]
      exact ⟨0, rfl, by omega, by omega⟩
def OkU (n d : Int) : Prop := OkR n d ∧ 0 ≤ n ∧ n ≤ d
instance (n d : Int) : Decidable (OkU n d) := by unfold OkU; infer_instance
def Co (n d : Int) : Prop := OkU n d ∧ d ≤ 100
instance (n d : Int) : Decidable (Co n d) := by unfold Co; infer_instance
theorem isUnit_eq (n d : Int) (k : Nat) (hk : 200 ≤ k) : impl_isUnit.f k n d = some (decide (OkU n d)) := by
  unfold impl_isUnit.f OkU
  rw [isRat_eq n d k hk]
  simp only [Option.bind_some, decide_eq_true_eq]
  by_cases h : OkR n d
  · rw [if_pos h]
    by_cases h2 : n ≥ 0
    · rw [if_pos h2]; simp [h, h2]
    · rw [if_neg h2]; simp [h2]
  · rw [if_neg h]; simp [h]
theorem raUnit_eq (n d : Int) (k : Nat) (hk : 200 ≤ k) : spec_raUnit.f k n d = some (decide (OkU n d)) := by
  unfold spec_raUnit.f spec_l1In.f OkU
  rw [raGood_eq n d k hk]
  simp only [Option.bind_some, decide_eq_true_eq]
  by_cases h : OkR n d
  · rw [if_pos h]
    by_cases h2 : n ≥ 0
    · rw [if_pos h2]; simp [h, h2]
    · rw [if_neg h2]; simp [h2]
  · rw [if_neg h]; simp [h]
theorem isCoord_eq (n d : Int) (k : Nat) (hk : 200 ≤ k) : impl_isCoord.f k n d = some (decide (Co n d)) := by
  unfold impl_isCoord.f Co
  rw [isUnit_eq n d k hk]
  simp only [Option.bind_some, decide_eq_true_eq]
  by_cases h : OkU n d
  · rw [if_pos h]; simp [h]
  · rw [if_neg h]; simp [h]
theorem imCoord_eq (n d : Int) (k : Nat) (hk : 200 ≤ k) : spec_imCoord.f k n d = some (decide (Co n d)) := by
  unfold spec_imCoord.f Co
  rw [raUnit_eq n d k hk]
  simp only [Option.bind_some, decide_eq_true_eq]
  by_cases h : OkU n d
  · rw [if_pos h]; simp [h]
  · rw [if_neg h]; simp [h]
abbrev Ra := S47
abbrev Pt := S79
def nr (l : List Ra) (i : Nat) : Ra := l.getD i z47
def np (l : List Pt) (i : Nat) : Pt := l.getD i z79
theorem rd_nr (l : List Ra) (i : Nat) : rd_T47 l (i : Int) = nr l i := rdRat l i
theorem rd_np (l : List Pt) (i : Nat) : rd_T79 l (i : Int) = np l i := rdPoint l i
theorem rd_nr0 (l : List Ra) : rd_T47 l 0 = nr l 0 := rdRat l 0
theorem rd_np0 (l : List Pt) : rd_T79 l 0 = np l 0 := rdPoint l 0
theorem nr_mem (l : List Ra) (i : Nat) (h : i < l.length) : nr l i ∈ l := getD_mem l i _ h
theorem np_mem (l : List Pt) (i : Nat) (h : i < l.length) : np l i ∈ l := getD_mem l i _ h
theorem mem_np (l : List Pt) (x : Pt) (h : x ∈ l) : ∃ i, i < l.length ∧ np l i = x := by
  obtain ⟨i, hi, e⟩ := List.mem_iff_getElem.1 h
  exact ⟨i, hi, by simp [np, List.getD_eq_getElem?_getD, hi, e]⟩
def Lt (a b : Ra) : Prop := a.f0 * b.f1 < b.f0 * a.f1
instance (a b : Ra) : Decidable (Lt a b) := by unfold Lt; infer_instance
def BdR (a : Ra) : Prop := Bd a.f0 a.f1
theorem rising_l (l : List Ra) (hl : l.length ≤ 1048576) (hb : ∀ x ∈ l, BdR x) : ∀ (d k i : Nat), 1 ≤ i → i + d = l.length ∨ d = 0 ∧ l.length ≤ i ∧ i ≤ 1048577 → d < k →
    ∃ b, impl_isRising.l0 k l (i : Int) = some b ∧ (b = true ↔ ∀ j, i ≤ j → j < l.length → Lt (nr l (j - 1)) (nr l j)) := by
  intro d
  induction d with
  | zero =>
    intro k i h1 hi hk
    obtain ⟨k, rfl⟩ : ∃ m, k = m + 1 := ⟨k - 1, by omega⟩
    simp only [impl_isRising.l0]
    rw [if_neg (by omega)]
    exact ⟨true, rfl, by simp; intro j _ _; omega⟩
  | succ d ih =>
    intro k i h1 hi hk
    obtain ⟨k, rfl⟩ : ∃ m, k = m + 1 := ⟨k - 1, by omega⟩
    simp only [impl_isRising.l0]
    rw [wr (_ - 1) (by omega), wr (_ + 1) (by omega), if_pos (by omega), if_pos (by omega), if_pos (by omega), if_pos (by omega),
      show (i : Int) - 1 = ((i - 1 : Nat) : Int) by omega, show (i : Int) + 1 = ((i + 1 : Nat) : Int) by omega, rd_nr, rd_nr, less_eq (hb _ (nr_mem l _ (by omega))) (hb _ (nr_mem l _ (by omega)))]
    simp only [Option.bind_some, decide_eq_true_eq]
    by_cases h : Lt (nr l (i - 1)) (nr l i)
    · rw [if_pos (show (nr l (i - 1)).f0 * (nr l i).f1 < (nr l i).f0 * (nr l (i - 1)).f1 from h)]
      obtain ⟨b, e, hb2⟩ := ih k (i + 1) (by omega) (by omega) (by omega)
      refine ⟨b, e, hb2.trans ⟨fun hh j hj hl2 => ?_, fun hh j hj hl2 => hh j (by omega) hl2⟩⟩
      by_cases ej : j = i
      · subst ej; exact h
      · exact hh j (by omega) hl2
    · rw [if_neg (show ¬ (nr l (i - 1)).f0 * (nr l i).f1 < (nr l i).f0 * (nr l (i - 1)).f1 from h)]
      exact ⟨false, rfl, by simp; exact ⟨i, Nat.le_refl _, by omega, h⟩⟩
def Rising (l : List Ra) : Prop := ∀ j, 1 ≤ j → j < l.length → Lt (nr l (j - 1)) (nr l j)
theorem rising_eq (l : List Ra) (hl : l.length ≤ 1048576) (hb : ∀ x ∈ l, BdR x) (k : Nat) (hk : l.length < k) : ∃ b, impl_isRising.f k l = some b ∧ (b = true ↔ Rising l) := by
  unfold impl_isRising.f
  exact rising_l l hl hb (l.length - 1) k 1 (by omega) (by omega) (by omega)
theorem xsOf_l (l : List Pt) (hl : l.length ≤ 1048576) : ∀ (d k i : Nat) (out : List Ra), i + d = l.length → out.length ≤ i → d < k → impl_xsOf.l0 k out l (l.length : Int) (i : Int) = some (out ++ (l.drop i).map fun p => p.f0) := by
  intro d
  induction d with
  | zero =>
    intro k i out hi ho hk
    obtain ⟨k, rfl⟩ : ∃ m, k = m + 1 := ⟨k - 1, by omega⟩
    simp only [impl_xsOf.l0]
    rw [if_neg (by omega), List.drop_of_length_le (by omega)]
    simp
  | succ d ih =>
    intro k i out hi ho hk
    obtain ⟨k, rfl⟩ : ∃ m, k = m + 1 := ⟨k - 1, by omega⟩
    simp only [impl_xsOf.l0]
    rw [wr (_ + 1) (by omega), if_pos (by omega), if_pos (by omega), if_pos (by omega), if_pos (by omega), show (i : Int) + 1 = ((i + 1 : Nat) : Int) by omega, rd_np, ih k (i + 1) _ (by omega) (by simp; omega) (by omega),
      drop_getD l i z79 (by omega)]
    simp [np]
theorem xsOf_eq (l : List Pt) (hl : l.length ≤ 1048576) (k : Nat) (hk : l.length < k) : impl_xsOf.f k l = some (l.map fun p => p.f0) := by
  unfold impl_xsOf.f
  have := xsOf_l l hl l.length k 0 [] (by omega) (by simp) hk
  simpa using this
theorem nr_xs (l : List Pt) (i : Nat) (h : i < l.length) : nr (l.map fun p => p.f0) i = (np l i).f0 := by
  simp [nr, np, List.getD_eq_getElem?_getD, h]
def CoP (p : Pt) : Prop := Co p.f0.f0 p.f0.f1 ∧ Co p.f1.f0 p.f1.f1
instance (p : Pt) : Decidable (CoP p) := by unfold CoP; infer_instance
structure IsMap (l : List Pt) : Prop where
  two : 2 ≤ l.length
  most : l.length ≤ 12
  co : ∀ i, i < l.length → CoP (np l i)
  up : ∀ i, 1 ≤ i → i < l.length → Lt (np l (i - 1)).f0 (np l i).f0
  first : (np l 0).f0 = ⟨0, 1⟩
  last : (np l (l.length - 1)).f0 = ⟨1, 1⟩
theorem CoP.bx {p : Pt} (h : CoP p) : BdR p.f0 := h.1.1.1.bd
theorem CoP.by {p : Pt} (h : CoP p) : BdR p.f1 := h.2.1.1.bd
theorem rat_ext {a : Ra} {n d : Int} (h0 : a.f0 = n) (h1 : a.f1 = d) : a = ⟨n, d⟩ := by cases a; simp_all
theorem isMap_eq (l : List Pt) (hl : l.length ≤ 1048576) (k : Nat) (hk : 1000 ≤ k) : ∃ b, impl_isMap.f k l = some b ∧ (b = true ↔ IsMap l) := by
  unfold impl_isMap.f impl_within.f
  obtain ⟨k, rfl⟩ : ∃ m, k = m + 1 := ⟨k - 1, by omega⟩
  by_cases h2 : (2 : Int) ≤ (l.length : Int)
  · rw [if_pos h2]
    simp only [Option.bind_some]
    by_cases h12 : (l.length : Int) ≤ 12
    · rw [if_pos (by simpa using h12)]
      have hc : ContainsFunc_impl_isMap_1.f (k + 1) l = some (l.any fun p => !decide (CoP p)) := by
        unfold ContainsFunc_impl_isMap_1.f
        apply anyS_of
        intro x _
        unfold impl_isMap_1.f
        rw [isCoord_eq _ _ _ (by omega), isCoord_eq _ _ _ (by omega)]
        simp only [Option.bind_some, decide_eq_true_eq]
        by_cases h : Co x.f0.f0 x.f0.f1
        · rw [if_pos h]; simp [CoP, h]
        · rw [if_neg h]; simp [CoP, h]
      rw [hc]
      simp only [Option.bind_some, impl_isMap.j0]
      by_cases ha : (l.any fun p => !decide (CoP p)) = true
      · rw [if_pos ha]
        refine ⟨false, rfl, ⟨fun h => (by cases h), fun hm => ?_⟩⟩
        obtain ⟨x, hx, hn⟩ := List.any_eq_true.1 ha
        obtain ⟨i, hi, e⟩ := mem_np l x hx
        have := hm.co i hi
        rw [e] at this
        simp [this] at hn
      · rw [if_neg ha]
        have hco : ∀ x ∈ l, CoP x := fun x hx => by
          have : ¬ ((!decide (CoP x)) = true) := fun hh => ha (List.any_eq_true.2 ⟨x, hx, hh⟩)
          simpa using this
        rw [if_pos (by omega)]
        unfold impl_zero.f impl_oneRat.f
        simp only [Option.bind_some]
        rw [wr (_ - 1) (by omega), rd_np0, show (l.length : Int) - 1 = ((l.length - 1 : Nat) : Int) by omega, rd_np]
        by_cases hf : ((np l 0).f0.f0 == 0 && (np l 0).f0.f1 == 1) = true
        · rw [if_pos hf, if_pos (by omega), if_pos (by omega)]
          have hf' : (np l 0).f0 = ⟨0, 1⟩ := by
            simp only [Bool.and_eq_true, beq_iff_eq] at hf
            exact rat_ext hf.1 hf.2
          by_cases hg : ((np l (l.length - 1)).f0.f0 == 1 && (np l (l.length - 1)).f0.f1 == 1) = true
          · rw [if_pos hg]
            have hg' : (np l (l.length - 1)).f0 = ⟨1, 1⟩ := by
              simp only [Bool.and_eq_true, beq_iff_eq] at hg
              exact rat_ext hg.1 hg.2
            rw [xsOf_eq l (by omega) _ (by omega)]
            simp only [Option.bind_some]
            obtain ⟨b, e, hb⟩ := rising_eq (l.map fun p => p.f0) (by simp; omega) (fun x hx => by
              obtain ⟨p, hp, rfl⟩ := List.mem_map.1 hx
              exact (hco p hp).bx) k (by simp; omega)
            rw [e]
            refine ⟨b, rfl, hb.trans ⟨fun hr => ⟨by omega, by omega, fun i hi => hco _ (np_mem l i hi), fun i h1 hi => ?_, hf', hg'⟩, fun hm j h1 hj => ?_⟩⟩
            · have := hr i h1 (by simpa using hi)
              rwa [nr_xs _ _ (by omega), nr_xs _ _ hi] at this
            · rw [nr_xs _ _ (by simp at hj; omega), nr_xs _ _ (by simpa using hj)]
              exact hm.up j h1 (by simpa using hj)
          · rw [if_neg hg]
            exact ⟨false, rfl, by simp; intro hm; exact hg (by rw [hm.last]; rfl)⟩
        · rw [if_neg hf]
          exact ⟨false, rfl, by simp; intro hm; exact hf (by rw [hm.first]; rfl)⟩
    · rw [if_neg (by simpa using h12)]
      simp only [impl_isMap.j0, if_true]
      exact ⟨false, rfl, by simp; intro hm; have := hm.most; omega⟩
  · rw [if_neg h2]
    simp only [Option.bind_some, impl_isMap.j0, if_true]
    exact ⟨false, rfl, by simp; intro hm; have := hm.two; omega⟩
theorem imGood_l (l : List Pt) (h2 : 2 ≤ l.length) (h12 : l.length ≤ 12) : ∀ (d k i : Nat), i + d = l.length → (∀ j, j < i → CoP (np l j)) → (∀ j, 1 ≤ j → j < i → Lt (np l (j - 1)).f0 (np l j).f0) → 500 + d < k →
    ∃ b, spec_imGood.l0 k l l (l.length : Int) (i : Int) = some b ∧ (b = true ↔ IsMap l) := by
  intro d
  induction d with
  | zero =>
    intro k i hi hco hup hk
    obtain ⟨k, rfl⟩ : ∃ m, k = m + 1 := ⟨k - 1, by omega⟩
    simp only [spec_imGood.l0, spec_raInt.f, Option.bind_some]
    rw [if_neg (by omega), if_pos (by omega), rd_np0, wr (_ - 1) (by omega), show (l.length : Int) - 1 = ((l.length - 1 : Nat) : Int) by omega, rd_np]
    obtain ⟨t, e, _, h0⟩ := raCmp_eq (hco 0 (by omega)).bx (show Bd 0 1 by unfold Bd; omega)
    obtain ⟨t2, e2, _, h02⟩ := raCmp_eq (hco (l.length - 1) (by omega)).bx (show Bd 1 1 by unfold Bd; omega)
    rw [e, e2]
    simp only [Option.bind_some]
    have c0 := (hco 0 (by omega)).1.1
    have c1 := (hco (l.length - 1) (by omega)).1.1
    by_cases ht : t = 0
    · rw [if_pos ht, if_pos (by omega), if_pos (by omega)]
      refine ⟨_, rfl, ?_⟩
      have hz := h0.1 ht
      have hz0 : (np l 0).f0.f0 = 0 := by omega
      have hf' : (np l 0).f0 = ⟨0, 1⟩ := by
        refine rat_ext hz0 ?_
        have hg := c0.1.2.2.2.2
        have hp := c0.1.1
        rw [hz0, Int.gcd_zero_left] at hg
        omega
      simp only [beq_iff_eq]
      rw [h02]
      constructor
      · intro hh
        have hz1 : (np l (l.length - 1)).f0.f0 = (np l (l.length - 1)).f0.f1 := by omega
        have hg' : (np l (l.length - 1)).f0 = ⟨1, 1⟩ := by
          have hg := c1.1.2.2.2.2
          have hp := c1.1.1
          rw [hz1, Int.gcd_self] at hg
          exact rat_ext (by omega) (by omega)
        exact ⟨by omega, by omega, fun j hj => hco j (by omega), fun j h1 hj => hup j h1 (by omega), hf', hg'⟩
      · intro hm
        rw [hm.last]
    · rw [if_neg ht]
      refine ⟨false, rfl, ⟨fun h => (by cases h), fun hm => absurd (h0.2 (by rw [hm.first])) ht⟩⟩
  | succ d ih =>
    intro k i hi hco hup hk
    obtain ⟨k, rfl⟩ : ∃ m, k = m + 1 := ⟨k - 1, by omega⟩
    simp only [spec_imGood.l0]
    rw [if_pos (by omega), if_pos (by omega), if_pos (by omega), rd_np, imCoord_eq _ _ k (by omega), imCoord_eq _ _ k (by omega)]
    simp only [Option.bind_some, decide_eq_true_eq]
    by_cases hx : Co (np l i).f0.f0 (np l i).f0.f1
    · rw [if_pos hx]
      by_cases hy : Co (np l i).f1.f0 (np l i).f1.f1
      · rw [if_pos hy, wr (_ + 1) (by omega), show (i : Int) + 1 = ((i + 1 : Nat) : Int) by omega]
        have hci : CoP (np l i) := ⟨hx, hy⟩
        have hco' : ∀ j, j < i + 1 → CoP (np l j) := fun j hj => by
          by_cases ej : j = i
          · subst ej; exact hci
          · exact hco j (by omega)
        by_cases h0 : (i : Int) > 0
        · rw [if_pos h0, wr (_ - 1) (by omega), if_pos (by omega), if_pos (by omega), show (i : Int) - 1 = ((i - 1 : Nat) : Int) by omega, rd_np]
          obtain ⟨t, e, hlt, _⟩ := raCmp_eq (hco (i - 1) (by omega)).bx hci.bx
          rw [e]
          simp only [Option.bind_some]
          by_cases ht : t ≥ 0
          · rw [if_pos ht]
            refine ⟨false, rfl, ⟨fun h => (by cases h), fun hm => ?_⟩⟩
            have := hm.up i (by omega) (by omega)
            have := hlt.2 this
            omega
          · rw [if_neg ht]
            refine ih k (i + 1) (by omega) hco' (fun j h1 hj => ?_) (by omega)
            by_cases ej : j = i
            · subst ej; exact hlt.1 (by omega)
            · exact hup j h1 (by omega)
        · rw [if_neg h0]
          exact ih k (i + 1) (by omega) hco' (fun j h1 hj => by omega) (by omega)
      · rw [if_neg hy]
        exact ⟨false, rfl, by simp; intro hm; exact hy (hm.co i (by omega)).2⟩
    · rw [if_neg hx]
      exact ⟨false, rfl, by simp; intro hm; exact hx (hm.co i (by omega)).1⟩
theorem imGood_eq (l : List Pt) (hl : l.length ≤ 1048576) (k : Nat) (hk : 1000 ≤ k) : ∃ b, spec_imGood.f k l = some b ∧ (b = true ↔ IsMap l) := by
  unfold spec_imGood.f spec_l1In.f
  by_cases h2 : (l.length : Int) ≥ 2
  · rw [if_pos h2]
    simp only [Option.bind_some]
    by_cases h12 : (l.length : Int) ≤ 12
    · rw [if_pos (by simpa using h12)]
      exact imGood_l l (by omega) (by omega) l.length k 0 (by omega) (fun j hj => by omega) (fun j _ hj => by omega) (by omega)
    · rw [if_neg (by simpa using h12)]
      exact ⟨false, rfl, by simp; intro hm; have := hm.most; omega⟩
  · rw [if_neg h2]
    simp only [Option.bind_some]
    exact ⟨false, rfl, by simp; intro hm; have := hm.two; omega⟩
open Classical in
noncomputable def mapB (l : List Pt) : Bool := decide (IsMap l)
theorem mapB_iff (l : List Pt) : mapB l = true ↔ IsMap l := by unfold mapB; simp
theorem isMapB (l : List Pt) (hl : l.length ≤ 1048576) (k : Nat) (hk : 1000 ≤ k) : impl_isMap.f k l = some (mapB l) := by
  obtain ⟨b, e, h⟩ := isMap_eq l hl k hk
  rw [e]
  congr 1
  rw [Bool.eq_iff_iff, h, mapB_iff]
theorem imGoodB (l : List Pt) (hl : l.length ≤ 1048576) (k : Nat) (hk : 1000 ≤ k) : spec_imGood.f k l = some (mapB l) := by
  obtain ⟨b, e, h⟩ := imGood_eq l hl k hk
  rw [e]
  congr 1
  rw [Bool.eq_iff_iff, h, mapB_iff]
end Go.Proofs.Ytgejkhbehoabdaa.Pu
set_option linter.unusedVariables false
set_option linter.unusedSimpArgs false
namespace Go.Proofs.Ytgejkhbehoabdaa.Pu
open Go.RowKit Go.Proofs.Ytgejkhbehoabdaa.Q Go.Proofs.YtgejkhbehoabdaaW.PrintWords Go.Proofs.YtgejkhbehoabdaaW.PrintLast Go.Proofs.YtgejkhbehoabdaaW.PrintMore
abbrev Tri := Int × Int × Bool
def kp (s : Bool) (m : Tri) : Tri := if m.2.2 = true then (m.1, m.2.1, s) else (0, 1, true)
theorem keep_eq (s : Bool) (m : Tri) : impl_calc_keep.f s m.1 m.2.1 m.2.2 = some (kp s m) := by
  unfold impl_calc_keep.f kp impl_zero.f
  split <;> rfl
theorem kp_val {s : Bool} {m : Tri} (h : m.2.2 = true) : kp s m = (m.1, m.2.1, s) := by
  unfold kp
  rw [if_pos h]
theorem areRats2 (a b : Ra) (k : Nat) (hk : 300 ≤ k) : impl_areRats.f k [a, b] = some (decide (OkR a.f0 a.f1) && decide (OkR b.f0 b.f1)) := by
  unfold impl_areRats.f
  obtain ⟨k, rfl⟩ : ∃ m, k = m + 3 := ⟨k - 3, by omega⟩
  have r0 : rd_T47 [a, b] 0 = a := rfl
  have r1 : rd_T47 [a, b] 1 = b := rfl
  simp only [impl_areRats.l0, List.length_cons, List.length_nil]
  rw [if_pos (by decide), if_pos (by decide), if_pos (by decide), r0, isRat_eq _ _ _ (by omega)]
  simp only [Option.bind_some, decide_eq_true_eq]
  by_cases h : OkR a.f0 a.f1
  · rw [if_pos h]
    have e1 : wrap64 (0 + 1) = 1 := wr _ (by decide)
    have e2 : wrap64 (1 + 1) = 2 := wr _ (by decide)
    rw [e1, if_pos (by decide), if_pos (by decide), if_pos (by decide), r1, isRat_eq _ _ _ (by omega)]
    simp only [Option.bind_some, decide_eq_true_eq]
    by_cases h2 : OkR b.f0 b.f1
    · rw [if_pos h2, e2, if_neg (by decide)]
      simp [h, h2]
    · rw [if_neg h2]; simp [h2]
  · rw [if_neg h]; simp [h]
def addT (a b c d : Int) : Tri := mk (a * d + c * b) (b * d)
def subT (a b c d : Int) : Tri := mk (a * d - c * b) (b * d)
def divT (a b c d : Int) : Tri := if c = 0 then (0, 0, false) else mk (a * d) (b * c)
theorem den_pos {a b c d : Int} (h1 : OkR a b) (h2 : OkR c d) : b * d ≠ 0 := by
  have := Int.mul_pos (show 0 < b by have := h1.1; omega) (show 0 < d by have := h2.1; omega)
  omega
section
variable {a b c d : Int} (h1 : OkR a b) (h2 : OkR c d) (k : Nat)
include h1 h2
theorem addRats_eq (hk : 300 ≤ k) : impl_AddRats.f k a b c d = some (addT a b c d) := by
  unfold impl_AddRats.f
  rw [areRats2 _ _ k hk, decide_eq_true h1, decide_eq_true h2]
  simp only [Option.bind_some, Bool.and_true, if_true]
  obtain ⟨m1, m2, m3, _⟩ := cross_bd h1.bd h2.bd
  have hd := den_pos h1 h2
  rw [wr (a * d) (by omega), wr (c * b) (by omega), wr (b * d) (by omega), wr _ (by omega), lowest_eq _ _ hd (by omega) (by omega) k (by omega)]
  rfl
theorem raSub_eq (hk : 300 ≤ k) : spec_raSub.f k a b c d = some (subT a b c d) := by
  unfold spec_raSub.f
  obtain ⟨m1, m2, m3, _⟩ := cross_bd h1.bd h2.bd
  have hd := den_pos h1 h2
  rw [wr (a * d) (by omega), wr (c * b) (by omega), wr (b * d) (by omega), wr _ (by omega), raMake_eq _ _ hd (by omega) (by omega) k (by omega)]
  rfl
theorem raDiv_eq (hk : 300 ≤ k) : spec_raDiv.f k a b c d = some (divT a b c d) := by
  unfold spec_raDiv.f divT
  obtain ⟨m1, m2, m3, m4⟩ := cross_bd h1.bd h2.bd
  split
  · rfl
  · rename_i hc
    have hd : b * c ≠ 0 := Int.mul_ne_zero (by have := h1.1; omega) hc
    have m5 := mul_bd b c _ _ h1.bd.2 h2.bd.1
    rw [wr (a * d) (by omega), wr (b * c) (by omega), raMake_eq _ _ hd (by omega) (by omega) k (by omega)]
    rfl
omit h1 in
theorem negated_ok : OkR (-c) d := by
  obtain ⟨e1, e2, e3, e4, e5⟩ := h2
  exact ⟨e1, e2, by omega, by omega, by rw [Int.neg_gcd]; exact e5⟩
theorem subRats_eq (hk : 300 ≤ k) : impl_SubtractRats.f k a b c d = some (subT a b c d) := by
  unfold impl_SubtractRats.f impl_negated.f
  have hb := h2.bd
  simp only [Option.bind_some]
  rw [wr (-c) (by unfold Bd at hb; omega), addRats_eq h1 (negated_ok h2) k hk]
  simp only [Option.bind_some]
  unfold addT subT
  rw [Int.neg_mul]
  rfl
theorem divRats_eq (hk : 300 ≤ k) : impl_DivideRats.f k a b c d = some (divT a b c d) := by
  unfold impl_DivideRats.f divT
  rw [areRats2 _ _ k hk, decide_eq_true h1, decide_eq_true h2]
  simp only [Option.bind_some, Bool.and_true, if_true]
  obtain ⟨m1, m2, m3, m4⟩ := cross_bd h1.bd h2.bd
  split
  · rfl
  · rename_i hc
    have hd : b * c ≠ 0 := Int.mul_ne_zero (by have := h1.1; omega) hc
    have m5 := mul_bd b c _ _ h1.bd.2 h2.bd.1
    rw [wr (a * d) (by omega), wr (b * c) (by omega), lowest_eq _ _ hd (by omega) (by omega) k (by omega)]
    rfl
theorem calc_sub (s : Bool) (hk : 300 ≤ k) : impl_calc_sub.f k s a b c d = some (kp s (subT a b c d)) := by
  unfold impl_calc_sub.f
  rw [subRats_eq h1 h2 k hk, Option.bind_some, keep_eq, Option.bind_some]
theorem calc_div (s : Bool) (hk : 300 ≤ k) : impl_calc_div.f k s a b c d = some (kp s (divT a b c d)) := by
  unfold impl_calc_div.f
  rw [divRats_eq h1 h2 k hk, Option.bind_some, keep_eq, Option.bind_some]
end
def slT (p q : Pt) : Tri := divT (subT q.f1.f0 q.f1.f1 p.f1.f0 p.f1.f1).1 (subT q.f1.f0 q.f1.f1 p.f1.f0 p.f1.f1).2.1 (subT q.f0.f0 q.f0.f1 p.f0.f0 p.f0.f1).1 (subT q.f0.f0 q.f0.f1 p.f0.f0 p.f0.f1).2.1
theorem co_sub {a b c d : Int} (h1 : Co a b) (h2 : Co c d) : (subT a b c d).2.2 = true ∧ OkR (subT a b c d).1 (subT a b c d).2.1 ∧ (subT a b c d).1.natAbs ≤ 10000 ∧ (subT a b c d).2.1.natAbs ≤ 10000 := by
  obtain ⟨⟨⟨b1, b2, _, _, _⟩, b3, b4⟩, b5⟩ := h1
  obtain ⟨⟨⟨d1, d2, _, _, _⟩, d3, d4⟩, d5⟩ := h2
  have m1 := mul_bd a d 100 100 (by omega) (by omega)
  have m2 := mul_bd c b 100 100 (by omega) (by omega)
  have m3 := mul_bd b d 100 100 (by omega) (by omega)
  have n1 := Int.mul_nonneg b3 (show (0 : Int) ≤ d by omega)
  have n2 := Int.mul_nonneg d3 (show (0 : Int) ≤ b by omega)
  have n3 := Int.mul_pos (show (0 : Int) < b by omega) (show (0 : Int) < d by omega)
  unfold subT
  generalize a * d = x at *
  generalize c * b = y at *
  generalize b * d = z at *
  obtain ⟨e1, e2, e3, e4⟩ := mk_small (x - y) z (by omega) (by omega) (by omega)
  rw [e4]
  exact ⟨rfl, e1, by show (Int.tdiv _ _).natAbs ≤ _; omega, by show (Int.tdiv _ _).natAbs ≤ _; omega⟩
theorem sub_ne {a b c d : Int} (h1 : OkR a b) (h2 : OkR c d) (hlt : c * b < a * d) (hok : (subT a b c d).2.2 = true) : (subT a b c d).1 ≠ 0 := by
  have hd := den_pos h1 h2
  unfold subT mk at hok ⊢
  split at hok
  · rename_i h
    rw [if_pos h]
    intro h0
    have h0' : (a * d - c * b).tdiv (sg (a * d - c * b) (b * d)) = 0 := h0
    have hdv : (sg (a * d - c * b) (b * d)) ∣ (a * d - c * b) := by
      unfold sg
      split
      · exact Int.neg_dvd.2 (Int.gcd_dvd_left _ _)
      · exact Int.gcd_dvd_left _ _
    obtain ⟨t, ht⟩ := hdv
    have hs : sg (a * d - c * b) (b * d) ≠ 0 := by
      have := gcd_pos (a * d - c * b) (b * d) hd
      unfold sg
      split <;> omega
    have : (sg (a * d - c * b) (b * d) * t).tdiv (sg (a * d - c * b) (b * d)) = t := Int.mul_tdiv_cancel_left _ hs
    generalize hg : sg (a * d - c * b) (b * d) = g at *
    rw [ht, this] at h0'
    rw [h0', Int.mul_zero] at ht
    omega
  · cases hok
structure Seg (p q : Pt) : Prop where
  cp : CoP p
  cq : CoP q
  lt : Lt p.f0 q.f0
theorem IsMap.seg {l : List Pt} (h : IsMap l) (i : Nat) (hi : i + 1 < l.length) : Seg (np l i) (np l (i + 1)) :=
  ⟨h.co i (by omega), h.co (i + 1) hi, by have := h.up (i + 1) (by omega) hi; rwa [Nat.add_sub_cancel] at this⟩
theorem seg_slope {p q : Pt} (h : Seg p q) : (slT p q).2.2 = true ∧ OkR (slT p q).1 (slT p q).2.1 := by
  obtain ⟨u1, u2, u3, u4⟩ := co_sub h.cq.2 h.cp.2
  obtain ⟨v1, v2, v3, v4⟩ := co_sub h.cq.1 h.cp.1
  have v5 := sub_ne h.cq.1.1.1 h.cp.1.1.1 h.lt v1
  unfold slT
  generalize hx : subT q.f1.f0 q.f1.f1 p.f1.f0 p.f1.f1 = x at *
  generalize hy : subT q.f0.f0 q.f0.f1 p.f0.f0 p.f0.f1 = y at *
  unfold divT
  rw [if_neg v5]
  have m1 := mul_bd x.1 y.2.1 10000 10000 u3 v4
  have m2 := mul_bd x.2.1 y.1 10000 10000 u4 v3
  have hd : x.2.1 * y.1 ≠ 0 := Int.mul_ne_zero (by have := u2.1; omega) v5
  obtain ⟨e1, e2, e3, e4⟩ := mk_small (x.1 * y.2.1) (x.2.1 * y.1) hd (by omega) (by omega)
  rw [e4]
  exact ⟨rfl, e1⟩
theorem slope_eq {p q : Pt} (h : Seg p q) (s : Bool) (k : Nat) (hk : 300 ≤ k) : impl_calc_slope.f k s p.f0.f0 p.f0.f1 p.f1.f0 p.f1.f1 q.f0.f0 q.f0.f1 q.f1.f0 q.f1.f1 = some ((slT p q).1, (slT p q).2.1, s) := by
  obtain ⟨u1, u2, u3, u4⟩ := co_sub h.cq.2 h.cp.2
  obtain ⟨v1, v2, v3, v4⟩ := co_sub h.cq.1 h.cp.1
  unfold impl_calc_slope.f
  rw [calc_sub h.cq.2.1.1 h.cp.2.1.1 k s hk, kp_val u1, Option.bind_some, calc_sub h.cq.1.1.1 h.cp.1.1.1 k s hk, kp_val v1, Option.bind_some, calc_div u2 v2 k s hk, Option.bind_some]
  have := kp_val (s := s) (seg_slope h).1
  unfold slT at this ⊢
  rw [this]
theorem imSlope_eq {p q : Pt} (h : Seg p q) (k : Nat) (hk : 300 ≤ k) : spec_imSlope.f k p.f0.f0 p.f0.f1 p.f1.f0 p.f1.f1 q.f0.f0 q.f0.f1 q.f1.f0 q.f1.f1 = some ((slT p q).1, (slT p q).2.1) := by
  obtain ⟨u1, u2, u3, u4⟩ := co_sub h.cq.2 h.cp.2
  obtain ⟨v1, v2, v3, v4⟩ := co_sub h.cq.1 h.cp.1
  unfold spec_imSlope.f
  rw [raSub_eq h.cq.2.1.1 h.cp.2.1.1 k hk, Option.bind_some, raSub_eq h.cq.1.1.1 h.cp.1.1.1 k hk, Option.bind_some, raDiv_eq u2 v2 k hk, Option.bind_some]
  rfl
end Go.Proofs.Ytgejkhbehoabdaa.Pu
set_option linter.unusedVariables false
set_option linter.unusedSimpArgs false
namespace Go.Proofs.Ytgejkhbehoabdaa.Pu
open Go.RowKit Go.Proofs.Ytgejkhbehoabdaa.Q Go.Proofs.YtgejkhbehoabdaaW.PrintWords Go.Proofs.YtgejkhbehoabdaaW.PrintLast Go.Proofs.YtgejkhbehoabdaaW.PrintMore
structure Rel (s : Bool) (v m : Tri) : Prop where
  ok : OkR v.1 v.2.1
  bad : v.2.2 = (s || !m.2.2)
  val : m.2.2 = true → v.1 = m.1 ∧ v.2.1 = m.2.1
def Units (l : List Ra) : Prop := ∀ x ∈ l, OkU x.f0 x.f1
instance (l : List Ra) : Decidable (Units l) := by unfold Units; infer_instance
def Pseudo (l : List Ra) : Prop := 1 ≤ l.length ∧ l.length ≤ 20 ∧ Units l
instance (l : List Ra) : Decidable (Pseudo l) := by unfold Pseudo; infer_instance
end Go.Proofs.Ytgejkhbehoabdaa.Pu
set_option linter.unusedVariables false
set_option linter.unusedSimpArgs false
namespace Go.Proofs.Ytgejkhbehoabdaa.Pu
open Go.RowKit Go.Proofs.Ytgejkhbehoabdaa.Q Go.Proofs.YtgejkhbehoabdaaW.PrintWords Go.Proofs.YtgejkhbehoabdaaW.PrintLast Go.Proofs.YtgejkhbehoabdaaW.PrintMore
def slR (f : List Pt) (i : Nat) : Ra := ⟨(slT (np f (i - 1)) (np f i)).1, (slT (np f (i - 1)) (np f i)).2.1⟩
def slFrom (f : List Pt) (d i : Nat) : List Ra := (List.range d).map fun (j : Nat) => slR f (i + j)
theorem slFrom_succ (f : List Pt) (d i : Nat) : slFrom f (d + 1) i = slR f i :: slFrom f d (i + 1) := by
  unfold slFrom
  rw [List.range_succ_eq_map, List.map_cons, List.map_map]
  congr 1
  apply List.map_congr_left
  intro j _
  simp only [Function.comp]
  congr 1
  omega
def slAll (f : List Pt) : List Ra := slFrom f (f.length - 1) 1
theorem slAll_length (f : List Pt) : (slAll f).length = f.length - 1 := by simp [slAll, slFrom]
theorem slR_ok {f : List Pt} (hm : IsMap f) (i : Nat) (h1 : 1 ≤ i) (hi : i < f.length) : OkR (slR f i).f0 (slR f i).f1 := by
  have := (seg_slope (hm.seg (i - 1) (by omega))).2
  rw [show i - 1 + 1 = i by omega] at this
  exact this
theorem slAll_ok {f : List Pt} (hm : IsMap f) : ∀ x ∈ slAll f, OkR x.f0 x.f1 := by
  intro x hx
  obtain ⟨j, hj, rfl⟩ := List.mem_map.1 hx
  have := List.mem_range.1 hj
  exact slR_ok hm (1 + j) (by omega) (by omega)
theorem impl_slopes_l (f : List Pt) (hm : IsMap f) : ∀ (d k i : Nat) (out : List Ra), 1 ≤ i → i + d = f.length → out.length ≤ i → 400 + d < k → impl_slopes.l0 k f out (i : Int) false = some (out ++ slFrom f d i) := by
  have h12 := hm.most
  intro d
  induction d with
  | zero =>
    intro k i out h1 hi ho hk
    obtain ⟨k, rfl⟩ : ∃ m, k = m + 1 := ⟨k - 1, by omega⟩
    simp only [impl_slopes.l0]
    rw [if_neg (by omega)]
    simp [slFrom]
  | succ d ih =>
    intro k i out h1 hi ho hk
    obtain ⟨k, rfl⟩ : ∃ m, k = m + 1 := ⟨k - 1, by omega⟩
    simp only [impl_slopes.l0]
    have hs := hm.seg (i - 1) (by omega)
    rw [show i - 1 + 1 = i by omega] at hs
    rw [wr (_ - 1) (by omega), wr (_ + 1) (by omega), if_pos (by omega), if_pos (by omega), if_pos (by omega), if_pos (by omega), show (i : Int) - 1 = ((i - 1 : Nat) : Int) by omega, show (i : Int) + 1 = ((i + 1 : Nat) : Int) by omega, rd_np, rd_np, slope_eq hs false k (by omega), Option.bind_some, if_pos (by omega), slFrom_succ]
    rw [ih k (i + 1) _ (by omega) (by omega) (by simp; omega) (by omega)]
    simp [slR]
theorem impl_slopes_eq (f : List Pt) (hm : IsMap f) (k : Nat) (hk : 1000 ≤ k) : impl_slopes.f k f = some (slAll f) := by
  unfold impl_slopes.f slAll
  have h2 := hm.two
  have := impl_slopes_l f hm (f.length - 1) k 1 [] (by omega) (by omega) (by simp) (by have := hm.most; omega)
  simpa using this
theorem spec_slopes_l (f : List Pt) (hm : IsMap f) : ∀ (d k i : Nat) (out : List Ra), 1 ≤ i → i + d = f.length → out.length ≤ i → 400 + d < k → spec_imSlopes.l0 k f out (i : Int) = some (out ++ slFrom f d i) := by
  have h12 := hm.most
  intro d
  induction d with
  | zero =>
    intro k i out h1 hi ho hk
    obtain ⟨k, rfl⟩ : ∃ m, k = m + 1 := ⟨k - 1, by omega⟩
    simp only [spec_imSlopes.l0]
    rw [if_neg (by omega)]
    simp [slFrom]
  | succ d ih =>
    intro k i out h1 hi ho hk
    obtain ⟨k, rfl⟩ : ∃ m, k = m + 1 := ⟨k - 1, by omega⟩
    simp only [spec_imSlopes.l0]
    have hs := hm.seg (i - 1) (by omega)
    rw [show i - 1 + 1 = i by omega] at hs
    rw [wr (_ - 1) (by omega), wr (_ + 1) (by omega), if_pos (by omega), if_pos (by omega), if_pos (by omega), if_pos (by omega), show (i : Int) - 1 = ((i - 1 : Nat) : Int) by omega, show (i : Int) + 1 = ((i + 1 : Nat) : Int) by omega, rd_np, rd_np, imSlope_eq hs k (by omega), Option.bind_some, if_pos (by omega), slFrom_succ]
    rw [ih k (i + 1) _ (by omega) (by omega) (by simp; omega) (by omega)]
    simp [slR]
theorem spec_slopes_eq (f : List Pt) (hm : IsMap f) (k : Nat) (hk : 1000 ≤ k) : spec_imSlopes.f k f = some (slAll f) := by
  unfold spec_imSlopes.f slAll
  have h2 := hm.two
  have := spec_slopes_l f hm (f.length - 1) k 1 [] (by omega) (by omega) (by simp) (by have := hm.most; omega)
  simpa using this
theorem same_rat {a b c d : Int} (h1 : OkR a b) (h2 : OkR c d) (h : a * d = c * b) : a = c ∧ b = d := by
  obtain ⟨b1, _, _, _, hg1⟩ := h1
  obtain ⟨d1, _, _, _, hg2⟩ := h2
  have hn : a.natAbs * d.natAbs = c.natAbs * b.natAbs := by rw [← Int.natAbs_mul, ← Int.natAbs_mul, h]
  rw [Int.gcd_eq_natAbs_gcd_natAbs] at hg1 hg2
  have c1 : Nat.Coprime b.natAbs a.natAbs := by unfold Nat.Coprime; rw [Nat.gcd_comm]; exact hg1
  have c2 : Nat.Coprime d.natAbs c.natAbs := by unfold Nat.Coprime; rw [Nat.gcd_comm]; exact hg2
  have e1 : b.natAbs ∣ d.natAbs := c1.dvd_of_dvd_mul_left ⟨c.natAbs, by rw [hn, Nat.mul_comm]⟩
  have e2 : d.natAbs ∣ b.natAbs := c2.dvd_of_dvd_mul_left ⟨a.natAbs, by rw [← hn, Nat.mul_comm]⟩
  have e3 : b.natAbs = d.natAbs := Nat.dvd_antisymm e1 e2
  have e4 : b = d := by omega
  subst e4
  exact ⟨Int.eq_of_mul_eq_mul_right (by omega) h, rfl⟩
def absR (x : Ra) : Ra := ⟨(x.f0.natAbs : Int), x.f1⟩
theorem absR_ok {x : Ra} (h : OkR x.f0 x.f1) : OkR (absR x).f0 (absR x).f1 := by
  obtain ⟨h1, h2, h3, h4, h5⟩ := h
  refine ⟨h1, h2, by show (-1000000000 : Int) ≤ (x.f0.natAbs : Int); omega, by show (x.f0.natAbs : Int) ≤ 1000000000; omega, ?_⟩
  show Int.gcd (x.f0.natAbs : Int) x.f1 = 1
  rw [Int.gcd_eq_natAbs_gcd_natAbs] at h5 ⊢
  simpa using h5
def minR (m s : Ra) : Ra := if s.f0 * m.f1 < m.f0 * s.f1 then s else m
theorem minR_ok {m s : Ra} (h1 : OkR m.f0 m.f1) (h2 : OkR s.f0 s.f1) : OkR (minR m s).f0 (minR m s).f1 := by
  unfold minR
  split
  · exact h2
  · exact h1
theorem ivLess_min {m s : Ra} (h1 : OkR m.f0 m.f1) (h2 : OkR s.f0 s.f1) : spec_ivLess.f m.f0 m.f1 s.f0 s.f1 = some ((minR m s).f0, (minR m s).f1) := by
  unfold spec_ivLess.f minR
  obtain ⟨t, e, ht, _⟩ := raCmp_eq h1.bd h2.bd
  rw [e, Option.bind_some]
  by_cases h : m.f0 * s.f1 < s.f0 * m.f1
  · rw [if_pos (ht.2 h), if_neg (by omega)]
  · rw [if_neg (fun hh => h (ht.1 hh))]
    by_cases h3 : s.f0 * m.f1 < m.f0 * s.f1
    · rw [if_pos h3]
    · rw [if_neg h3]
      obtain ⟨e1, e2⟩ := same_rat h1 h2 (by omega)
      rw [e1, e2]
theorem compare_eq {a b c d : Int} (h1 : Bd a b) (h2 : Bd c d) : ∃ t, impl_compare.f a b c d = some t ∧ (t < 0 ↔ a * d < c * b) := by
  obtain ⟨m1, m2, _⟩ := cross_bd h1 h2
  unfold impl_compare.f
  generalize a * d = p at *
  generalize c * b = q at *
  rw [wr p (by omega), wr q (by omega)]
  by_cases h : p < q
  · rw [if_pos h]; exact ⟨-1, rfl, by omega⟩
  · rw [if_neg h]
    by_cases h3 : p > q
    · rw [if_pos h3]; exact ⟨1, rfl, by omega⟩
    · rw [if_neg h3]; exact ⟨0, rfl, by omega⟩
theorem minFunc_l (l : List Ra) (hl : l.length ≤ 1048576) (hb : ∀ x ∈ l, OkR x.f0 x.f1) : ∀ (d k i : Nat) (m : Ra), OkR m.f0 m.f1 → i + d = l.length → d < k → MinFunc_impl_compare.l0 k l (i : Int) m.f0 m.f1 = some (((l.drop i).foldl minR m).f0, ((l.drop i).foldl minR m).f1) := by
  intro d
  induction d with
  | zero =>
    intro k i m hm hi hk
    obtain ⟨k, rfl⟩ : ∃ m, k = m + 1 := ⟨k - 1, by omega⟩
    simp only [MinFunc_impl_compare.l0]
    rw [if_neg (by omega), List.drop_of_length_le (by omega)]
    rfl
  | succ d ih =>
    intro k i m hm hi hk
    obtain ⟨k, rfl⟩ : ∃ m, k = m + 1 := ⟨k - 1, by omega⟩
    simp only [MinFunc_impl_compare.l0]
    have hx := hb _ (nr_mem l i (by omega))
    obtain ⟨t, e, ht⟩ := compare_eq hx.bd hm.bd
    rw [wr (_ + 1) (by omega), if_pos (by omega), if_pos (by omega), show (i : Int) + 1 = ((i + 1 : Nat) : Int) by omega, rd_nr, e, Option.bind_some, drop_getD l i z47 (by omega), List.foldl_cons]
    have := ih k (i + 1) (minR m (nr l i)) (minR_ok hm hx) (by omega) (by omega)
    by_cases h : (nr l i).f0 * m.f1 < m.f0 * (nr l i).f1
    · have e2 : minR m (nr l i) = nr l i := if_pos h
      rw [if_pos (ht.2 h), show minR m (l.getD i z47) = nr l i from e2]
      rw [e2] at this
      exact this
    · have e2 : minR m (nr l i) = m := if_neg h
      rw [if_neg (fun hh => h (ht.1 hh)), show minR m (l.getD i z47) = m from e2]
      rw [e2] at this
      exact this
theorem minFunc_eq (l : List Ra) (h1 : 1 ≤ l.length) (hl : l.length ≤ 1048576) (hb : ∀ x ∈ l, OkR x.f0 x.f1) (k : Nat) (hk : l.length < k) : MinFunc_impl_compare.f k l = some (((l.drop 1).foldl minR (nr l 0)).f0, ((l.drop 1).foldl minR (nr l 0)).f1) := by
  unfold MinFunc_impl_compare.f
  rw [if_neg (by omega), if_pos (by omega), rd_nr0]
  exact minFunc_l l hl hb (l.length - 1) k 1 (nr l 0) (hb _ (nr_mem l 0 (by omega))) (by omega) (by omega)
def expR (f : List Pt) : Ra := (((slAll f).map absR).drop 1).foldl minR (nr ((slAll f).map absR) 0)
theorem absAll_ok {f : List Pt} (hm : IsMap f) : ∀ x ∈ (slAll f).map absR, OkR x.f0 x.f1 := by
  intro x hx
  obtain ⟨y, hy, rfl⟩ := List.mem_map.1 hx
  exact absR_ok (slAll_ok hm y hy)
theorem impl_exp_l (l : List Ra) (hl : l.length ≤ 1048576) (hb : ∀ x ∈ l, OkR x.f0 x.f1) : ∀ (d k i : Nat) (out : List Ra), i + d = l.length → out.length ≤ i → d < k → impl_expansion.l0 (k + 1) out l (l.length : Int) (i : Int) = (MinFunc_impl_compare.f (k - d) (out ++ (l.drop i).map absR)).bind fun b => some (b.1, b.2) := by
  intro d
  induction d with
  | zero =>
    intro k i out hi ho hk
    simp only [impl_expansion.l0]
    rw [if_neg (by omega), List.drop_of_length_le (by omega)]
    simp
  | succ d ih =>
    intro k i out hi ho hk
    obtain ⟨k, rfl⟩ : ∃ m, k = m + 1 := ⟨k - 1, by omega⟩
    rw [impl_expansion.l0]
    have hx := hb _ (nr_mem l i (by omega))
    have hbd := hx.bd.1
    rw [wr (_ + 1) (by omega), if_pos (by omega), if_pos (by omega), if_pos (by omega), show (i : Int) + 1 = ((i + 1 : Nat) : Int) by omega, rd_nr, abs_eq _ (by omega), Option.bind_some, if_pos (by omega), ih k (i + 1) _ (by omega) (by simp; omega) (by omega),
      drop_getD l i z47 (by omega), Nat.add_sub_add_right]
    simp [absR, nr]
theorem impl_exp_eq (f : List Pt) (hm : IsMap f) (k : Nat) (hk : 2000 ≤ k) : impl_expansion.f k f = some ((expR f).f0, (expR f).f1) := by
  unfold impl_expansion.f
  obtain ⟨k, rfl⟩ : ∃ m, k = m + 1 := ⟨k - 1, by omega⟩
  have h2 := hm.two
  have h12 := hm.most
  have hl := slAll_length f
  rw [impl_slopes_eq f hm (k + 1) (by omega), Option.bind_some]
  have := impl_exp_l (slAll f) (by omega) (slAll_ok hm) (slAll f).length k 0 [] (by omega) (by simp) (by omega)
  rw [show ((0 : Nat) : Int) = 0 from rfl] at this
  rw [this, List.drop_zero, List.nil_append, minFunc_eq _ (by rw [List.length_map]; omega) (by rw [List.length_map]; omega) (absAll_ok hm) _ (by rw [List.length_map]; omega)]
  rfl
theorem spec_exp_l (l : List Ra) (hl : l.length ≤ 1048576) (hb : ∀ x ∈ l, OkR x.f0 x.f1) : ∀ (d k i : Nat) (m : Ra), OkR m.f0 m.f1 → i + d = l.length → d < k → spec_sdExpansion.l0 k l (l.length : Int) (i : Int) m.f0 m.f1 = some ((((l.drop i).map absR).foldl minR m).f0, (((l.drop i).map absR).foldl minR m).f1) := by
  intro d
  induction d with
  | zero =>
    intro k i m hm hi hk
    obtain ⟨k, rfl⟩ : ∃ m, k = m + 1 := ⟨k - 1, by omega⟩
    simp only [spec_sdExpansion.l0]
    rw [if_neg (by omega), List.drop_of_length_le (by omega)]
    rfl
  | succ d ih =>
    intro k i m hm hi hk
    obtain ⟨k, rfl⟩ : ∃ m, k = m + 1 := ⟨k - 1, by omega⟩
    simp only [spec_sdExpansion.l0]
    have hx := hb _ (nr_mem l i (by omega))
    have hbd := hx.bd.1
    rw [wr (_ + 1) (by omega), if_pos (by omega), if_pos (by omega), if_pos (by omega), show (i : Int) + 1 = ((i + 1 : Nat) : Int) by omega, rd_nr, l1Abs_eq _ (by omega), Option.bind_some]
    have ei := ivLess_min hm (absR_ok hx)
    rw [show ((nr l i).f0.natAbs : Int) = (absR (nr l i)).f0 from rfl, show (nr l i).f1 = (absR (nr l i)).f1 from rfl, ei, Option.bind_some]
    rw [ih k (i + 1) (minR m (absR (nr l i))) (minR_ok hm (absR_ok hx)) (by omega) (by omega), drop_getD l i z47 (by omega), List.map_cons, List.foldl_cons]
    rfl
theorem spec_exp_eq (f : List Pt) (hm : IsMap f) (k : Nat) (hk : 2000 ≤ k) : spec_sdExpansion.f k f = some ((expR f).f0, (expR f).f1) := by
  unfold spec_sdExpansion.f expR
  have h2 := hm.two
  have h12 := hm.most
  have hl := slAll_length f
  rw [spec_slopes_eq f hm k (by omega), Option.bind_some, if_pos (by omega), rd_nr0]
  have hx := slAll_ok hm _ (nr_mem (slAll f) 0 (by omega))
  have hbd := hx.bd.1
  rw [l1Abs_eq _ (by omega), Option.bind_some]
  have := spec_exp_l (slAll f) (by omega) (slAll_ok hm) (slAll f).length k 0 (absR (nr (slAll f) 0)) (absR_ok hx) (by omega) (by omega)
  rw [show ((0 : Nat) : Int) = 0 from rfl] at this
  rw [show ((nr (slAll f) 0).f0.natAbs : Int) = (absR (nr (slAll f) 0)).f0 from rfl, show (nr (slAll f) 0).f1 = (absR (nr (slAll f) 0)).f1 from rfl, this]
  rw [List.drop_zero]
  have e0 : slAll f = nr (slAll f) 0 :: (slAll f).drop 1 := by
    have := drop_getD (slAll f) 0 z47 (by omega)
    rw [List.drop_zero] at this
    exact this
  have em : minR (absR (nr (slAll f) 0)) (absR (nr (slAll f) 0)) = absR (nr (slAll f) 0) := by unfold minR; split <;> rfl
  have e1 : nr ((slAll f).map absR) 0 = absR (nr (slAll f) 0) := by
    rw [e0]; rfl
  rw [e1, ← List.map_drop]
  conv => lhs; rw [e0]
  rw [List.map_cons, List.foldl_cons]
  have e2 : nr (nr (slAll f) 0 :: (slAll f).drop 1) 0 = nr (slAll f) 0 := rfl
  rw [e2, em]
end Go.Proofs.Ytgejkhbehoabdaa.Pu
set_option linter.unusedVariables false
set_option linter.unusedSimpArgs false
namespace Go.Proofs.Ytgejkhbehoabdaa.Pure
open Go.RowKit Go.Proofs.Ytgejkhbehoabdaa.Q Go.Proofs.Ytgejkhbehoabdaa.Pu Go.Proofs.YtgejkhbehoabdaaW.PrintWords Go.Proofs.YtgejkhbehoabdaaW.PrintLast Go.Proofs.YtgejkhbehoabdaaW.PrintMore
noncomputable def exR (f : List Pt) : Tri := if mapB f = true then ((expR f).f0, (expR f).f1, true) else (0, 0, false)
theorem impl_eq (f : List Pt) (hf : f.length ≤ 1048576) (k : Nat) (hk : 3000 ≤ k) : impl_ExpansionOf.f k f = some (exR f) := by
  unfold impl_ExpansionOf.f exR
  rw [isMapB f hf k (by omega), Option.bind_some]
  cases h : mapB f with
  | true => rw [if_pos rfl, if_pos rfl, impl_exp_eq f ((mapB_iff f).1 h) k (by omega)]; rfl
  | false => rw [if_neg (by decide), if_neg (by decide)]
theorem spec_eq (f : List Pt) (hf : f.length ≤ 1048576) (k : Nat) (hk : 3000 ≤ k) : spec_ExpansionOf.f k f = some (exR f) := by
  unfold spec_ExpansionOf.f exR
  rw [imGoodB f hf k (by omega), Option.bind_some]
  cases h : mapB f with
  | true => rw [if_pos rfl, if_pos rfl, spec_exp_eq f ((mapB_iff f).1 h) k (by omega)]; rfl
  | false => rw [if_neg (by decide), if_neg (by decide)]
theorem FnExactExpansionOf : laws_FnExactExpansionOf.Pure := by
  intro l0 _ _
  refine ⟨4000005, ?_⟩
  unfold laws_FnExactExpansionOf.f laws_szPointS.f
  have hm0 : (maxLen : Nat) ≤ 9223372036854775807 := by decide
  by_cases hb : (wrap64 (1048576 - (l0.length : Int))) < 0
  · rw [if_pos hb]; rfl
  · rw [if_neg hb]
    have hl0 : l0.length ≤ 1048576 := by rw [wr _ (by omega)] at hb; omega
    simp only [Option.bind_some]
    rw [if_neg hb, toPointS l0 hl0 _ (by omega)]
    simp only [Option.bind_some]
    have hf : (l0.map cvPoint).length ≤ 1048576 := by simpa using hl0
    generalize hF : l0.map cvPoint = F at hf
    rw [spec_eq F hf _ (by omega), impl_eq F hf _ (by omega)]
    generalize exR F = v
    simp only [Option.bind_some]
    rw [eqRat_self ⟨v.1, v.2.1⟩]
    simp only [Option.bind_some, if_true, bne_self_eq_false, laws_FnExactExpansionOf.j0]
    rw [if_neg (by decide), toPointS l0 hl0 _ (by omega), hF]
    simp only [Option.bind_some]
    rw [eqPointS_self F (by omega) _ (by omega)]
    simp only [Option.bind_some, if_true]
end Go.Proofs.Ytgejkhbehoabdaa.Pure

/- All that the statement FnExactWorstJump rests on, part 5: the walks of the functions that it reaches, and the plain laws of what they compute. -/
import Derived.Test.YtlggehdfigkliaaKFnExactWorstJump4
namespace Go.Proofs.Ytlggehdfigkliaa.Q
open Go.RowKit Go.Proofs.YtlggehdfigkliaaW.PrintWords Go.Proofs.YtlggehdfigkliaaW.PrintLast Go.Proofs.YtlggehdfigkliaaW.PrintMore
attribute [local go_sem] max2_int min2_int max_two min_two max_three min_three max_four min_four   -- for this text's walks alone
set_option linter.unusedVariables false
set_option linter.unusedSimpArgs false
def laws_eqPointS.l0 : Nat → List (S57) → List (S57) → Int → Option (Bool)
 | 0, _, _, _ => none
 | k + 1, x0, x1, x5 => if x5 < (x0.length : Int) then (if 0 ≤ x5 then (if x5 < (x1.length : Int) then ((laws_eqPoint.f ((rd_T57 x0 x5).f0.f0) ((rd_T57 x0 x5).f0.f1) ((rd_T57 x0 x5).f1.f0) ((rd_T57 x0 x5).f1.f1) ((rd_T57 x1 x5).f0.f0) ((rd_T57 x1 x5).f0.f1) ((rd_T57 x1 x5).f1.f0) ((rd_T57 x1 x5).f1.f1)).bind fun tA => (if tA = true then (laws_eqPointS.l0 k x0 x1 (wrap64 (x5 + 1))) else (some false))) else (none)) else (none)) else (some true)
def laws_eqPointS.f (k : Nat) (l0 : List (S57)) (l1 : List (S57)) : Option (Bool) := if (l0.length : Int) = (l1.length : Int) then (laws_eqPointS.l0 k l0 l1 0) else (some false)
def laws_eqPointS.T6 : Bool × List (List Nat × List Nat) := (true, [([], []), ([], []), ([0, 1], [0, 1]), ([2], [2]), ([], []), ([], []), ([4, 5], [4, 5]), ([6], [6]), ([3, 7], [3, 7]), ([8], [8])])
def laws_eqPointS.B6 : List Nat := [0, 0, 3, 7, 0, 0, 48, 112, 255, 511]
theorem laws_eqPointS.tab6 : rtab .any (opsOf Try.f15 6) = laws_eqPointS.T6 := by kernel_rfl
theorem laws_eqPointS.bits6 : waitsOk laws_eqPointS.T6.2 laws_eqPointS.B6 = true := by kernel_rfl
set_option maxHeartbeats 8000000 in
set_option maxRecDepth 100000 in
theorem laws_eqPointS.calls (k : Nat) (A0 : Option Addr) (c0 : Nat) (l0 : List (S57)) (A1 : Option Addr) (c1 : Nat) (l1 : List (S57)) (r : Bool) (w : World) (hr0 : Kd.C k57 w A0 l0.length l0) (hc0 : l0.length ≤ c0) (hr1 : Kd.C k57 w A1 l1.length l1) (hc1 : l1.length ≤ c1) (h : laws_eqPointS.f k l0 l1 = some r) :
  Calls Try.prog 15 #[.slice A0 l0.length c0, .slice A1 l1.length c1] w fun e w' => e = .returned (.bool r) ∧ Below w.heap.size w w' := by
 have hu57 := Try.underlying57; have HR0 := Aside0.mk hr0; have HC0 := Aside0.mk hc0; clear hr0 hc0; have HR1 := Aside0.mk hr1; have HC1 := Aside0.mk hc1; clear hr1 hc1; have HB := Aside0.mk (Below.refl w.heap.size w); have H : (if (l0.length : Int) = (l1.length : Int) then (laws_eqPointS.l0 k l0 l1 0) else (some false)) = some r := h; clear h; by_cases c3 : (l0.length : Int) = (l1.length : Int)
 ·rw [if_pos c3] at H; have c3b0 : ((l0.length : Int) == (l1.length : Int)) = true := beq_iff_eq.mpr c3; have c3b1 : ((l0.length : Int) != (l1.length : Int)) = false := bne_eq_false_iff_eq.mpr c3; have c3b2 : (l0.length == l1.length) = true := by first | simpa using c3 | (simp at c3 ⊢; omega)
  clear c3; have H' := Aside0.mk H; clear H; go_enter Try.func15, Try.ntmps15
  go_wp2
  go_loopg [5] k (fun kq v5 w' => ∃ (x5_1 : Int), v5 = .int .i64 x5_1 ∧ Aside0 (laws_eqPointS.l0 kq l0 l1 x5_1 = some r) ∧ Aside0 (kq ≤ k) ∧ Aside0 (Below w.heap.size w w'))
  case atStart => exact ⟨(0), zz241, H', ⟨Nat.le_refl _⟩, ⟨by repeat (first | (with_reducible first | exact HB.out | apply below_alloc | apply pw_below_drewN | apply below_drew1) | exact HB.out)⟩⟩
  case round =>
   clear H'; try clear c1
   try clear p2
   try clear c3
   try clear c3b0
   try clear c3b1
   try clear c3b2
   obtain ⟨x5_1, rfl, HA, HK1, HB⟩ := hrel; cases gk with
   | zero => exact absurd HA.out (by simp [laws_eqPointS.l0])
   | succ k1 =>
    have H := HA.out; clear HA; simp only [laws_eqPointS.l0] at H; by_cases c4 : x5_1 < (l0.length : Int)
    ·rw [if_pos c4] at H; have c4b0 : decide (x5_1 < (l0.length : Int)) = true := decide_eq_true c4; clear c4; by_cases c5 : 0 ≤ x5_1
     ·rw [if_pos c5] at H; have c5b0 : decide (0 ≤ x5_1) = true := decide_eq_true c5; clear c5; by_cases c6 : x5_1 < (l1.length : Int)
      ·rw [if_pos c6] at H; have c6b0 : decide (x5_1 < (l1.length : Int)) = true := decide_eq_true c6; clear c6; replace H := Option.bind_eq_some_iff.mp H; obtain ⟨tA, A70, H⟩ := H; replace H : (if tA = true then (laws_eqPointS.l0 k1 l0 l1 (wrap64 (x5_1 + 1))) else (some false)) = some r := H; have A7 := Aside0.mk A70; clear A70; by_cases c8 : tA = true
       ·subst c8; have H1 : (laws_eqPointS.l0 k1 l0 l1 (wrap64 (x5_1 + 1))) = some r := by rw [if_pos rfl] at H; exact H
        clear H; have H := H1; clear H1; have H' := Aside0.mk H; clear H; try go_wp2
        replace HB := Aside0.mk (below_drew1 HB.out); have pB : 0 ≤ (x5_1 : Int) := of_decide_eq_true zz240; have qB : x5_1 < (l0.length : Int) := of_decide_eq_true zz240; obtain ⟨adB, eB, hxB_0, hxB_1, hxB_2, hxB_3⟩ := at_T57 HR0.out x5_1 pB qB; have hwB_3 := hxB_3; have hwB_2 := hxB_2; have hwB_1 := hxB_1; have hwB_0 := hxB_0; cases eB
        replace hxB_0 := (HB.out.cell (World.block_lt_of_cell? w _ hxB_0)).trans hxB_0; replace hxB_1 := (HB.out.cell (World.block_lt_of_cell? w _ hxB_1)).trans hxB_1; replace hxB_2 := (HB.out.cell (World.block_lt_of_cell? w _ hxB_2)).trans hxB_2; replace hxB_3 := (HB.out.cell (World.block_lt_of_cell? w _ hxB_3)).trans hxB_3; replace pB := eq_true pB; replace qB := eq_true qB; have pC : 0 ≤ (x5_1 : Int) := of_decide_eq_true zz240; have qC : x5_1 < (l1.length : Int) := of_decide_eq_true zz240; obtain ⟨adC, eC, hxC_0, hxC_1, hxC_2, hxC_3⟩ := at_T57 HR1.out x5_1 pC qC; have hwC_3 := hxC_3; have hwC_2 := hxC_2; have hwC_1 := hxC_1; have hwC_0 := hxC_0; cases eC
        replace hxC_0 := (HB.out.cell (World.block_lt_of_cell? w _ hxC_0)).trans hxC_0; replace hxC_1 := (HB.out.cell (World.block_lt_of_cell? w _ hxC_1)).trans hxC_1; replace hxC_2 := (HB.out.cell (World.block_lt_of_cell? w _ hxC_2)).trans hxC_2; replace hxC_3 := (HB.out.cell (World.block_lt_of_cell? w _ hxC_3)).trans hxC_3; replace pC := eq_true pC; replace qC := eq_true qC; refine start_ (n := 10) (S := fun w' => w'.cell? (adB.add ((x5_1).toNat * 4)) = some (.int .i64 ((rd_T57 l0 x5_1).f0.f0)) ∧ w'.cell? ⟨(adB.add ((x5_1).toNat * 4)).block, (adB.add ((x5_1).toNat * 4)).off + 1, none⟩ = some (.int .i64 ((rd_T57 l0 x5_1).f0.f1)) ∧ w'.cell? ⟨(adB.add ((x5_1).toNat * 4)).block, (adB.add ((x5_1).toNat * 4)).off + 2, none⟩ = some (.int .i64 ((rd_T57 l0 x5_1).f1.f0)) ∧ w'.cell? ⟨(adB.add ((x5_1).toNat * 4)).block, (adB.add ((x5_1).toNat * 4)).off + 3, none⟩ = some (.int .i64 ((rd_T57 l0 x5_1).f1.f1)) ∧ w'.cell? (adC.add ((x5_1).toNat * 4)) = some (.int .i64 ((rd_T57 l1 x5_1).f0.f0)) ∧ w'.cell? ⟨(adC.add ((x5_1).toNat * 4)).block, (adC.add ((x5_1).toNat * 4)).off + 1, none⟩ = some (.int .i64 ((rd_T57 l1 x5_1).f0.f1)) ∧ w'.cell? ⟨(adC.add ((x5_1).toNat * 4)).block, (adC.add ((x5_1).toNat * 4)).off + 2, none⟩ = some (.int .i64 ((rd_T57 l1 x5_1).f1.f0)) ∧ w'.cell? ⟨(adC.add ((x5_1).toNat * 4)).block, (adC.add ((x5_1).toNat * 4)).off + 3, none⟩ = some (.int .i64 ((rd_T57 l1 x5_1).f1.f1))) (ds := []) #[fF, fF, fF, fF, fF, fF, fF, fF, fF, fF] (by kernel_rfl) rfl rfl ⟨((HB.out.cell (World.block_lt_of_cell? w _ hwB_0)).trans hwB_0), ((HB.out.cell (World.block_lt_of_cell? w _ hwB_1)).trans hwB_1), ((HB.out.cell (World.block_lt_of_cell? w _ hwB_2)).trans hwB_2), ((HB.out.cell (World.block_lt_of_cell? w _ hwB_3)).trans hwB_3), ((HB.out.cell (World.block_lt_of_cell? w _ hwC_0)).trans hwC_0), ((HB.out.cell (World.block_lt_of_cell? w _ hwC_1)).trans hwC_1), ((HB.out.cell (World.block_lt_of_cell? w _ hwC_2)).trans hwC_2), ((HB.out.cell (World.block_lt_of_cell? w _ hwC_3)).trans hwC_3)⟩ (fun hHeld => ?_); refine with_tabW laws_eqPointS.tab6 laws_eqPointS.bits6 (fun HT_ HW_ => ?_); generalize wr.drew = w9 at HB hxB_0 hxB_1 hxB_2 hxB_3 hxC_0 hxC_1 hxC_2 hxC_3 hHeld ⊢; refine pureA 0 (some 17) #[tT, fF, fF, fF, fF, fF, fF, fF, fF, fF] HT_ ?_; refine pureA 1 (some 18) #[tT, tT, fF, fF, fF, fF, fF, fF, fF, fF] HT_ ?_; refine pureA 2 (some 19) #[tT, tT, tT, fF, fF, fF, fF, fF, fF, fF] HT_ ?_; refine pureA 4 (some 21) #[tT, tT, tT, fF, tT, fF, fF, fF, fF, fF] HT_ ?_; refine pureA 5 (some 22) #[tT, tT, tT, fF, tT, tT, fF, fF, fF, fF] HT_ ?_; refine pureA 6 (some 23) #[tT, tT, tT, fF, tT, tT, tT, fF, fF, fF] HT_ ?_; refine takeA0 3 (some 20) #[tT, tT, tT, tT, tT, tT, tT, fF, fF, fF] HT_ HW_ hHeld ?_; refine takeA0 7 (some 24) #[tT, tT, tT, tT, tT, tT, tT, tT, fF, fF] HT_ HW_ hHeld ?_; refine one_ (i := 8) (N := some 25) #[tT, tT, tT, tT, tT, tT, tT, tT, tT, fF] rfl rfl (one_of HT_.out (by kernel_rfl)) (by decide) (fun K hK => ?_); refine goes_ Try.func38 (by kernel_rfl) rfl #[.agg #[.int .i64 ((rd_T57 l0 x5_1).f0.f0), .int .i64 ((rd_T57 l0 x5_1).f0.f1), .int .i64 ((rd_T57 l0 x5_1).f1.f0), .int .i64 ((rd_T57 l0 x5_1).f1.f1)], .agg #[.int .i64 ((rd_T57 l1 x5_1).f0.f0), .int .i64 ((rd_T57 l1 x5_1).f0.f1), .int .i64 ((rd_T57 l1 x5_1).f1.f0), .int .i64 ((rd_T57 l1 x5_1).f1.f1)]] (by rfl) rfl rfl zz165 ?_; with_reducible refine (laws_eqPoint.calls ((rd_T57 l0 x5_1).f0.f0) ((rd_T57 l0 x5_1).f0.f1) ((rd_T57 l0 x5_1).f1.f0) ((rd_T57 l0 x5_1).f1.f1) ((rd_T57 l1 x5_1).f0.f0) ((rd_T57 l1 x5_1).f0.f1) ((rd_T57 l1 x5_1).f1.f0) ((rd_T57 l1 x5_1).f1.f1) true _ A7.out).mono ?_
        rintro e w10 ⟨rfl, hb⟩; refine ⟨_, rfl, ?_⟩; replace HB := Aside0.mk (below_step zz166 hb); (try clear hb); refine hK.out _ _ ⟨((HB.out.cell (World.block_lt_of_cell? w _ hwB_0)).trans hwB_0), ((HB.out.cell (World.block_lt_of_cell? w _ hwB_1)).trans hwB_1), ((HB.out.cell (World.block_lt_of_cell? w _ hwB_2)).trans hwB_2), ((HB.out.cell (World.block_lt_of_cell? w _ hwB_3)).trans hwB_3), ((HB.out.cell (World.block_lt_of_cell? w _ hwC_0)).trans hwC_0), ((HB.out.cell (World.block_lt_of_cell? w _ hwC_1)).trans hwC_1), ((HB.out.cell (World.block_lt_of_cell? w _ hwC_2)).trans hwC_2), ((HB.out.cell (World.block_lt_of_cell? w _ hwC_3)).trans hwC_3)⟩ (fun hHeld => ?_); clear hK K; refine normA (some 25) ?_; refine pureA 9 (some 26) #[tT, tT, tT, tT, tT, tT, tT, tT, tT, tT] HT_ ?_; refine done_ (done_of HT_.out (by kernel_rfl)) ?_; try go_wp2
        go_roundg k1
        case measure => have := HK1.out; omega
        case rel => exact ⟨(wrap64 (x5_1 + 1)), zz241, H', ⟨by have := HK1.out; omega⟩, ⟨by repeat (first | (with_reducible first | exact HB.out | apply below_alloc | apply pw_below_drewN | apply below_drew1) | exact HB.out)⟩⟩
       ·replace c8 := Bool.eq_false_iff.mpr c8; subst c8; have H1 : (some false) = some r := by rw [if_neg (show ¬ (false = true) by decide)] at H; exact H
        clear H; have H := H1; clear H1; obtain rfl := Option.some.inj H; try go_wp2
        replace HB := Aside0.mk (below_drew1 HB.out); have pB : 0 ≤ (x5_1 : Int) := of_decide_eq_true zz240; have qB : x5_1 < (l0.length : Int) := of_decide_eq_true zz240; obtain ⟨adB, eB, hxB_0, hxB_1, hxB_2, hxB_3⟩ := at_T57 HR0.out x5_1 pB qB; have hwB_3 := hxB_3; have hwB_2 := hxB_2; have hwB_1 := hxB_1; have hwB_0 := hxB_0; cases eB
        replace hxB_0 := (HB.out.cell (World.block_lt_of_cell? w _ hxB_0)).trans hxB_0; replace hxB_1 := (HB.out.cell (World.block_lt_of_cell? w _ hxB_1)).trans hxB_1; replace hxB_2 := (HB.out.cell (World.block_lt_of_cell? w _ hxB_2)).trans hxB_2; replace hxB_3 := (HB.out.cell (World.block_lt_of_cell? w _ hxB_3)).trans hxB_3; replace pB := eq_true pB; replace qB := eq_true qB; have pC : 0 ≤ (x5_1 : Int) := of_decide_eq_true zz240; have qC : x5_1 < (l1.length : Int) := of_decide_eq_true zz240; obtain ⟨adC, eC, hxC_0, hxC_1, hxC_2, hxC_3⟩ := at_T57 HR1.out x5_1 pC qC; have hwC_3 := hxC_3; have hwC_2 := hxC_2; have hwC_1 := hxC_1; have hwC_0 := hxC_0; cases eC
        replace hxC_0 := (HB.out.cell (World.block_lt_of_cell? w _ hxC_0)).trans hxC_0; replace hxC_1 := (HB.out.cell (World.block_lt_of_cell? w _ hxC_1)).trans hxC_1; replace hxC_2 := (HB.out.cell (World.block_lt_of_cell? w _ hxC_2)).trans hxC_2; replace hxC_3 := (HB.out.cell (World.block_lt_of_cell? w _ hxC_3)).trans hxC_3; replace pC := eq_true pC; replace qC := eq_true qC; refine start_ (n := 10) (S := fun w' => w'.cell? (adB.add ((x5_1).toNat * 4)) = some (.int .i64 ((rd_T57 l0 x5_1).f0.f0)) ∧ w'.cell? ⟨(adB.add ((x5_1).toNat * 4)).block, (adB.add ((x5_1).toNat * 4)).off + 1, none⟩ = some (.int .i64 ((rd_T57 l0 x5_1).f0.f1)) ∧ w'.cell? ⟨(adB.add ((x5_1).toNat * 4)).block, (adB.add ((x5_1).toNat * 4)).off + 2, none⟩ = some (.int .i64 ((rd_T57 l0 x5_1).f1.f0)) ∧ w'.cell? ⟨(adB.add ((x5_1).toNat * 4)).block, (adB.add ((x5_1).toNat * 4)).off + 3, none⟩ = some (.int .i64 ((rd_T57 l0 x5_1).f1.f1)) ∧ w'.cell? (adC.add ((x5_1).toNat * 4)) = some (.int .i64 ((rd_T57 l1 x5_1).f0.f0)) ∧ w'.cell? ⟨(adC.add ((x5_1).toNat * 4)).block, (adC.add ((x5_1).toNat * 4)).off + 1, none⟩ = some (.int .i64 ((rd_T57 l1 x5_1).f0.f1)) ∧ w'.cell? ⟨(adC.add ((x5_1).toNat * 4)).block, (adC.add ((x5_1).toNat * 4)).off + 2, none⟩ = some (.int .i64 ((rd_T57 l1 x5_1).f1.f0)) ∧ w'.cell? ⟨(adC.add ((x5_1).toNat * 4)).block, (adC.add ((x5_1).toNat * 4)).off + 3, none⟩ = some (.int .i64 ((rd_T57 l1 x5_1).f1.f1))) (ds := []) #[fF, fF, fF, fF, fF, fF, fF, fF, fF, fF] (by kernel_rfl) rfl rfl ⟨((HB.out.cell (World.block_lt_of_cell? w _ hwB_0)).trans hwB_0), ((HB.out.cell (World.block_lt_of_cell? w _ hwB_1)).trans hwB_1), ((HB.out.cell (World.block_lt_of_cell? w _ hwB_2)).trans hwB_2), ((HB.out.cell (World.block_lt_of_cell? w _ hwB_3)).trans hwB_3), ((HB.out.cell (World.block_lt_of_cell? w _ hwC_0)).trans hwC_0), ((HB.out.cell (World.block_lt_of_cell? w _ hwC_1)).trans hwC_1), ((HB.out.cell (World.block_lt_of_cell? w _ hwC_2)).trans hwC_2), ((HB.out.cell (World.block_lt_of_cell? w _ hwC_3)).trans hwC_3)⟩ (fun hHeld => ?_); refine with_tabW laws_eqPointS.tab6 laws_eqPointS.bits6 (fun HT_ HW_ => ?_); generalize wr.drew = w11 at HB hxB_0 hxB_1 hxB_2 hxB_3 hxC_0 hxC_1 hxC_2 hxC_3 hHeld ⊢; refine pureA 0 (some 17) #[tT, fF, fF, fF, fF, fF, fF, fF, fF, fF] HT_ ?_; refine pureA 1 (some 18) #[tT, tT, fF, fF, fF, fF, fF, fF, fF, fF] HT_ ?_; refine pureA 2 (some 19) #[tT, tT, tT, fF, fF, fF, fF, fF, fF, fF] HT_ ?_; refine pureA 4 (some 21) #[tT, tT, tT, fF, tT, fF, fF, fF, fF, fF] HT_ ?_; refine pureA 5 (some 22) #[tT, tT, tT, fF, tT, tT, fF, fF, fF, fF] HT_ ?_; refine pureA 6 (some 23) #[tT, tT, tT, fF, tT, tT, tT, fF, fF, fF] HT_ ?_; refine takeA0 3 (some 20) #[tT, tT, tT, tT, tT, tT, tT, fF, fF, fF] HT_ HW_ hHeld ?_; refine takeA0 7 (some 24) #[tT, tT, tT, tT, tT, tT, tT, tT, fF, fF] HT_ HW_ hHeld ?_; refine one_ (i := 8) (N := some 25) #[tT, tT, tT, tT, tT, tT, tT, tT, tT, fF] rfl rfl (one_of HT_.out (by kernel_rfl)) (by decide) (fun K hK => ?_); refine goes_ Try.func38 (by kernel_rfl) rfl #[.agg #[.int .i64 ((rd_T57 l0 x5_1).f0.f0), .int .i64 ((rd_T57 l0 x5_1).f0.f1), .int .i64 ((rd_T57 l0 x5_1).f1.f0), .int .i64 ((rd_T57 l0 x5_1).f1.f1)], .agg #[.int .i64 ((rd_T57 l1 x5_1).f0.f0), .int .i64 ((rd_T57 l1 x5_1).f0.f1), .int .i64 ((rd_T57 l1 x5_1).f1.f0), .int .i64 ((rd_T57 l1 x5_1).f1.f1)]] (by rfl) rfl rfl zz165 ?_; with_reducible refine (laws_eqPoint.calls ((rd_T57 l0 x5_1).f0.f0) ((rd_T57 l0 x5_1).f0.f1) ((rd_T57 l0 x5_1).f1.f0) ((rd_T57 l0 x5_1).f1.f1) ((rd_T57 l1 x5_1).f0.f0) ((rd_T57 l1 x5_1).f0.f1) ((rd_T57 l1 x5_1).f1.f0) ((rd_T57 l1 x5_1).f1.f1) false _ A7.out).mono ?_
        rintro e w12 ⟨rfl, hb⟩; refine ⟨_, rfl, ?_⟩; replace HB := Aside0.mk (below_step zz166 hb); (try clear hb); refine hK.out _ _ ⟨((HB.out.cell (World.block_lt_of_cell? w _ hwB_0)).trans hwB_0), ((HB.out.cell (World.block_lt_of_cell? w _ hwB_1)).trans hwB_1), ((HB.out.cell (World.block_lt_of_cell? w _ hwB_2)).trans hwB_2), ((HB.out.cell (World.block_lt_of_cell? w _ hwB_3)).trans hwB_3), ((HB.out.cell (World.block_lt_of_cell? w _ hwC_0)).trans hwC_0), ((HB.out.cell (World.block_lt_of_cell? w _ hwC_1)).trans hwC_1), ((HB.out.cell (World.block_lt_of_cell? w _ hwC_2)).trans hwC_2), ((HB.out.cell (World.block_lt_of_cell? w _ hwC_3)).trans hwC_3)⟩ (fun hHeld => ?_); clear hK K; refine normA (some 25) ?_; refine pureA 9 (some 26) #[tT, tT, tT, tT, tT, tT, tT, tT, tT, tT] HT_ ?_; refine done_ (done_of HT_.out (by kernel_rfl)) ?_; try go_wp2
        go_ret
        exact ⟨by first | rfl | (simp [errW_none, errW_some] <;> rfl) | (simp [*, errW_none, errW_some] <;> rfl), by repeat (first | (with_reducible first | exact HB.out | apply below_alloc | apply pw_below_drewN | apply below_drew1) | exact HB.out)⟩
      ·rw [if_neg c6] at H; exact absurd H (by simp)
     ·rw [if_neg c5] at H; exact absurd H (by simp)
    ·rw [if_neg c4] at H; have c4b0 : decide (x5_1 < (l0.length : Int)) = false := decide_eq_false c4; clear c4; obtain rfl := Option.some.inj H; go_wp2
     go_ret
     exact ⟨by first | rfl | (simp [errW_none, errW_some] <;> rfl) | (simp [*, errW_none, errW_some] <;> rfl), by repeat (first | (with_reducible first | exact HB.out | apply below_alloc | apply pw_below_drewN | apply below_drew1) | exact HB.out)⟩
 ·rw [if_neg c3] at H; have c3b0 : ((l0.length : Int) == (l1.length : Int)) = false := beq_eq_false_iff_ne.mpr c3; have c3b1 : ((l0.length : Int) != (l1.length : Int)) = true := bne_iff_ne.mpr c3; have c3b2 : (l0.length == l1.length) = false := by first | simpa using c3 | (simp at c3 ⊢; omega)
  obtain rfl := Option.some.inj H; go_enter Try.func15, Try.ntmps15
  go_wp2
  go_ret
  exact ⟨by first | rfl | (simp [errW_none, errW_some] <;> rfl) | (simp [*, errW_none, errW_some] <;> rfl), by repeat (first | (with_reducible first | exact HB.out | apply below_alloc | apply pw_below_drewN | apply below_drew1) | exact HB.out)⟩
end Go.Proofs.Ytlggehdfigkliaa.Q
namespace Go.Proofs.Ytlggehdfigkliaa.Q
open Go.RowKit Go.Proofs.YtlggehdfigkliaaW.PrintWords Go.Proofs.YtlggehdfigkliaaW.PrintLast Go.Proofs.YtlggehdfigkliaaW.PrintMore
attribute [local go_sem] max2_int min2_int max_two min_two max_three min_three max_four min_four   -- for this text's walks alone
set_option linter.unusedVariables false
set_option linter.unusedSimpArgs false
def laws_eqRatS.l0 : Nat → List (S27) → List (S27) → Int → Option (Bool)
 | 0, _, _, _ => none
 | k + 1, x0, x1, x5 => if x5 < (x0.length : Int) then (if 0 ≤ x5 then (if x5 < (x1.length : Int) then ((laws_eqRat.f ((rd_T27 x0 x5).f0) ((rd_T27 x0 x5).f1) ((rd_T27 x1 x5).f0) ((rd_T27 x1 x5).f1)).bind fun tA => (if tA = true then (laws_eqRatS.l0 k x0 x1 (wrap64 (x5 + 1))) else (some false))) else (none)) else (none)) else (some true)
def laws_eqRatS.f (k : Nat) (l0 : List (S27)) (l1 : List (S27)) : Option (Bool) := if (l0.length : Int) = (l1.length : Int) then (laws_eqRatS.l0 k l0 l1 0) else (some false)
def laws_eqRatS.T6 : Bool × List (List Nat × List Nat) := (true, [([], []), ([], []), ([0, 1], [0, 1]), ([2], [2]), ([], []), ([], []), ([4, 5], [4, 5]), ([6], [6]), ([3, 7], [3, 7]), ([8], [8])])
def laws_eqRatS.B6 : List Nat := [0, 0, 3, 7, 0, 0, 48, 112, 255, 511]
theorem laws_eqRatS.tab6 : rtab .any (opsOf Try.f16 6) = laws_eqRatS.T6 := by kernel_rfl
theorem laws_eqRatS.bits6 : waitsOk laws_eqRatS.T6.2 laws_eqRatS.B6 = true := by kernel_rfl
set_option maxHeartbeats 8000000 in
set_option maxRecDepth 100000 in
theorem laws_eqRatS.calls (k : Nat) (A0 : Option Addr) (c0 : Nat) (l0 : List (S27)) (A1 : Option Addr) (c1 : Nat) (l1 : List (S27)) (r : Bool) (w : World) (hr0 : Kd.C k27 w A0 l0.length l0) (hc0 : l0.length ≤ c0) (hr1 : Kd.C k27 w A1 l1.length l1) (hc1 : l1.length ≤ c1) (h : laws_eqRatS.f k l0 l1 = some r) :
  Calls Try.prog 16 #[.slice A0 l0.length c0, .slice A1 l1.length c1] w fun e w' => e = .returned (.bool r) ∧ Below w.heap.size w w' := by
 have hu27 := Try.underlying27; have HR0 := Aside0.mk hr0; have HC0 := Aside0.mk hc0; clear hr0 hc0; have HR1 := Aside0.mk hr1; have HC1 := Aside0.mk hc1; clear hr1 hc1; have HB := Aside0.mk (Below.refl w.heap.size w); have H : (if (l0.length : Int) = (l1.length : Int) then (laws_eqRatS.l0 k l0 l1 0) else (some false)) = some r := h; clear h; by_cases c3 : (l0.length : Int) = (l1.length : Int)
 ·rw [if_pos c3] at H; have c3b0 : ((l0.length : Int) == (l1.length : Int)) = true := beq_iff_eq.mpr c3; have c3b1 : ((l0.length : Int) != (l1.length : Int)) = false := bne_eq_false_iff_eq.mpr c3; have c3b2 : (l0.length == l1.length) = true := by first | simpa using c3 | (simp at c3 ⊢; omega)
  clear c3; have H' := Aside0.mk H; clear H; go_enter Try.func16, Try.ntmps16
  go_wp2
  go_loopg [5] k (fun kq v5 w' => ∃ (x5_1 : Int), v5 = .int .i64 x5_1 ∧ Aside0 (laws_eqRatS.l0 kq l0 l1 x5_1 = some r) ∧ Aside0 (kq ≤ k) ∧ Aside0 (Below w.heap.size w w'))
  case atStart => exact ⟨(0), zz241, H', ⟨Nat.le_refl _⟩, ⟨by repeat (first | (with_reducible first | exact HB.out | apply below_alloc | apply pw_below_drewN | apply below_drew1) | exact HB.out)⟩⟩
  case round =>
   clear H'; try clear c1
   try clear p2
   try clear c3
   try clear c3b0
   try clear c3b1
   try clear c3b2
   obtain ⟨x5_1, rfl, HA, HK1, HB⟩ := hrel; cases gk with
   | zero => exact absurd HA.out (by simp [laws_eqRatS.l0])
   | succ k1 =>
    have H := HA.out; clear HA; simp only [laws_eqRatS.l0] at H; by_cases c4 : x5_1 < (l0.length : Int)
    ·rw [if_pos c4] at H; have c4b0 : decide (x5_1 < (l0.length : Int)) = true := decide_eq_true c4; clear c4; by_cases c5 : 0 ≤ x5_1
     ·rw [if_pos c5] at H; have c5b0 : decide (0 ≤ x5_1) = true := decide_eq_true c5; clear c5; by_cases c6 : x5_1 < (l1.length : Int)
      ·rw [if_pos c6] at H; have c6b0 : decide (x5_1 < (l1.length : Int)) = true := decide_eq_true c6; clear c6; replace H := Option.bind_eq_some_iff.mp H; obtain ⟨tA, A70, H⟩ := H; replace H : (if tA = true then (laws_eqRatS.l0 k1 l0 l1 (wrap64 (x5_1 + 1))) else (some false)) = some r := H; have A7 := Aside0.mk A70; clear A70; by_cases c8 : tA = true
       ·subst c8; have H1 : (laws_eqRatS.l0 k1 l0 l1 (wrap64 (x5_1 + 1))) = some r := by rw [if_pos rfl] at H; exact H
        clear H; have H := H1; clear H1; have H' := Aside0.mk H; clear H; try go_wp2
        replace HB := Aside0.mk (below_drew1 HB.out); have pB : 0 ≤ (x5_1 : Int) := of_decide_eq_true zz240; have qB : x5_1 < (l0.length : Int) := of_decide_eq_true zz240; obtain ⟨adB, eB, hxB_0, hxB_1⟩ := at_T27 HR0.out x5_1 pB qB; have hwB_1 := hxB_1; have hwB_0 := hxB_0; cases eB
        replace hxB_0 := (HB.out.cell (World.block_lt_of_cell? w _ hxB_0)).trans hxB_0; replace hxB_1 := (HB.out.cell (World.block_lt_of_cell? w _ hxB_1)).trans hxB_1; replace pB := eq_true pB; replace qB := eq_true qB; have pC : 0 ≤ (x5_1 : Int) := of_decide_eq_true zz240; have qC : x5_1 < (l1.length : Int) := of_decide_eq_true zz240; obtain ⟨adC, eC, hxC_0, hxC_1⟩ := at_T27 HR1.out x5_1 pC qC; have hwC_1 := hxC_1; have hwC_0 := hxC_0; cases eC
        replace hxC_0 := (HB.out.cell (World.block_lt_of_cell? w _ hxC_0)).trans hxC_0; replace hxC_1 := (HB.out.cell (World.block_lt_of_cell? w _ hxC_1)).trans hxC_1; replace pC := eq_true pC; replace qC := eq_true qC; refine start_ (n := 10) (S := fun w' => w'.cell? (adB.add ((x5_1).toNat * 2)) = some (.int .i64 ((rd_T27 l0 x5_1).f0)) ∧ w'.cell? ⟨(adB.add ((x5_1).toNat * 2)).block, (adB.add ((x5_1).toNat * 2)).off + 1, none⟩ = some (.int .i64 ((rd_T27 l0 x5_1).f1)) ∧ w'.cell? (adC.add ((x5_1).toNat * 2)) = some (.int .i64 ((rd_T27 l1 x5_1).f0)) ∧ w'.cell? ⟨(adC.add ((x5_1).toNat * 2)).block, (adC.add ((x5_1).toNat * 2)).off + 1, none⟩ = some (.int .i64 ((rd_T27 l1 x5_1).f1))) (ds := []) #[fF, fF, fF, fF, fF, fF, fF, fF, fF, fF] (by kernel_rfl) rfl rfl ⟨((HB.out.cell (World.block_lt_of_cell? w _ hwB_0)).trans hwB_0), ((HB.out.cell (World.block_lt_of_cell? w _ hwB_1)).trans hwB_1), ((HB.out.cell (World.block_lt_of_cell? w _ hwC_0)).trans hwC_0), ((HB.out.cell (World.block_lt_of_cell? w _ hwC_1)).trans hwC_1)⟩ (fun hHeld => ?_); refine with_tabW laws_eqRatS.tab6 laws_eqRatS.bits6 (fun HT_ HW_ => ?_); generalize wr.drew = w9 at HB hxB_0 hxB_1 hxC_0 hxC_1 hHeld ⊢; refine pureA 0 (some 17) #[tT, fF, fF, fF, fF, fF, fF, fF, fF, fF] HT_ ?_; refine pureA 1 (some 18) #[tT, tT, fF, fF, fF, fF, fF, fF, fF, fF] HT_ ?_; refine pureA 2 (some 19) #[tT, tT, tT, fF, fF, fF, fF, fF, fF, fF] HT_ ?_; refine pureA 4 (some 21) #[tT, tT, tT, fF, tT, fF, fF, fF, fF, fF] HT_ ?_; refine pureA 5 (some 22) #[tT, tT, tT, fF, tT, tT, fF, fF, fF, fF] HT_ ?_; refine pureA 6 (some 23) #[tT, tT, tT, fF, tT, tT, tT, fF, fF, fF] HT_ ?_; refine takeA1 3 (some 20) #[tT, tT, tT, tT, tT, tT, tT, fF, fF, fF] HT_ HW_ hHeld ?_; refine takeA1 7 (some 24) #[tT, tT, tT, tT, tT, tT, tT, tT, fF, fF] HT_ HW_ hHeld ?_; refine one_ (i := 8) (N := some 25) #[tT, tT, tT, tT, tT, tT, tT, tT, tT, fF] rfl rfl (one_of HT_.out (by kernel_rfl)) (by decide) (fun K hK => ?_); refine goes_ Try.func14 (by kernel_rfl) rfl #[.agg #[.int .i64 ((rd_T27 l0 x5_1).f0), .int .i64 ((rd_T27 l0 x5_1).f1)], .agg #[.int .i64 ((rd_T27 l1 x5_1).f0), .int .i64 ((rd_T27 l1 x5_1).f1)]] (by rfl) rfl rfl zz165 ?_; with_reducible refine (laws_eqRat.calls ((rd_T27 l0 x5_1).f0) ((rd_T27 l0 x5_1).f1) ((rd_T27 l1 x5_1).f0) ((rd_T27 l1 x5_1).f1) true _ A7.out).mono ?_
        rintro e w10 ⟨rfl, hb⟩; refine ⟨_, rfl, ?_⟩; replace HB := Aside0.mk (below_step zz166 hb); (try clear hb); refine hK.out _ _ ⟨((HB.out.cell (World.block_lt_of_cell? w _ hwB_0)).trans hwB_0), ((HB.out.cell (World.block_lt_of_cell? w _ hwB_1)).trans hwB_1), ((HB.out.cell (World.block_lt_of_cell? w _ hwC_0)).trans hwC_0), ((HB.out.cell (World.block_lt_of_cell? w _ hwC_1)).trans hwC_1)⟩ (fun hHeld => ?_); clear hK K; refine normA (some 25) ?_; refine pureA 9 (some 26) #[tT, tT, tT, tT, tT, tT, tT, tT, tT, tT] HT_ ?_; refine done_ (done_of HT_.out (by kernel_rfl)) ?_; try go_wp2
        go_roundg k1
        case measure => have := HK1.out; omega
        case rel => exact ⟨(wrap64 (x5_1 + 1)), zz241, H', ⟨by have := HK1.out; omega⟩, ⟨by repeat (first | (with_reducible first | exact HB.out | apply below_alloc | apply pw_below_drewN | apply below_drew1) | exact HB.out)⟩⟩
       ·replace c8 := Bool.eq_false_iff.mpr c8; subst c8; have H1 : (some false) = some r := by rw [if_neg (show ¬ (false = true) by decide)] at H; exact H
        clear H; have H := H1; clear H1; obtain rfl := Option.some.inj H; try go_wp2
        replace HB := Aside0.mk (below_drew1 HB.out); have pB : 0 ≤ (x5_1 : Int) := of_decide_eq_true zz240; have qB : x5_1 < (l0.length : Int) := of_decide_eq_true zz240; obtain ⟨adB, eB, hxB_0, hxB_1⟩ := at_T27 HR0.out x5_1 pB qB; have hwB_1 := hxB_1; have hwB_0 := hxB_0; cases eB
        replace hxB_0 := (HB.out.cell (World.block_lt_of_cell? w _ hxB_0)).trans hxB_0; replace hxB_1 := (HB.out.cell (World.block_lt_of_cell? w _ hxB_1)).trans hxB_1; replace pB := eq_true pB; replace qB := eq_true qB; have pC : 0 ≤ (x5_1 : Int) := of_decide_eq_true zz240; have qC : x5_1 < (l1.length : Int) := of_decide_eq_true zz240; obtain ⟨adC, eC, hxC_0, hxC_1⟩ := at_T27 HR1.out x5_1 pC qC; have hwC_1 := hxC_1; have hwC_0 := hxC_0; cases eC
        replace hxC_0 := (HB.out.cell (World.block_lt_of_cell? w _ hxC_0)).trans hxC_0; replace hxC_1 := (HB.out.cell (World.block_lt_of_cell? w _ hxC_1)).trans hxC_1; replace pC := eq_true pC; replace qC := eq_true qC; refine start_ (n := 10) (S := fun w' => w'.cell? (adB.add ((x5_1).toNat * 2)) = some (.int .i64 ((rd_T27 l0 x5_1).f0)) ∧ w'.cell? ⟨(adB.add ((x5_1).toNat * 2)).block, (adB.add ((x5_1).toNat * 2)).off + 1, none⟩ = some (.int .i64 ((rd_T27 l0 x5_1).f1)) ∧ w'.cell? (adC.add ((x5_1).toNat * 2)) = some (.int .i64 ((rd_T27 l1 x5_1).f0)) ∧ w'.cell? ⟨(adC.add ((x5_1).toNat * 2)).block, (adC.add ((x5_1).toNat * 2)).off + 1, none⟩ = some (.int .i64 ((rd_T27 l1 x5_1).f1))) (ds := []) #[fF, fF, fF, fF, fF, fF, fF, fF, fF, fF] (by kernel_rfl) rfl rfl ⟨((HB.out.cell (World.block_lt_of_cell? w _ hwB_0)).trans hwB_0), ((HB.out.cell (World.block_lt_of_cell? w _ hwB_1)).trans hwB_1), ((HB.out.cell (World.block_lt_of_cell? w _ hwC_0)).trans hwC_0), ((HB.out.cell (World.block_lt_of_cell? w _ hwC_1)).trans hwC_1)⟩ (fun hHeld => ?_); refine with_tabW laws_eqRatS.tab6 laws_eqRatS.bits6 (fun HT_ HW_ => ?_); generalize wr.drew = w11 at HB hxB_0 hxB_1 hxC_0 hxC_1 hHeld ⊢; refine pureA 0 (some 17) #[tT, fF, fF, fF, fF, fF, fF, fF, fF, fF] HT_ ?_; refine pureA 1 (some 18) #[tT, tT, fF, fF, fF, fF, fF, fF, fF, fF] HT_ ?_; refine pureA 2 (some 19) #[tT, tT, tT, fF, fF, fF, fF, fF, fF, fF] HT_ ?_; refine pureA 4 (some 21) #[tT, tT, tT, fF, tT, fF, fF, fF, fF, fF] HT_ ?_; refine pureA 5 (some 22) #[tT, tT, tT, fF, tT, tT, fF, fF, fF, fF] HT_ ?_; refine pureA 6 (some 23) #[tT, tT, tT, fF, tT, tT, tT, fF, fF, fF] HT_ ?_; refine takeA1 3 (some 20) #[tT, tT, tT, tT, tT, tT, tT, fF, fF, fF] HT_ HW_ hHeld ?_; refine takeA1 7 (some 24) #[tT, tT, tT, tT, tT, tT, tT, tT, fF, fF] HT_ HW_ hHeld ?_; refine one_ (i := 8) (N := some 25) #[tT, tT, tT, tT, tT, tT, tT, tT, tT, fF] rfl rfl (one_of HT_.out (by kernel_rfl)) (by decide) (fun K hK => ?_); refine goes_ Try.func14 (by kernel_rfl) rfl #[.agg #[.int .i64 ((rd_T27 l0 x5_1).f0), .int .i64 ((rd_T27 l0 x5_1).f1)], .agg #[.int .i64 ((rd_T27 l1 x5_1).f0), .int .i64 ((rd_T27 l1 x5_1).f1)]] (by rfl) rfl rfl zz165 ?_; with_reducible refine (laws_eqRat.calls ((rd_T27 l0 x5_1).f0) ((rd_T27 l0 x5_1).f1) ((rd_T27 l1 x5_1).f0) ((rd_T27 l1 x5_1).f1) false _ A7.out).mono ?_
        rintro e w12 ⟨rfl, hb⟩; refine ⟨_, rfl, ?_⟩; replace HB := Aside0.mk (below_step zz166 hb); (try clear hb); refine hK.out _ _ ⟨((HB.out.cell (World.block_lt_of_cell? w _ hwB_0)).trans hwB_0), ((HB.out.cell (World.block_lt_of_cell? w _ hwB_1)).trans hwB_1), ((HB.out.cell (World.block_lt_of_cell? w _ hwC_0)).trans hwC_0), ((HB.out.cell (World.block_lt_of_cell? w _ hwC_1)).trans hwC_1)⟩ (fun hHeld => ?_); clear hK K; refine normA (some 25) ?_; refine pureA 9 (some 26) #[tT, tT, tT, tT, tT, tT, tT, tT, tT, tT] HT_ ?_; refine done_ (done_of HT_.out (by kernel_rfl)) ?_; try go_wp2
        go_ret
        exact ⟨by first | rfl | (simp [errW_none, errW_some] <;> rfl) | (simp [*, errW_none, errW_some] <;> rfl), by repeat (first | (with_reducible first | exact HB.out | apply below_alloc | apply pw_below_drewN | apply below_drew1) | exact HB.out)⟩
      ·rw [if_neg c6] at H; exact absurd H (by simp)
     ·rw [if_neg c5] at H; exact absurd H (by simp)
    ·rw [if_neg c4] at H; have c4b0 : decide (x5_1 < (l0.length : Int)) = false := decide_eq_false c4; clear c4; obtain rfl := Option.some.inj H; go_wp2
     go_ret
     exact ⟨by first | rfl | (simp [errW_none, errW_some] <;> rfl) | (simp [*, errW_none, errW_some] <;> rfl), by repeat (first | (with_reducible first | exact HB.out | apply below_alloc | apply pw_below_drewN | apply below_drew1) | exact HB.out)⟩
 ·rw [if_neg c3] at H; have c3b0 : ((l0.length : Int) == (l1.length : Int)) = false := beq_eq_false_iff_ne.mpr c3; have c3b1 : ((l0.length : Int) != (l1.length : Int)) = true := bne_iff_ne.mpr c3; have c3b2 : (l0.length == l1.length) = false := by first | simpa using c3 | (simp at c3 ⊢; omega)
  obtain rfl := Option.some.inj H; go_enter Try.func16, Try.ntmps16
  go_wp2
  go_ret
  exact ⟨by first | rfl | (simp [errW_none, errW_some] <;> rfl) | (simp [*, errW_none, errW_some] <;> rfl), by repeat (first | (with_reducible first | exact HB.out | apply below_alloc | apply pw_below_drewN | apply below_drew1) | exact HB.out)⟩
end Go.Proofs.Ytlggehdfigkliaa.Q
namespace Go.Proofs.Ytlggehdfigkliaa.Q
open Go.RowKit Go.Proofs.YtlggehdfigkliaaW.PrintWords Go.Proofs.YtlggehdfigkliaaW.PrintLast Go.Proofs.YtlggehdfigkliaaW.PrintMore
attribute [local go_sem] max2_int min2_int max_two min_two max_three min_three max_four min_four   -- for this text's walks alone
set_option linter.unusedVariables false
set_option linter.unusedSimpArgs false
def laws_FnExactWorstJump.j0 : Nat → List (S60) → List (S38) → List (S57) → List (S27) → Bool → Option (Bool)
 | 0, _, _, _, _, _ => none
 | k + 1, x0, x1, x8, x9, x48 => if x48 = true then (some false) else ((laws_toPointS.f k x0).bind fun tA => ((laws_eqPointS.f k x8 tA).bind fun tB => (if tB = true then ((laws_toRatS.f k x1).bind fun tC => ((laws_eqRatS.f k x9 tC).bind fun tD => (if tD = true then (some true) else (some false)))) else (some false))))
def laws_FnExactWorstJump.f (k : Nat) (l0 : List (S60)) (l1 : List (S38)) : Option (Bool) := (laws_szPointS.f l0 1048576).bind fun tA => (if tA < 0 then (some true) else ((laws_szRatS.f l1 tA).bind fun tB => (if tB < 0 then (some true) else ((laws_toPointS.f k l0).bind fun tC => ((laws_toRatS.f k l1).bind fun tD => ((spec_WorstJump.f k tC tD).bind fun btE => ((laws_toPointS.f k l0).bind fun tF => ((laws_toRatS.f k l1).bind fun tG => ((impl_WorstJump.f k tF tG).bind fun btH => ((laws_eqRat.f btH.1 btH.2.1 btE.1 btE.2.1).bind fun tI => (if tI = true then (laws_FnExactWorstJump.j0 k l0 l1 tF tG (btH.2.2 != btE.2.2)) else (laws_FnExactWorstJump.j0 k l0 l1 tF tG true))))))))))))
theorem zz228 {p : Prop} (h : p := by (with_reducible repeat (first | apply Kd.R_alloc | apply Kd.R_drewN | apply Kd.R_drew)); exact HO_9.out) : p := h
theorem zz227 {p : Prop} (h : p := by (with_reducible repeat (first | apply Kd.R_alloc | apply Kd.R_drewN | apply Kd.R_drew)); exact HO_8.out) : p := h
theorem zz223 {p : Prop} (h : p := by (with_reducible repeat (first | apply Kd.R_alloc | apply Kd.R_drewN | apply Kd.R_drew)); exact HOA.out) : p := h
theorem zz222 {p : Prop} (h : p := by (with_reducible repeat (first | apply Kd.R_alloc | apply Kd.R_drewN | apply Kd.R_drew)); exact HOB.out) : p := h
theorem zz221 {p : Prop} (h : p := by (with_reducible repeat (first | apply Kd.R_alloc | apply Kd.R_drewN | apply Kd.R_drew)); exact HOC.out) : p := h
theorem zz220 {p : Prop} (h : p := by (with_reducible repeat (first | apply Kd.R_alloc | apply Kd.R_drewN | apply Kd.R_drew)); exact HOD.out) : p := h
theorem zz219 {p : Prop} (h : p := by (with_reducible repeat (first | apply Kd.R_alloc | apply Kd.R_drewN | apply Kd.R_drew)); exact HOE.out) : p := h
theorem zz218 {p : Prop} (h : p := by (with_reducible repeat (first | apply Kd.R_alloc | apply Kd.R_drewN | apply Kd.R_drew)); exact HOF.out) : p := h
theorem zz214 {p : Prop} (h : p := by (with_reducible repeat (first | refine blk_drewN ?_ _ | refine blk_drew ?_ | refine blk_alloc ?_ _)); exact BKG.out) : p := h
theorem zz213 {p : Prop} (h : p := by (with_reducible repeat (first | refine blk_drewN ?_ _ | refine blk_drew ?_ | refine blk_alloc ?_ _)); exact BKH.out) : p := h
theorem zz162 {p : Prop} (h : p := by repeat (first | (with_reducible first | exact HB.out | apply below_alloc | apply pw_below_drewN | apply below_drew1 | refine below_set ?_ GEH.out) | exact HB.out)) : p := h
theorem zz105 {p : Prop} (h : p := by repeat (first | (with_reducible first | exact HB.out | apply below_alloc | apply pw_below_drewN | apply below_drew1 | refine below_set ?_ GEH.out | refine below_set ?_ GEG.out) | exact HB.out)) : p := h
theorem zz46 {p : Prop} (h : p := by (with_reducible repeat (first | apply Kd.R_alloc | apply Kd.R_drewN | apply Kd.R_drew)); exact (Kd.R_mono (Kd.R_far (p := ⟨gbG, 1, none⟩) (Kd.R_far (p := ⟨gbG, 0, none⟩) (Kd.R_types HOD.out BKG.out (by decide)) (fun _ hk => hk.2) (.int .i64 tI)) (fun _ hk => hk.2) (.int .i64 tJ)) (fun _ h_ => h_.1))) : p := h
theorem zz45 {p : Prop} (h : p := by (with_reducible repeat (first | apply Kd.R_alloc | apply Kd.R_drewN | apply Kd.R_drew)); exact (Kd.R_mono (Kd.R_far (p := ⟨gbG, 1, none⟩) (Kd.R_far (p := ⟨gbG, 0, none⟩) (Kd.R_types HOF.out BKG.out (by decide)) (fun _ hk => hk.2) (.int .i64 tI)) (fun _ hk => hk.2) (.int .i64 tJ)) (fun _ h_ => h_.1))) : p := h
theorem zz44 {p : Prop} (h : p := by (with_reducible repeat (first | apply Kd.R_alloc | apply Kd.R_drewN | apply Kd.R_drew)); exact (Kd.R_mono (Kd.R_far (p := ⟨gbH, 1, none⟩) (Kd.R_far (p := ⟨gbH, 0, none⟩) (Kd.R_types HOF.out BKH.out (by decide)) (fun _ hk => hk.2) (.int .i64 tK)) (fun _ hk => hk.2) (.int .i64 tL)) (fun _ h_ => h_.1))) : p := h
theorem zz30 {p : Prop} (h : p := by (with_reducible repeat (first | apply Kd.R_alloc | apply Kd.R_drewN | apply Kd.R_drew)); exact (Kd.R_mono (Kd.R_far (p := ⟨gbG, 1, none⟩) (Kd.R_far (p := ⟨gbG, 0, none⟩) (Kd.R_mono HOC.out (fun k_ hk => (⟨hk, hk.2⟩ : _ ∧ k_ ≠ gbG))) (fun _ hk => hk.2) (.int .i64 tI)) (fun _ hk => hk.2) (.int .i64 tJ)) (fun _ h_ => h_.1))) : p := h
theorem zz29 {p : Prop} (h : p := by (with_reducible repeat (first | apply Kd.R_alloc | apply Kd.R_drewN | apply Kd.R_drew)); exact (Kd.R_mono (Kd.R_far (p := ⟨gbG, 1, none⟩) (Kd.R_far (p := ⟨gbG, 0, none⟩) (Kd.R_mono HOE.out (fun k_ hk => (⟨hk, hk.2⟩ : _ ∧ k_ ≠ gbG))) (fun _ hk => hk.2) (.int .i64 tI)) (fun _ hk => hk.2) (.int .i64 tJ)) (fun _ h_ => h_.1))) : p := h
theorem zz28 {p : Prop} (h : p := by (with_reducible repeat (first | refine blk_drewN ?_ _ | refine blk_drew ?_ | refine blk_alloc ?_ _)); refine blk_far ?_ NBH_G.out _; (with_reducible repeat (first | refine blk_drewN ?_ _ | refine blk_drew ?_ | refine blk_alloc ?_ _)); refine blk_far ?_ NBH_G.out _; (with_reducible repeat (first | refine blk_drewN ?_ _ | refine blk_drew ?_ | refine blk_alloc ?_ _)); exact BKH.out) : p := h
theorem zz18 {p : Prop} (h : p := by (with_reducible repeat (first | refine blk_drewN ?_ _ | refine blk_drew ?_ | refine blk_alloc ?_ _)); refine blk_put (cs := #[.int .i64 tI, .int .i64 0]) ?_ 1 _ rfl; (with_reducible repeat (first | refine blk_drewN ?_ _ | refine blk_drew ?_ | refine blk_alloc ?_ _)); refine blk_put (cs := #[.int .i64 0, .int .i64 0]) ?_ 0 _ rfl; (with_reducible repeat (first | refine blk_drewN ?_ _ | refine blk_drew ?_ | refine blk_alloc ?_ _)); exact BKG.out) : p := h
set_option maxHeartbeats 8000000 in
set_option maxRecDepth 100000 in
theorem laws_FnExactWorstJump.calls (k : Nat) (A0 : Option Addr) (c0 : Nat) (l0 : List (S60)) (A1 : Option Addr) (c1 : Nat) (l1 : List (S38)) (r : Bool) (w : World) (hr0 : Kd.C k60 w A0 l0.length l0) (hc0 : l0.length ≤ c0) (hr1 : Kd.C k38 w A1 l1.length l1) (hc1 : l1.length ≤ c1) (h : laws_FnExactWorstJump.f k l0 l1 = some r) :
  Calls Try.prog 3 #[.slice A0 l0.length c0, .slice A1 l1.length c1] w fun e w' => e = .returned (.bool r) ∧ Below w.heap.size w w' := by
 have hu27 := Try.underlying27; have HR0 := Aside0.mk hr0; have HC0 := Aside0.mk hc0; clear hr0 hc0; have HR1 := Aside0.mk hr1; have HC1 := Aside0.mk hc1; clear hr1 hc1; have HB := Aside0.mk (Below.refl w.heap.size w); have H : ((laws_szPointS.f l0 1048576).bind fun tM => (if tM < 0 then (some true) else ((laws_szRatS.f l1 tM).bind fun tN => (if tN < 0 then (some true) else ((laws_toPointS.f k l0).bind fun tO => ((laws_toRatS.f k l1).bind fun tP => ((spec_WorstJump.f k tO tP).bind fun btK => ((laws_toPointS.f k l0).bind fun tQ => ((laws_toRatS.f k l1).bind fun tR => ((impl_WorstJump.f k tQ tR).bind fun btI => ((laws_eqRat.f btI.1 btI.2.1 btK.1 btK.2.1).bind fun tS => (if tS = true then (laws_FnExactWorstJump.j0 k l0 l1 tQ tR (btI.2.2 != btK.2.2)) else (laws_FnExactWorstJump.j0 k l0 l1 tQ tR true))))))))))))) = some r := h; clear h; replace H := Option.bind_eq_some_iff.mp H; obtain ⟨tM, A30, H⟩ := H; replace H : (if tM < 0 then (some true) else ((laws_szRatS.f l1 tM).bind fun tN => (if tN < 0 then (some true) else ((laws_toPointS.f k l0).bind fun tO => ((laws_toRatS.f k l1).bind fun tP => ((spec_WorstJump.f k tO tP).bind fun btK => ((laws_toPointS.f k l0).bind fun tQ => ((laws_toRatS.f k l1).bind fun tR => ((impl_WorstJump.f k tQ tR).bind fun btI => ((laws_eqRat.f btI.1 btI.2.1 btK.1 btK.2.1).bind fun tS => (if tS = true then (laws_FnExactWorstJump.j0 k l0 l1 tQ tR (btI.2.2 != btK.2.2)) else (laws_FnExactWorstJump.j0 k l0 l1 tQ tR true)))))))))))) = some r := H; have A3 := Aside0.mk A30; clear A30; by_cases c4 : tM < 0
 ·rw [if_pos c4] at H; have c4b0 : decide (tM < 0) = true := decide_eq_true c4; clear c4; obtain rfl := Option.some.inj H; go_enter Try.func3, Try.ntmps3
  go_wp2_with (first | ((with_reducible refine gate_callee (f := 8) rfl ?_); refine goesL_ (some 14) rfl rfl Try.func8 (by kernel_rfl) rfl #[.slice A0 l0.length c0, .int .i64 1048576] rfl zz165 ?_; (with_reducible refine (laws_szPointS.calls _ _ l0 1048576 tM _ ?side1 ?side2 A3.out).mono ?_); (case side1 => repeat (first | exact HR0.out | (with_reducible refine Kd.C_alloc ?_ _) | (with_reducible refine Kd.C_drewN ?_ _) | (with_reducible refine Kd.C_drew ?_))); (case side2 => exact HC0.out); rintro e w' ⟨rfl, ⟨nd, rfl⟩⟩; refine ⟨_, rfl, ?_⟩))
  go_ret
  exact ⟨by first | rfl | (simp [errW_none, errW_some] <;> rfl) | (simp [*, errW_none, errW_some] <;> rfl), by repeat (first | (with_reducible first | exact HB.out | apply below_alloc | apply pw_below_drewN | apply below_drew1) | exact HB.out)⟩
 ·rw [if_neg c4] at H; have c4b0 : decide (tM < 0) = false := decide_eq_false c4; clear c4; replace H := Option.bind_eq_some_iff.mp H; obtain ⟨tN, A50, H⟩ := H; replace H : (if tN < 0 then (some true) else ((laws_toPointS.f k l0).bind fun tO => ((laws_toRatS.f k l1).bind fun tP => ((spec_WorstJump.f k tO tP).bind fun btK => ((laws_toPointS.f k l0).bind fun tQ => ((laws_toRatS.f k l1).bind fun tR => ((impl_WorstJump.f k tQ tR).bind fun btI => ((laws_eqRat.f btI.1 btI.2.1 btK.1 btK.2.1).bind fun tS => (if tS = true then (laws_FnExactWorstJump.j0 k l0 l1 tQ tR (btI.2.2 != btK.2.2)) else (laws_FnExactWorstJump.j0 k l0 l1 tQ tR true)))))))))) = some r := H; have A5 := Aside0.mk A50; clear A50; by_cases c6 : tN < 0
  ·rw [if_pos c6] at H; have c6b0 : decide (tN < 0) = true := decide_eq_true c6; clear c6; obtain rfl := Option.some.inj H; go_enter Try.func3, Try.ntmps3
   go_wp2_with (first | ((with_reducible refine gate_callee (f := 8) rfl ?_); refine goesL_ (some 14) rfl rfl Try.func8 (by kernel_rfl) rfl #[.slice A0 l0.length c0, .int .i64 1048576] rfl zz165 ?_; (with_reducible refine (laws_szPointS.calls _ _ l0 1048576 tM _ ?side1 ?side2 A3.out).mono ?_); (case side1 => repeat (first | exact HR0.out | (with_reducible refine Kd.C_alloc ?_ _) | (with_reducible refine Kd.C_drewN ?_ _) | (with_reducible refine Kd.C_drew ?_))); (case side2 => exact HC0.out); rintro e w' ⟨rfl, ⟨nd, rfl⟩⟩; refine ⟨_, rfl, ?_⟩) | ((with_reducible refine gate_callee (f := 9) rfl ?_); refine goesL_ (some 19) rfl rfl Try.func9 (by kernel_rfl) rfl #[.slice A1 l1.length c1, .int .i64 tM] rfl zz165 ?_; (with_reducible refine (laws_szRatS.calls _ _ l1 tM tN _ ?side1 ?side2 A5.out).mono ?_); (case side1 => repeat (first | exact HR1.out | (with_reducible refine Kd.C_alloc ?_ _) | (with_reducible refine Kd.C_drewN ?_ _) | (with_reducible refine Kd.C_drew ?_))); (case side2 => exact HC1.out); rintro e w' ⟨rfl, ⟨nd, rfl⟩⟩; refine ⟨_, rfl, ?_⟩))
   go_ret
   exact ⟨by first | rfl | (simp [errW_none, errW_some] <;> rfl) | (simp [*, errW_none, errW_some] <;> rfl), by repeat (first | (with_reducible first | exact HB.out | apply below_alloc | apply pw_below_drewN | apply below_drew1) | exact HB.out)⟩
  ·rw [if_neg c6] at H; have c6b0 : decide (tN < 0) = false := decide_eq_false c6; clear c6; replace H := Option.bind_eq_some_iff.mp H; obtain ⟨tO, A70, H⟩ := H; replace H : ((laws_toRatS.f k l1).bind fun tP => ((spec_WorstJump.f k tO tP).bind fun btK => ((laws_toPointS.f k l0).bind fun tQ => ((laws_toRatS.f k l1).bind fun tR => ((impl_WorstJump.f k tQ tR).bind fun btI => ((laws_eqRat.f btI.1 btI.2.1 btK.1 btK.2.1).bind fun tS => (if tS = true then (laws_FnExactWorstJump.j0 k l0 l1 tQ tR (btI.2.2 != btK.2.2)) else (laws_FnExactWorstJump.j0 k l0 l1 tQ tR true)))))))) = some r := H; have A7 := Aside0.mk A70; clear A70; replace H := Option.bind_eq_some_iff.mp H; obtain ⟨tP, A80, H⟩ := H; replace H : ((spec_WorstJump.f k tO tP).bind fun btK => ((laws_toPointS.f k l0).bind fun tQ => ((laws_toRatS.f k l1).bind fun tR => ((impl_WorstJump.f k tQ tR).bind fun btI => ((laws_eqRat.f btI.1 btI.2.1 btK.1 btK.2.1).bind fun tS => (if tS = true then (laws_FnExactWorstJump.j0 k l0 l1 tQ tR (btI.2.2 != btK.2.2)) else (laws_FnExactWorstJump.j0 k l0 l1 tQ tR true))))))) = some r := H; have A8 := Aside0.mk A80; clear A80; replace H := Option.bind_eq_some_iff.mp H; obtain ⟨⟨tK, tL, tT⟩, A90, H⟩ := H; replace H : ((laws_toPointS.f k l0).bind fun tQ => ((laws_toRatS.f k l1).bind fun tR => ((impl_WorstJump.f k tQ tR).bind fun btI => ((laws_eqRat.f btI.1 btI.2.1 tK tL).bind fun tS => (if tS = true then (laws_FnExactWorstJump.j0 k l0 l1 tQ tR (btI.2.2 != tT)) else (laws_FnExactWorstJump.j0 k l0 l1 tQ tR true)))))) = some r := H; have A9 := Aside0.mk A90; clear A90; replace H := Option.bind_eq_some_iff.mp H; obtain ⟨tQ, AU, H⟩ := H; replace H : ((laws_toRatS.f k l1).bind fun tR => ((impl_WorstJump.f k tQ tR).bind fun btI => ((laws_eqRat.f btI.1 btI.2.1 tK tL).bind fun tS => (if tS = true then (laws_FnExactWorstJump.j0 k l0 l1 tQ tR (btI.2.2 != tT)) else (laws_FnExactWorstJump.j0 k l0 l1 tQ tR true))))) = some r := H; have A10 := Aside0.mk AU; clear AU; replace H := Option.bind_eq_some_iff.mp H; obtain ⟨tR, AV, H⟩ := H; replace H : ((impl_WorstJump.f k tQ tR).bind fun btI => ((laws_eqRat.f btI.1 btI.2.1 tK tL).bind fun tS => (if tS = true then (laws_FnExactWorstJump.j0 k l0 l1 tQ tR (btI.2.2 != tT)) else (laws_FnExactWorstJump.j0 k l0 l1 tQ tR true)))) = some r := H; have A11 := Aside0.mk AV; clear AV; replace H := Option.bind_eq_some_iff.mp H; obtain ⟨⟨tI, tJ, tW⟩, AX, H⟩ := H; replace H : ((laws_eqRat.f tI tJ tK tL).bind fun tS => (if tS = true then (laws_FnExactWorstJump.j0 k l0 l1 tQ tR (tW != tT)) else (laws_FnExactWorstJump.j0 k l0 l1 tQ tR true))) = some r := H; have A12 := Aside0.mk AX; clear AX; have HC13 := Aside0.mk H; clear H; go_enter Try.func3, Try.ntmps3
   go_upto_region 12 with (first | ((with_reducible refine gate_callee (f := 8) rfl ?_); refine goesL_ (some 14) rfl rfl Try.func8 (by kernel_rfl) rfl #[.slice A0 l0.length c0, .int .i64 1048576] rfl zz165 ?_; (with_reducible refine (laws_szPointS.calls _ _ l0 1048576 tM _ ?side1 ?side2 A3.out).mono ?_); (case side1 => repeat (first | exact HR0.out | (with_reducible refine Kd.C_alloc ?_ _) | (with_reducible refine Kd.C_drewN ?_ _) | (with_reducible refine Kd.C_drew ?_))); (case side2 => exact HC0.out); rintro e w' ⟨rfl, ⟨nd, rfl⟩⟩; refine ⟨_, rfl, ?_⟩) | ((with_reducible refine gate_callee (f := 9) rfl ?_); refine goesL_ (some 19) rfl rfl Try.func9 (by kernel_rfl) rfl #[.slice A1 l1.length c1, .int .i64 tM] rfl zz165 ?_; (with_reducible refine (laws_szRatS.calls _ _ l1 tM tN _ ?side1 ?side2 A5.out).mono ?_); (case side1 => repeat (first | exact HR1.out | (with_reducible refine Kd.C_alloc ?_ _) | (with_reducible refine Kd.C_drewN ?_ _) | (with_reducible refine Kd.C_drew ?_))); (case side2 => exact HC1.out); rintro e w' ⟨rfl, ⟨nd, rfl⟩⟩; refine ⟨_, rfl, ?_⟩) | ((with_reducible refine gate_callee (f := 11) rfl ?_); refine goesL_ (some 24) rfl rfl Try.func11 (by kernel_rfl) rfl #[.slice A0 l0.length c0] rfl zz165 ?_; (with_reducible refine (laws_toPointS.calls k _ _ l0 tO _ ?side1 ?side2 A7.out).mono ?_); (case side1 => repeat (first | exact HR0.out | (with_reducible refine Kd.C_alloc ?_ _) | (with_reducible refine Kd.C_drewN ?_ _) | (with_reducible refine Kd.C_drew ?_))); (case side2 => exact HC0.out); rintro e w14 ⟨vY, rfl, ho0, hb⟩; refine ⟨_, rfl, ?_⟩; have n0_ := Aside0.mk (Kd.R_lower ho0 (below_size zz166)); have HOF := n0_; clear n0_; replace HB := Aside0.mk (below_step zz166 hb); (try clear hb); (try clear ho0)) | ((with_reducible refine gate_callee (f := 12) rfl ?_); refine goesL_ (some 26) rfl rfl Try.func12 (by kernel_rfl) rfl #[.slice A1 l1.length c1] rfl zz165 ?_; (with_reducible refine (laws_toRatS.calls k _ _ l1 tP _ ?side1 ?side2 A8.out).mono ?_); (case side1 => repeat (first | exact (Kd.C_below HR1.out HB.out) | (with_reducible refine Kd.C_alloc ?_ _) | (with_reducible refine Kd.C_drewN ?_ _) | (with_reducible refine Kd.C_drew ?_))); (case side2 => exact HC1.out); rintro e w15 ⟨vZ, rfl, ho0, hb⟩; refine ⟨_, rfl, ?_⟩; have n0_ := Aside0.mk (Kd.R_below zz218 hb); have n1_ := Aside0.mk (Kd.R_lower ho0 (below_size zz166)); clear HOF; have HOF := n0_; have HOE := n1_; clear n0_ n1_; replace HB := Aside0.mk (below_step zz166 hb); (try clear hb); (try clear ho0); obtain ⟨Ao16, co16, eo16⟩ := Kd.R_slice HOF.out; subst eo16; obtain ⟨Ao17, co17, eo17⟩ := Kd.R_slice HOE.out; subst eo17) | ((with_reducible refine gate_callee (f := 10) rfl ?_); refine goesL_ (some 27) rfl rfl Try.func10 (by kernel_rfl) rfl #[.slice Ao16 tO.length co16, .slice Ao17 tP.length co17] rfl zz165 ?_; (with_reducible refine (spec_WorstJump.calls k _ _ tO _ _ tP tK tL tT _ ?side1 ?side2 ?side3 ?side4 A9.out).mono ?_); (case side1 => repeat (first | exact (Kd.R_reads' HOF.out).2.2 | (with_reducible refine Kd.C_alloc ?_ _) | (with_reducible refine Kd.C_drewN ?_ _) | (with_reducible refine Kd.C_drew ?_))); (case side2 => exact (Kd.R_reads' HOF.out).2.1); (case side3 => repeat (first | exact (Kd.R_reads' HOE.out).2.2 | (with_reducible refine Kd.C_alloc ?_ _) | (with_reducible refine Kd.C_drewN ?_ _) | (with_reducible refine Kd.C_drew ?_))); (case side4 => exact (Kd.R_reads' HOE.out).2.1); rintro e w18 ⟨rfl, hb⟩; refine ⟨_, rfl, ?_⟩; have n0_ := Aside0.mk (Kd.R_below zz218 hb); have n1_ := Aside0.mk (Kd.R_below zz219 hb); clear HOF HOE; have HOF := n0_; have HOE := n1_; clear n0_ n1_; replace HB := Aside0.mk (below_step zz166 hb); (try clear hb)) | ((with_reducible refine gate_dst (N := 6) rfl ?_); refine box_event ?hg (N := 6) ?hd (cs := #[.int .i64 0, .int .i64 0]) (t := 27) ?hr ?_; (case hd => rfl); (case hg => rfl); (case hr => first | (go_simp; done) | (go_simp; rfl)); intro gbH hg w19 hbox hb; have n0_ := Aside0.mk (Kd.R_below zz218 hb); have n1_ := Aside0.mk (Kd.R_below (Kd.R_elderB zz219 gbH (Nat.le_of_eq hg.symm)) hb); have n4_ := gwA (below_size zz166) hg; have n5_ := gwA (below_size zz166) hg; clear HOF HOE; have HOF := n0_; have HOE := n1_; have GWH := n4_; have GEH := n5_; clear n0_ n1_ n4_ n5_; have BKH := Aside0.mk (hbox); replace HB := Aside0.mk (below_step zz166 hb); clear hb hbox hg; have hcz20_0 : w19.cell? ⟨gbH, 0, none⟩ = some (.int .i64 0) := (blk_cell BKH.out 0).trans rfl; have hcz20_1 : w19.cell? ⟨gbH, 1, none⟩ = some (.int .i64 0) := (blk_cell BKH.out 1).trans rfl; have hfz20_0 := blk_frozen BKH.out 0; have hfz20_1 := blk_frozen BKH.out 1) | ((with_reducible refine gate_callee (f := 11) rfl ?_); refine goesL_ (some 31) rfl rfl Try.func11 (by kernel_rfl) rfl #[.slice A0 l0.length c0] rfl zz165 ?_; (with_reducible refine (laws_toPointS.calls k _ _ l0 tQ _ ?side1 ?side2 A10.out).mono ?_); (case side1 => exact Kd.C_below HR0.out zz162); (case side2 => exact HC0.out); rintro e w21 ⟨vAA, rfl, ho0, hb⟩; refine ⟨_, rfl, ?_⟩; have n0_ := Aside0.mk (Kd.R_elder' zz44 (Kd.R_base ho0) hb); have n1_ := Aside0.mk (Kd.R_below (by (with_reducible repeat (first | apply Kd.R_alloc | apply Kd.R_drewN | apply Kd.R_drew)); exact (Kd.R_mono (Kd.R_far (p := ⟨gbH, 1, none⟩) (Kd.R_far (p := ⟨gbH, 0, none⟩) (Kd.R_mono HOE.out (fun k_ hk => (⟨hk, hk.2⟩ : _ ∧ k_ ≠ gbH))) (fun _ hk => hk.2) (.int .i64 tK)) (fun _ hk => hk.2) (.int .i64 tL)) (fun _ h_ => h_.1))) hb); have n2_ := Aside0.mk (Kd.R_lower (Kd.R_new' ho0 (Kd.R_lt zz44)) (below_size zz162)); have n3_ := Aside0.mk (blk_below (g := gbH) (o := .cells #[.int .i64 tK, .int .i64 tL] 27 (0, 0)) (by (with_reducible repeat (first | refine blk_drewN ?_ _ | refine blk_drew ?_ | refine blk_alloc ?_ _)); refine blk_put (cs := #[.int .i64 tK, .int .i64 0]) ?_ 1 _ rfl; (with_reducible repeat (first | refine blk_drewN ?_ _ | refine blk_drew ?_ | refine blk_alloc ?_ _)); refine blk_put (cs := #[.int .i64 0, .int .i64 0]) ?_ 0 _ rfl; (with_reducible repeat (first | refine blk_drewN ?_ _ | refine blk_drew ?_ | refine blk_alloc ?_ _)); exact BKH.out) hb); clear HOF HOE BKH; have HOF := n0_; have HOE := n1_; have HOD := n2_; have BKH := n3_; clear n0_ n1_ n2_ n3_; replace HB := Aside0.mk (below_step zz162 hb); (try clear hb); (try clear ho0)) | ((with_reducible refine gate_callee (f := 12) rfl ?_); refine goesL_ (some 33) rfl rfl Try.func12 (by kernel_rfl) rfl #[.slice A1 l1.length c1] rfl zz165 ?_; (with_reducible refine (laws_toRatS.calls k _ _ l1 tR _ ?side1 ?side2 A11.out).mono ?_); (case side1 => repeat (first | exact (Kd.C_below HR1.out HB.out) | (with_reducible refine Kd.C_alloc ?_ _) | (with_reducible refine Kd.C_drewN ?_ _) | (with_reducible refine Kd.C_drew ?_))); (case side2 => exact HC1.out); rintro e w22 ⟨vAB, rfl, ho0, hb⟩; refine ⟨_, rfl, ?_⟩; have n0_ := Aside0.mk (Kd.R_below zz218 hb); have n1_ := Aside0.mk (Kd.R_elder' zz219 (Kd.R_base ho0) hb); have n2_ := Aside0.mk (Kd.R_below zz220 hb); have n3_ := Aside0.mk (Kd.R_lower (Kd.R_newB (Kd.R_new' ho0 (Kd.R_lt zz219)) (g := gbH) (o := .cells #[.int .i64 tK, .int .i64 tL] 27 (0, 0)) zz213) (below_size zz162)); clear HOF HOE HOD; have HOF := n0_; have HOE := n1_; have HOD := n2_; have HOC := n3_; clear n0_ n1_ n2_ n3_; replace BKH := blkA BKH hb; replace HB := Aside0.mk (below_step zz162 hb); (try clear hb); (try clear ho0); obtain ⟨Ao23, co23, eo23⟩ := Kd.R_slice HOD.out; subst eo23; obtain ⟨Ao24, co24, eo24⟩ := Kd.R_slice HOC.out; subst eo24) | ((with_reducible refine gate_callee (f := 13) rfl ?_); refine goesL_ (some 37) rfl rfl Try.func13 (by kernel_rfl) rfl #[.slice Ao23 tQ.length co23, .slice Ao24 tR.length co24] rfl zz165 ?_; (with_reducible refine (impl_WorstJump.calls k _ _ tQ _ _ tR tI tJ tW _ ?side1 ?side2 ?side3 ?side4 A12.out).mono ?_); (case side1 => repeat (first | exact (Kd.R_reads' HOD.out).2.2 | (with_reducible refine Kd.C_alloc ?_ _) | (with_reducible refine Kd.C_drewN ?_ _) | (with_reducible refine Kd.C_drew ?_))); (case side2 => exact (Kd.R_reads' HOD.out).2.1); (case side3 => repeat (first | exact (Kd.R_reads' HOC.out).2.2 | (with_reducible refine Kd.C_alloc ?_ _) | (with_reducible refine Kd.C_drewN ?_ _) | (with_reducible refine Kd.C_drew ?_))); (case side4 => exact (Kd.R_reads' HOC.out).2.1); rintro e w25 ⟨rfl, hb⟩; refine ⟨_, rfl, ?_⟩; have n0_ := Aside0.mk (Kd.R_below zz218 hb); have n1_ := Aside0.mk (Kd.R_below zz219 hb); have n2_ := Aside0.mk (Kd.R_below zz220 hb); have n3_ := Aside0.mk (Kd.R_below zz221 hb); clear HOF HOE HOD HOC; have HOF := n0_; have HOE := n1_; have HOD := n2_; have HOC := n3_; clear n0_ n1_ n2_ n3_; replace BKH := blkA BKH hb; replace HB := Aside0.mk (below_step zz162 hb); (try clear hb)) | ((with_reducible refine gate_dst (N := 10) rfl ?_); refine box_event ?hg (N := 10) ?hd (cs := #[.int .i64 0, .int .i64 0]) (t := 27) ?hr ?_; (case hd => rfl); (case hg => rfl); (case hr => first | (go_simp; done) | (go_simp; rfl)); intro gbG hg w26 hbox hb; have n0_ := Aside0.mk (Kd.R_below zz218 hb); have n1_ := Aside0.mk (Kd.R_below (Kd.R_elderB zz219 gbG (Nat.le_of_eq hg.symm)) hb); have n2_ := Aside0.mk (Kd.R_below zz220 hb); have n3_ := Aside0.mk (Kd.R_below (Kd.R_elderB zz221 gbG (Nat.le_of_eq hg.symm)) hb); have n7_ := gwA (below_size zz162) hg; have n8_ := gwA (below_size zz162) hg; have n9_ := nltA BKH hg; have n10_ := ngtA BKH hg; clear HOF HOE HOD HOC; have HOF := n0_; have HOE := n1_; have HOD := n2_; have HOC := n3_; have GWG := n7_; have GEG := n8_; have NBH_G := n9_; have NBG_H := n10_; clear n0_ n1_ n2_ n3_ n7_ n8_ n9_ n10_; replace BKH := blkA BKH hb; have BKG := Aside0.mk (hbox); replace HB := Aside0.mk (below_step zz162 hb); clear hb hbox hg; have hnb27 := NBG_H.out; have hnc27 := NBH_G.out; have hcz28_0 : w26.cell? ⟨gbG, 0, none⟩ = some (.int .i64 0) := (blk_cell BKG.out 0).trans rfl; have hcz28_1 : w26.cell? ⟨gbG, 1, none⟩ = some (.int .i64 0) := (blk_cell BKG.out 1).trans rfl; have hfz28_0 := blk_frozen BKG.out 0; have hfz28_1 := blk_frozen BKG.out 1))
   (try simp only [Act.put, List.setIfInBounds_toArray, List.set_cons_zero, List.set_cons_succ]); go_cut [48] (fun v48 wc => ∃ (kq : Nat) (x48_12 : Bool), v48 = .bool x48_12 ∧ Aside0 (laws_FnExactWorstJump.j0 kq l0 l1 tQ tR x48_12 = some r) ∧ Aside0 (kq ≤ k) ∧ Aside0 (Kd.R k57 57 wc w.heap.size (fun _ => True) (.slice Ao23 tQ.length co23) tQ) ∧ Aside0 (Kd.R k27 27 wc w.heap.size (fun k_ => k_ ≠ gbH ∧ k_ ≠ gbG) (.slice Ao24 tR.length co24) tR) ∧ Aside0 (wc.heap[gbH]? = some (.cells #[.int .i64 tK, .int .i64 tL] 27 (0, 0))) ∧ Aside0 (wc.heap[gbG]? = some (.cells #[.int .i64 tI, .int .i64 tJ] 27 (0, 0))) ∧ Aside0 (Below w.heap.size w wc))
   case first =>
    have H := HC13.out; clear HC13; replace H := Option.bind_eq_some_iff.mp H; obtain ⟨tS, AAC, H⟩ := H; replace H : (if tS = true then (laws_FnExactWorstJump.j0 k l0 l1 tQ tR (tW != tT)) else (laws_FnExactWorstJump.j0 k l0 l1 tQ tR true)) = some r := H; have A29 := Aside0.mk AAC; clear AAC; by_cases c30 : tS = true
    ·subst c30; have H1 : (laws_FnExactWorstJump.j0 k l0 l1 tQ tR (tW != tT)) = some r := by rw [if_pos rfl] at H; exact H
     clear H; have H := H1; clear H1; have H' := Aside0.mk H; clear H; have hnb31 := NBG_H.out; have hnc31 := NBH_G.out; have hcz32_0 : w26.cell? ⟨gbG, 0, none⟩ = some (.int .i64 0) := (blk_cell BKG.out 0).trans rfl; have hcz32_1 : w26.cell? ⟨gbG, 1, none⟩ = some (.int .i64 0) := (blk_cell BKG.out 1).trans rfl; have hfz32_0 := blk_frozen BKG.out 0; have hfz32_1 := blk_frozen BKG.out 1; have hcz33_0 : w26.cell? ⟨gbH, 0, none⟩ = some (.int .i64 tK) := (blk_cell BKH.out 0).trans rfl; have hcz33_1 : w26.cell? ⟨gbH, 1, none⟩ = some (.int .i64 tL) := (blk_cell BKH.out 1).trans rfl; have hfz33_0 := blk_frozen BKH.out 0; have hfz33_1 := blk_frozen BKH.out 1; go_wp2_with (first | ((with_reducible refine gate_callee (f := 14) rfl ?_); refine goesL_ (some 42) rfl rfl Try.func14 (by kernel_rfl) rfl #[.agg #[.int .i64 tI, .int .i64 tJ], .agg #[.int .i64 tK, .int .i64 tL]] rfl zz165 ?_; (with_reducible refine (laws_eqRat.calls tI tJ tK tL true _ A29.out).mono ?_); rintro e w34 ⟨rfl, hb⟩; refine ⟨_, rfl, ?_⟩; have n0_ := Aside0.mk (Kd.R_below zz45 hb); have n1_ := Aside0.mk (Kd.R_below zz29 hb); have n2_ := Aside0.mk (Kd.R_below zz46 hb); have n3_ := Aside0.mk (Kd.R_below zz30 hb); have n4_ := Aside0.mk (blk_below (g := gbH) (o := .cells #[.int .i64 tK, .int .i64 tL] 27 (0, 0)) zz28 hb); have n5_ := Aside0.mk (blk_below (g := gbG) (o := .cells #[.int .i64 tI, .int .i64 tJ] 27 (0, 0)) zz18 hb); clear HOF HOE HOD HOC BKH BKG; have HOF := n0_; have HOE := n1_; have HOD := n2_; have HOC := n3_; have BKH := n4_; have BKG := n5_; clear n0_ n1_ n2_ n3_ n4_ n5_; replace HB := Aside0.mk (below_step zz105 hb)))
     go_meet
     case rel => exact ⟨_, ((tW != tT)), zz241, H', ⟨by first | omega | exact Nat.le_refl _⟩, ⟨by (with_reducible repeat (first | apply Kd.R_alloc | apply Kd.R_drewN | apply Kd.R_drew)); exact Kd.R_mono HOD.out (fun _ hk => trivial)⟩, ⟨by (with_reducible repeat (first | apply Kd.R_alloc | apply Kd.R_drewN | apply Kd.R_drew)); exact Kd.R_mono HOC.out (fun _ hk => ⟨hk.1.2, hk.2⟩)⟩, ⟨by (with_reducible repeat (first | refine blk_drewN ?_ _ | refine blk_drew ?_ | refine blk_alloc ?_ _)); exact BKH.out⟩, ⟨by (with_reducible repeat (first | refine blk_drewN ?_ _ | refine blk_drew ?_ | refine blk_alloc ?_ _)); exact BKG.out⟩, ⟨by repeat (first | (with_reducible first | exact HB.out | apply below_alloc | apply pw_below_drewN | apply below_drew1 | refine below_set ?_ GEH.out | refine below_set ?_ GEG.out) | exact HB.out)⟩⟩
    ·replace c30 := Bool.eq_false_iff.mpr c30; subst c30; have H1 : (laws_FnExactWorstJump.j0 k l0 l1 tQ tR true) = some r := by rw [if_neg (show ¬ (false = true) by decide)] at H; exact H
     clear H; have H := H1; clear H1; have H' := Aside0.mk H; clear H; have hnb35 := NBG_H.out; have hnc35 := NBH_G.out; have hcz36_0 : w26.cell? ⟨gbG, 0, none⟩ = some (.int .i64 0) := (blk_cell BKG.out 0).trans rfl; have hcz36_1 : w26.cell? ⟨gbG, 1, none⟩ = some (.int .i64 0) := (blk_cell BKG.out 1).trans rfl; have hfz36_0 := blk_frozen BKG.out 0; have hfz36_1 := blk_frozen BKG.out 1; have hcz37_0 : w26.cell? ⟨gbH, 0, none⟩ = some (.int .i64 tK) := (blk_cell BKH.out 0).trans rfl; have hcz37_1 : w26.cell? ⟨gbH, 1, none⟩ = some (.int .i64 tL) := (blk_cell BKH.out 1).trans rfl; have hfz37_0 := blk_frozen BKH.out 0; have hfz37_1 := blk_frozen BKH.out 1; go_wp2_with (first | ((with_reducible refine gate_callee (f := 14) rfl ?_); refine goesL_ (some 42) rfl rfl Try.func14 (by kernel_rfl) rfl #[.agg #[.int .i64 tI, .int .i64 tJ], .agg #[.int .i64 tK, .int .i64 tL]] rfl zz165 ?_; (with_reducible refine (laws_eqRat.calls tI tJ tK tL false _ A29.out).mono ?_); rintro e w38 ⟨rfl, hb⟩; refine ⟨_, rfl, ?_⟩; have n0_ := Aside0.mk (Kd.R_below zz45 hb); have n1_ := Aside0.mk (Kd.R_below zz29 hb); have n2_ := Aside0.mk (Kd.R_below zz46 hb); have n3_ := Aside0.mk (Kd.R_below zz30 hb); have n4_ := Aside0.mk (blk_below (g := gbH) (o := .cells #[.int .i64 tK, .int .i64 tL] 27 (0, 0)) zz28 hb); have n5_ := Aside0.mk (blk_below (g := gbG) (o := .cells #[.int .i64 tI, .int .i64 tJ] 27 (0, 0)) zz18 hb); clear HOF HOE HOD HOC BKH BKG; have HOF := n0_; have HOE := n1_; have HOD := n2_; have HOC := n3_; have BKH := n4_; have BKG := n5_; clear n0_ n1_ n2_ n3_ n4_ n5_; replace HB := Aside0.mk (below_step zz105 hb)))
     go_meet
     case rel => exact ⟨_, (true), zz241, H', ⟨by first | omega | exact Nat.le_refl _⟩, ⟨by (with_reducible repeat (first | apply Kd.R_alloc | apply Kd.R_drewN | apply Kd.R_drew)); exact Kd.R_mono HOD.out (fun _ hk => trivial)⟩, ⟨by (with_reducible repeat (first | apply Kd.R_alloc | apply Kd.R_drewN | apply Kd.R_drew)); exact Kd.R_mono HOC.out (fun _ hk => ⟨hk.1.2, hk.2⟩)⟩, ⟨by (with_reducible repeat (first | refine blk_drewN ?_ _ | refine blk_drew ?_ | refine blk_alloc ?_ _)); exact BKH.out⟩, ⟨by (with_reducible repeat (first | refine blk_drewN ?_ _ | refine blk_drew ?_ | refine blk_alloc ?_ _)); exact BKG.out⟩, ⟨by repeat (first | (with_reducible first | exact HB.out | apply below_alloc | apply pw_below_drewN | apply below_drew1 | refine below_set ?_ GEH.out | refine below_set ?_ GEG.out) | exact HB.out)⟩⟩
   case rest =>
    clear HC13; try clear c1
    try clear c2
    try clear p2
    try clear c3
    try clear c4
    try clear c4b0
    try clear c6
    try clear c6b0
    try clear c8
    try clear c9
    try clear c10
    try clear c11
    try clear c12
    try clear c13
    try clear c14
    try clear c27
    try clear c30
    try clear c31
    try clear c35
    try clear hcz20_0
    try clear hcz20_1
    try clear hcz28_0
    try clear hcz28_1
    try clear hcz32_0
    try clear hcz32_1
    try clear hcz33_0
    try clear hcz33_1
    try clear hcz36_0
    try clear hcz36_1
    try clear hcz37_0
    try clear hcz37_1
    try clear hfz20_0
    try clear hfz20_1
    try clear hfz28_0
    try clear hfz28_1
    try clear hfz32_0
    try clear hfz32_1
    try clear hfz33_0
    try clear hfz33_1
    try clear hfz36_0
    try clear hfz36_1
    try clear hfz37_0
    try clear hfz37_1
    obtain ⟨kq, x48_12, rfl, HA, HJ12, HO_8, HO_9, BKH, BKG, HB⟩ := hcut; cases kq with
    | zero => exact absurd HA.out (by simp [laws_FnExactWorstJump.j0])
    | succ kj12 =>
     have H := HA.out; clear HA; simp only [laws_FnExactWorstJump.j0] at H; by_cases c39 : x48_12 = true
     ·subst c39; have H1 : (some false) = some r := by rw [if_pos rfl] at H; exact H
      clear H; have H := H1; clear H1; obtain rfl := Option.some.inj H; go_wp2
      go_ret
      exact ⟨by first | rfl | (simp [errW_none, errW_some] <;> rfl) | (simp [*, errW_none, errW_some] <;> rfl), by repeat (first | (with_reducible first | exact HB.out | apply below_alloc | apply pw_below_drewN | apply below_drew1 | refine below_set ?_ GEH.out | refine below_set ?_ GEG.out) | exact HB.out)⟩
     ·replace c39 := Bool.eq_false_iff.mpr c39; subst c39; have H1 : ((laws_toPointS.f kj12 l0).bind fun tAD => ((laws_eqPointS.f kj12 tQ tAD).bind fun tAE => (if tAE = true then ((laws_toRatS.f kj12 l1).bind fun tAF => ((laws_eqRatS.f kj12 tR tAF).bind fun tAG => (if tAG = true then (some true) else (some false)))) else (some false)))) = some r := by rw [if_neg (show ¬ (false = true) by decide)] at H; exact H
      clear H; have H := H1; clear H1; replace H := Option.bind_eq_some_iff.mp H; obtain ⟨tAD, AAH, H⟩ := H; replace H : ((laws_eqPointS.f kj12 tQ tAD).bind fun tAE => (if tAE = true then ((laws_toRatS.f kj12 l1).bind fun tAF => ((laws_eqRatS.f kj12 tR tAF).bind fun tAG => (if tAG = true then (some true) else (some false)))) else (some false))) = some r := H; have A40 := Aside0.mk AAH; clear AAH; replace H := Option.bind_eq_some_iff.mp H; obtain ⟨tAE, AAI, H⟩ := H; replace H : (if tAE = true then ((laws_toRatS.f kj12 l1).bind fun tAF => ((laws_eqRatS.f kj12 tR tAF).bind fun tAG => (if tAG = true then (some true) else (some false)))) else (some false)) = some r := H; have A41 := Aside0.mk AAI; clear AAI; by_cases c42 : tAE = true
      ·subst c42; have H1 : ((laws_toRatS.f kj12 l1).bind fun tAF => ((laws_eqRatS.f kj12 tR tAF).bind fun tAG => (if tAG = true then (some true) else (some false)))) = some r := by rw [if_pos rfl] at H; exact H
       clear H; have H := H1; clear H1; replace H := Option.bind_eq_some_iff.mp H; obtain ⟨tAF, AAJ, H⟩ := H; replace H : ((laws_eqRatS.f kj12 tR tAF).bind fun tAG => (if tAG = true then (some true) else (some false))) = some r := H; have A43 := Aside0.mk AAJ; clear AAJ; replace H := Option.bind_eq_some_iff.mp H; obtain ⟨tAG, AAK, H⟩ := H; replace H : (if tAG = true then (some true) else (some false)) = some r := H; have A44 := Aside0.mk AAK; clear AAK; by_cases c45 : tAG = true
       ·subst c45; have H1 : (some true) = some r := by rw [if_pos rfl] at H; exact H
        clear H; have H := H1; clear H1; obtain rfl := Option.some.inj H; go_wp2_with (first | ((with_reducible refine gate_callee (f := 11) rfl ?_); refine goesL_ (some 51) rfl rfl Try.func11 (by kernel_rfl) rfl #[.slice A0 l0.length c0] rfl zz165 ?_; (with_reducible refine (laws_toPointS.calls kj12 _ _ l0 tAD _ ?side1 ?side2 A40.out).mono ?_); (case side1 => repeat (first | exact (Kd.C_below HR0.out HB.out) | (with_reducible refine Kd.C_alloc ?_ _) | (with_reducible refine Kd.C_drewN ?_ _) | (with_reducible refine Kd.C_drew ?_))); (case side2 => exact HC0.out); rintro e w46 ⟨vAL, rfl, ho0, hb⟩; refine ⟨_, rfl, ?_⟩; have n0_ := Aside0.mk (Kd.R_elder' zz227 (Kd.R_base ho0) hb); have n1_ := Aside0.mk (Kd.R_below zz228 hb); have n2_ := Aside0.mk (Kd.R_lower (Kd.R_new' ho0 (Kd.R_lt zz227)) (below_size zz105)); clear HO_8 HO_9; have HO_8 := n0_; have HO_9 := n1_; have HOB := n2_; clear n0_ n1_ n2_; replace BKH := blkA BKH hb; replace BKG := blkA BKG hb; replace HB := Aside0.mk (below_step zz105 hb); (try clear hb); (try clear ho0); obtain ⟨Ao47, co47, eo47⟩ := Kd.R_slice HOB.out; subst eo47) | ((with_reducible refine gate_callee (f := 15) rfl ?_); refine goesL_ (some 52) rfl rfl Try.func15 (by kernel_rfl) rfl #[.slice Ao23 tQ.length co23, .slice Ao47 tAD.length co47] rfl zz165 ?_; (with_reducible refine (laws_eqPointS.calls kj12 _ _ tQ _ _ tAD true _ ?side1 ?side2 ?side3 ?side4 A41.out).mono ?_); (case side1 => repeat (first | exact (Kd.R_reads' HO_8.out).2.2 | (with_reducible refine Kd.C_alloc ?_ _) | (with_reducible refine Kd.C_drewN ?_ _) | (with_reducible refine Kd.C_drew ?_))); (case side2 => exact (Kd.R_reads' HO_8.out).2.1); (case side3 => repeat (first | exact (Kd.R_reads' HOB.out).2.2 | (with_reducible refine Kd.C_alloc ?_ _) | (with_reducible refine Kd.C_drewN ?_ _) | (with_reducible refine Kd.C_drew ?_))); (case side4 => exact (Kd.R_reads' HOB.out).2.1); rintro e w48 ⟨rfl, hb⟩; refine ⟨_, rfl, ?_⟩; have n0_ := Aside0.mk (Kd.R_below zz227 hb); have n1_ := Aside0.mk (Kd.R_below zz228 hb); have n2_ := Aside0.mk (Kd.R_below zz222 hb); clear HO_8 HO_9 HOB; have HO_8 := n0_; have HO_9 := n1_; have HOB := n2_; clear n0_ n1_ n2_; replace BKH := blkA BKH hb; replace BKG := blkA BKG hb; replace HB := Aside0.mk (below_step zz105 hb); (try clear hb)) | ((with_reducible refine gate_callee (f := 12) rfl ?_); refine goesL_ (some 56) rfl rfl Try.func12 (by kernel_rfl) rfl #[.slice A1 l1.length c1] rfl zz165 ?_; (with_reducible refine (laws_toRatS.calls kj12 _ _ l1 tAF _ ?side1 ?side2 A43.out).mono ?_); (case side1 => repeat (first | exact (Kd.C_below HR1.out HB.out) | (with_reducible refine Kd.C_alloc ?_ _) | (with_reducible refine Kd.C_drewN ?_ _) | (with_reducible refine Kd.C_drew ?_))); (case side2 => exact HC1.out); rintro e w49 ⟨vAM, rfl, ho0, hb⟩; refine ⟨_, rfl, ?_⟩; have n0_ := Aside0.mk (Kd.R_below zz227 hb); have n1_ := Aside0.mk (Kd.R_elder' zz228 (Kd.R_base ho0) hb); have n2_ := Aside0.mk (Kd.R_below zz222 hb); have n3_ := Aside0.mk (Kd.R_lower (Kd.R_newB (Kd.R_newB (Kd.R_new' ho0 (Kd.R_lt zz228)) (g := gbH) (o := .cells #[.int .i64 tK, .int .i64 tL] 27 (0, 0)) zz213) (g := gbG) (o := .cells #[.int .i64 tI, .int .i64 tJ] 27 (0, 0)) zz214) (below_size zz105)); clear HO_8 HO_9 HOB; have HO_8 := n0_; have HO_9 := n1_; have HOB := n2_; have HOA := n3_; clear n0_ n1_ n2_ n3_; replace BKH := blkA BKH hb; replace BKG := blkA BKG hb; replace HB := Aside0.mk (below_step zz105 hb); (try clear hb); (try clear ho0); obtain ⟨Ao50, co50, eo50⟩ := Kd.R_slice HOA.out; subst eo50) | ((with_reducible refine gate_callee (f := 16) rfl ?_); refine goesL_ (some 57) rfl rfl Try.func16 (by kernel_rfl) rfl #[.slice Ao24 tR.length co24, .slice Ao50 tAF.length co50] rfl zz165 ?_; (with_reducible refine (laws_eqRatS.calls kj12 _ _ tR _ _ tAF true _ ?side1 ?side2 ?side3 ?side4 A44.out).mono ?_); (case side1 => repeat (first | exact (Kd.R_reads' HO_9.out).2.2 | (with_reducible refine Kd.C_alloc ?_ _) | (with_reducible refine Kd.C_drewN ?_ _) | (with_reducible refine Kd.C_drew ?_))); (case side2 => exact (Kd.R_reads' HO_9.out).2.1); (case side3 => repeat (first | exact (Kd.R_reads' HOA.out).2.2 | (with_reducible refine Kd.C_alloc ?_ _) | (with_reducible refine Kd.C_drewN ?_ _) | (with_reducible refine Kd.C_drew ?_))); (case side4 => exact (Kd.R_reads' HOA.out).2.1); rintro e w51 ⟨rfl, hb⟩; refine ⟨_, rfl, ?_⟩; have n0_ := Aside0.mk (Kd.R_below zz227 hb); have n1_ := Aside0.mk (Kd.R_below zz228 hb); have n2_ := Aside0.mk (Kd.R_below zz222 hb); have n3_ := Aside0.mk (Kd.R_below zz223 hb); clear HO_8 HO_9 HOB HOA; have HO_8 := n0_; have HO_9 := n1_; have HOB := n2_; have HOA := n3_; clear n0_ n1_ n2_ n3_; replace BKH := blkA BKH hb; replace BKG := blkA BKG hb; replace HB := Aside0.mk (below_step zz105 hb); (try clear hb)))
        go_ret
        exact ⟨by first | rfl | (simp [errW_none, errW_some] <;> rfl) | (simp [*, errW_none, errW_some] <;> rfl), by repeat (first | (with_reducible first | exact HB.out | apply below_alloc | apply pw_below_drewN | apply below_drew1 | refine below_set ?_ GEH.out | refine below_set ?_ GEG.out) | exact HB.out)⟩
       ·replace c45 := Bool.eq_false_iff.mpr c45; subst c45; have H1 : (some false) = some r := by rw [if_neg (show ¬ (false = true) by decide)] at H; exact H
        clear H; have H := H1; clear H1; obtain rfl := Option.some.inj H; go_wp2_with (first | ((with_reducible refine gate_callee (f := 11) rfl ?_); refine goesL_ (some 51) rfl rfl Try.func11 (by kernel_rfl) rfl #[.slice A0 l0.length c0] rfl zz165 ?_; (with_reducible refine (laws_toPointS.calls kj12 _ _ l0 tAD _ ?side1 ?side2 A40.out).mono ?_); (case side1 => repeat (first | exact (Kd.C_below HR0.out HB.out) | (with_reducible refine Kd.C_alloc ?_ _) | (with_reducible refine Kd.C_drewN ?_ _) | (with_reducible refine Kd.C_drew ?_))); (case side2 => exact HC0.out); rintro e w52 ⟨vAL, rfl, ho0, hb⟩; refine ⟨_, rfl, ?_⟩; have n0_ := Aside0.mk (Kd.R_elder' zz227 (Kd.R_base ho0) hb); have n1_ := Aside0.mk (Kd.R_below zz228 hb); have n2_ := Aside0.mk (Kd.R_lower (Kd.R_new' ho0 (Kd.R_lt zz227)) (below_size zz105)); clear HO_8 HO_9; have HO_8 := n0_; have HO_9 := n1_; have HOB := n2_; clear n0_ n1_ n2_; replace BKH := blkA BKH hb; replace BKG := blkA BKG hb; replace HB := Aside0.mk (below_step zz105 hb); (try clear hb); (try clear ho0); obtain ⟨Ao53, co53, eo53⟩ := Kd.R_slice HOB.out; subst eo53) | ((with_reducible refine gate_callee (f := 15) rfl ?_); refine goesL_ (some 52) rfl rfl Try.func15 (by kernel_rfl) rfl #[.slice Ao23 tQ.length co23, .slice Ao53 tAD.length co53] rfl zz165 ?_; (with_reducible refine (laws_eqPointS.calls kj12 _ _ tQ _ _ tAD true _ ?side1 ?side2 ?side3 ?side4 A41.out).mono ?_); (case side1 => repeat (first | exact (Kd.R_reads' HO_8.out).2.2 | (with_reducible refine Kd.C_alloc ?_ _) | (with_reducible refine Kd.C_drewN ?_ _) | (with_reducible refine Kd.C_drew ?_))); (case side2 => exact (Kd.R_reads' HO_8.out).2.1); (case side3 => repeat (first | exact (Kd.R_reads' HOB.out).2.2 | (with_reducible refine Kd.C_alloc ?_ _) | (with_reducible refine Kd.C_drewN ?_ _) | (with_reducible refine Kd.C_drew ?_))); (case side4 => exact (Kd.R_reads' HOB.out).2.1); rintro e w54 ⟨rfl, hb⟩; refine ⟨_, rfl, ?_⟩; have n0_ := Aside0.mk (Kd.R_below zz227 hb); have n1_ := Aside0.mk (Kd.R_below zz228 hb); have n2_ := Aside0.mk (Kd.R_below zz222 hb); clear HO_8 HO_9 HOB; have HO_8 := n0_; have HO_9 := n1_; have HOB := n2_; clear n0_ n1_ n2_; replace BKH := blkA BKH hb; replace BKG := blkA BKG hb; replace HB := Aside0.mk (below_step zz105 hb); (try clear hb)) | ((with_reducible refine gate_callee (f := 12) rfl ?_); refine goesL_ (some 56) rfl rfl Try.func12 (by kernel_rfl) rfl #[.slice A1 l1.length c1] rfl zz165 ?_; (with_reducible refine (laws_toRatS.calls kj12 _ _ l1 tAF _ ?side1 ?side2 A43.out).mono ?_); (case side1 => repeat (first | exact (Kd.C_below HR1.out HB.out) | (with_reducible refine Kd.C_alloc ?_ _) | (with_reducible refine Kd.C_drewN ?_ _) | (with_reducible refine Kd.C_drew ?_))); (case side2 => exact HC1.out); rintro e w55 ⟨vAM, rfl, ho0, hb⟩; refine ⟨_, rfl, ?_⟩; have n0_ := Aside0.mk (Kd.R_below zz227 hb); have n1_ := Aside0.mk (Kd.R_elder' zz228 (Kd.R_base ho0) hb); have n2_ := Aside0.mk (Kd.R_below zz222 hb); have n3_ := Aside0.mk (Kd.R_lower (Kd.R_newB (Kd.R_newB (Kd.R_new' ho0 (Kd.R_lt zz228)) (g := gbH) (o := .cells #[.int .i64 tK, .int .i64 tL] 27 (0, 0)) zz213) (g := gbG) (o := .cells #[.int .i64 tI, .int .i64 tJ] 27 (0, 0)) zz214) (below_size zz105)); clear HO_8 HO_9 HOB; have HO_8 := n0_; have HO_9 := n1_; have HOB := n2_; have HOA := n3_; clear n0_ n1_ n2_ n3_; replace BKH := blkA BKH hb; replace BKG := blkA BKG hb; replace HB := Aside0.mk (below_step zz105 hb); (try clear hb); (try clear ho0); obtain ⟨Ao56, co56, eo56⟩ := Kd.R_slice HOA.out; subst eo56) | ((with_reducible refine gate_callee (f := 16) rfl ?_); refine goesL_ (some 57) rfl rfl Try.func16 (by kernel_rfl) rfl #[.slice Ao24 tR.length co24, .slice Ao56 tAF.length co56] rfl zz165 ?_; (with_reducible refine (laws_eqRatS.calls kj12 _ _ tR _ _ tAF false _ ?side1 ?side2 ?side3 ?side4 A44.out).mono ?_); (case side1 => repeat (first | exact (Kd.R_reads' HO_9.out).2.2 | (with_reducible refine Kd.C_alloc ?_ _) | (with_reducible refine Kd.C_drewN ?_ _) | (with_reducible refine Kd.C_drew ?_))); (case side2 => exact (Kd.R_reads' HO_9.out).2.1); (case side3 => repeat (first | exact (Kd.R_reads' HOA.out).2.2 | (with_reducible refine Kd.C_alloc ?_ _) | (with_reducible refine Kd.C_drewN ?_ _) | (with_reducible refine Kd.C_drew ?_))); (case side4 => exact (Kd.R_reads' HOA.out).2.1); rintro e w57 ⟨rfl, hb⟩; refine ⟨_, rfl, ?_⟩; have n0_ := Aside0.mk (Kd.R_below zz227 hb); have n1_ := Aside0.mk (Kd.R_below zz228 hb); have n2_ := Aside0.mk (Kd.R_below zz222 hb); have n3_ := Aside0.mk (Kd.R_below zz223 hb); clear HO_8 HO_9 HOB HOA; have HO_8 := n0_; have HO_9 := n1_; have HOB := n2_; have HOA := n3_; clear n0_ n1_ n2_ n3_; replace BKH := blkA BKH hb; replace BKG := blkA BKG hb; replace HB := Aside0.mk (below_step zz105 hb); (try clear hb)))
        go_ret
        exact ⟨by first | rfl | (simp [errW_none, errW_some] <;> rfl) | (simp [*, errW_none, errW_some] <;> rfl), by repeat (first | (with_reducible first | exact HB.out | apply below_alloc | apply pw_below_drewN | apply below_drew1 | refine below_set ?_ GEH.out | refine below_set ?_ GEG.out) | exact HB.out)⟩
      ·replace c42 := Bool.eq_false_iff.mpr c42; subst c42; have H1 : (some false) = some r := by rw [if_neg (show ¬ (false = true) by decide)] at H; exact H
       clear H; have H := H1; clear H1; obtain rfl := Option.some.inj H; go_wp2_with (first | ((with_reducible refine gate_callee (f := 11) rfl ?_); refine goesL_ (some 51) rfl rfl Try.func11 (by kernel_rfl) rfl #[.slice A0 l0.length c0] rfl zz165 ?_; (with_reducible refine (laws_toPointS.calls kj12 _ _ l0 tAD _ ?side1 ?side2 A40.out).mono ?_); (case side1 => repeat (first | exact (Kd.C_below HR0.out HB.out) | (with_reducible refine Kd.C_alloc ?_ _) | (with_reducible refine Kd.C_drewN ?_ _) | (with_reducible refine Kd.C_drew ?_))); (case side2 => exact HC0.out); rintro e w58 ⟨vAL, rfl, ho0, hb⟩; refine ⟨_, rfl, ?_⟩; have n0_ := Aside0.mk (Kd.R_elder' zz227 (Kd.R_base ho0) hb); have n1_ := Aside0.mk (Kd.R_below zz228 hb); have n2_ := Aside0.mk (Kd.R_lower (Kd.R_new' ho0 (Kd.R_lt zz227)) (below_size zz105)); clear HO_8 HO_9; have HO_8 := n0_; have HO_9 := n1_; have HOB := n2_; clear n0_ n1_ n2_; replace BKH := blkA BKH hb; replace BKG := blkA BKG hb; replace HB := Aside0.mk (below_step zz105 hb); (try clear hb); (try clear ho0); obtain ⟨Ao59, co59, eo59⟩ := Kd.R_slice HOB.out; subst eo59) | ((with_reducible refine gate_callee (f := 15) rfl ?_); refine goesL_ (some 52) rfl rfl Try.func15 (by kernel_rfl) rfl #[.slice Ao23 tQ.length co23, .slice Ao59 tAD.length co59] rfl zz165 ?_; (with_reducible refine (laws_eqPointS.calls kj12 _ _ tQ _ _ tAD false _ ?side1 ?side2 ?side3 ?side4 A41.out).mono ?_); (case side1 => repeat (first | exact (Kd.R_reads' HO_8.out).2.2 | (with_reducible refine Kd.C_alloc ?_ _) | (with_reducible refine Kd.C_drewN ?_ _) | (with_reducible refine Kd.C_drew ?_))); (case side2 => exact (Kd.R_reads' HO_8.out).2.1); (case side3 => repeat (first | exact (Kd.R_reads' HOB.out).2.2 | (with_reducible refine Kd.C_alloc ?_ _) | (with_reducible refine Kd.C_drewN ?_ _) | (with_reducible refine Kd.C_drew ?_))); (case side4 => exact (Kd.R_reads' HOB.out).2.1); rintro e w60 ⟨rfl, hb⟩; refine ⟨_, rfl, ?_⟩; have n0_ := Aside0.mk (Kd.R_below zz227 hb); have n1_ := Aside0.mk (Kd.R_below zz228 hb); have n2_ := Aside0.mk (Kd.R_below zz222 hb); clear HO_8 HO_9 HOB; have HO_8 := n0_; have HO_9 := n1_; have HOB := n2_; clear n0_ n1_ n2_; replace BKH := blkA BKH hb; replace BKG := blkA BKG hb; replace HB := Aside0.mk (below_step zz105 hb); (try clear hb)))
       go_ret
       exact ⟨by first | rfl | (simp [errW_none, errW_some] <;> rfl) | (simp [*, errW_none, errW_some] <;> rfl), by repeat (first | (with_reducible first | exact HB.out | apply below_alloc | apply pw_below_drewN | apply below_drew1 | refine below_set ?_ GEH.out | refine below_set ?_ GEG.out) | exact HB.out)⟩
def laws_FnExactWorstJump.Pure : Prop := ∀ (l0 : List (S60)) (l1 : List (S38)), l0.length ≤ maxLen → (∀ x ∈ l0, (((Lit.int .i64 x.f0.f0).wf = true ∧ (Lit.int .i64 x.f0.f1).wf = true) ∧ ((Lit.int .i64 x.f1.f0).wf = true ∧ (Lit.int .i64 x.f1.f1).wf = true))) → l1.length ≤ maxLen → (∀ x ∈ l1, ((Lit.int .i64 x.f0).wf = true ∧ (Lit.int .i64 x.f1).wf = true)) → ∃ k, laws_FnExactWorstJump.f k l0 l1 = some true
end Go.Proofs.Ytlggehdfigkliaa.Q
set_option linter.unusedVariables false
set_option linter.unusedSimpArgs false
namespace Go.Proofs.Ytlggehdfigkliaa.Pu
open Go.RowKit Go.Proofs.Ytlggehdfigkliaa.Q Go.Proofs.YtlggehdfigkliaaW.PrintWords Go.Proofs.YtlggehdfigkliaaW.PrintLast Go.Proofs.YtlggehdfigkliaaW.PrintMore
theorem wr (x : Int) (h : -9223372036854775808 ≤ x ∧ x ≤ 9223372036854775807) : wrap64 x = x := by unfold wrap64; omega
theorem drop_getD {α : Type} (l : List α) (i : Nat) (d : α) (h : i < l.length) : l.drop i = l.getD i d :: l.drop (i + 1) := by
  rw [List.drop_eq_getElem_cons h, List.getD_eq_getElem?_getD, List.getElem?_eq_getElem h]
  rfl
theorem getD_setG {α : Type} (l : List α) (i j : Nat) (v d : α) (hi : i < l.length) : (l.set i v).getD j d = if i = j then v else l.getD j d := by
  simp only [List.getD_eq_getElem?_getD, List.getElem?_set]
  by_cases e : i = j
  · subst e; simp [hi]
  · simp [e]
theorem ext_getDG {α : Type} (d : α) (a b : List α) (hl : a.length = b.length) (h : ∀ j, j < a.length → a.getD j d = b.getD j d) : a = b := by
  apply List.ext_getElem hl
  intro j h1 h2
  have := h j h1
  simpa [List.getD_eq_getElem?_getD, h1, h2] using this
theorem half_lt (b r n : Nat) (hb : b < 2 ^ (n + 1)) (hr : r < b) (h0 : 0 < r) : b % r < 2 ^ n := by
  have h1 : b % r < r := Nat.mod_lt _ h0
  have h2 := Nat.div_add_mod b r
  have h3 : 1 ≤ b / r := (Nat.one_le_div_iff h0).2 (Nat.le_of_lt hr)
  have h4 : r * 1 ≤ r * (b / r) := Nat.mul_le_mul_left r h3
  have h5 : 2 ^ (n + 1) = 2 * 2 ^ n := by rw [Nat.pow_succ]; omega
  omega
theorem gcd_l : ∀ (n k a b : Nat), b < 2 ^ n → 2 * n + 1 < k → impl_greatestDivisor.l0 k (a : Int) (b : Int) = some ((Nat.gcd a b : Nat) : Int) := by
  intro n
  induction n with
  | zero =>
    intro k a b hb hk
    obtain ⟨k, rfl⟩ : ∃ m, k = m + 1 := ⟨k - 1, by omega⟩
    have : b = 0 := by simpa using hb
    subst this
    simp [impl_greatestDivisor.l0]
  | succ n ih =>
    intro k a b hb hk
    obtain ⟨k, rfl⟩ : ∃ m, k = m + 2 := ⟨k - 2, by omega⟩
    simp only [impl_greatestDivisor.l0]
    by_cases h0 : b = 0
    · subst h0; simp
    · rw [if_neg (by omega), ← Int.ofNat_tmod]
      by_cases h1 : a % b = 0
      · rw [h1, if_pos (by rfl), Nat.gcd_comm, Nat.gcd_rec, h1, Nat.gcd_zero_left]
      · rw [if_neg (by omega), ← Int.ofNat_tmod, ih k _ _ (half_lt b (a % b) n hb (Nat.mod_lt _ (by omega)) (by omega)) (by omega)]
        congr 2
        rw [Nat.gcd_comm a b, Nat.gcd_rec b a, Nat.gcd_rec (a % b) b, Nat.gcd_comm]
theorem raCommon_l : ∀ (n k a b : Nat), b < 2 ^ n → 2 * n + 1 < k → spec_raCommon.l0 k (a : Int) (b : Int) = some ((Nat.gcd a b : Nat) : Int) := by
  intro n
  induction n with
  | zero =>
    intro k a b hb hk
    obtain ⟨k, rfl⟩ : ∃ m, k = m + 1 := ⟨k - 1, by omega⟩
    have : b = 0 := by simpa using hb
    subst this
    simp [spec_raCommon.l0]
  | succ n ih =>
    intro k a b hb hk
    obtain ⟨k, rfl⟩ : ∃ m, k = m + 2 := ⟨k - 2, by omega⟩
    simp only [spec_raCommon.l0]
    by_cases h0 : b = 0
    · subst h0; simp
    · rw [if_pos (by omega), if_neg (by omega), ← Int.ofNat_tmod]
      by_cases h1 : a % b = 0
      · rw [h1, if_neg (by simp), Nat.gcd_comm, Nat.gcd_rec, h1, Nat.gcd_zero_left]
      · rw [if_pos (by omega), if_neg (by omega), ← Int.ofNat_tmod, ih k _ _ (half_lt b (a % b) n hb (Nat.mod_lt _ (by omega)) (by omega)) (by omega)]
        congr 2
        rw [Nat.gcd_comm a b, Nat.gcd_rec b a, Nat.gcd_rec (a % b) b, Nat.gcd_comm]
theorem abs_eq (a : Int) (h : -9223372036854775807 ≤ a ∧ a ≤ 9223372036854775807) : impl_abs.f a = some (a.natAbs : Int) := by
  unfold impl_abs.f
  split
  · rw [wr _ (by omega)]; congr 1; omega
  · congr 1; omega
theorem l1Abs_eq (a : Int) (h : -9223372036854775807 ≤ a ∧ a ≤ 9223372036854775807) : spec_l1Abs.f a = some (a.natAbs : Int) := by
  unfold spec_l1Abs.f spec_l1Most.f
  rw [wr _ (by omega)]
  split
  · simp only [Option.bind_some]; congr 1; omega
  · simp only [Option.bind_some]; congr 1; omega
theorem gcd_eq (a b : Int) (ha : -9223372036854775807 ≤ a ∧ a ≤ 9223372036854775807) (hb : -9223372036854775807 ≤ b ∧ b ≤ 9223372036854775807) (k : Nat) (hk : 200 ≤ k) : impl_greatestDivisor.f k a b = some ((Int.gcd a b : Nat) : Int) := by
  unfold impl_greatestDivisor.f
  rw [abs_eq a ha, abs_eq b hb]
  simp only [Option.bind_some]
  rw [gcd_l 64 k _ _ (by omega) (by omega)]
  rfl
def OkR (n d : Int) : Prop := 1 ≤ d ∧ d ≤ 1000000000 ∧ -1000000000 ≤ n ∧ n ≤ 1000000000 ∧ Int.gcd n d = 1
instance (n d : Int) : Decidable (OkR n d) := by unfold OkR; infer_instance
theorem isRat_eq (n d : Int) (k : Nat) (hk : 200 ≤ k) : impl_isRat.f k n d = some (decide (OkR n d)) := by
  unfold impl_isRat.f impl_within.f OkR
  by_cases h1 : 1 ≤ d
  · rw [if_pos h1]
    simp only [Option.bind_some]
    by_cases h2 : d ≤ 1000000000
    · rw [if_pos (by simpa using h2)]
      by_cases h3 : -1000000000 ≤ n
      · rw [if_pos h3]
        simp only [Option.bind_some]
        by_cases h4 : n ≤ 1000000000
        · rw [if_pos (by simpa using h4), gcd_eq n d (by omega) (by omega) k hk]
          simp only [Option.bind_some]
          congr 1
          simp only [h1, h2, h3, h4, true_and]
          rw [Bool.eq_iff_iff]
          simp only [beq_iff_eq, decide_eq_true_eq]
          omega
        · rw [if_neg (by simpa using h4)]; simp [h4]
      · rw [if_neg h3]; simp [h3]
    · rw [if_neg (by simpa using h2)]; simp [h2]
  · rw [if_neg h1]; simp [h1]
theorem raGood_eq (n d : Int) (k : Nat) (hk : 200 ≤ k) : spec_raGood.f k n d = some (decide (OkR n d)) := by
  unfold spec_raGood.f spec_l1In.f OkR
  by_cases h1 : 1 ≤ d
  · rw [if_pos h1]
    simp only [Option.bind_some]
    by_cases h2 : d ≤ 1000000000
    · rw [if_pos (by simpa using h2)]
      by_cases h3 : -1000000000 ≤ n
      · rw [if_pos h3]
        simp only [Option.bind_some]
        by_cases h4 : n ≤ 1000000000
        · rw [if_pos (by simpa using h4), l1Abs_eq n (by omega)]
          simp only [Option.bind_some]
          unfold spec_raCommon.f
          have := raCommon_l 64 k n.natAbs d.natAbs (by omega) (by omega)
          rw [show (d.natAbs : Int) = d by omega] at this
          rw [this]
          simp only [Option.bind_some]
          congr 1
          simp only [h1, h2, h3, h4, true_and]
          rw [Bool.eq_iff_iff, Int.gcd_eq_natAbs_gcd_natAbs]
          simp only [beq_iff_eq, decide_eq_true_eq]
          omega
        · rw [if_neg (by simpa using h4)]; simp [h4]
      · rw [if_neg h3]; simp [h3]
    · rw [if_neg (by simpa using h2)]; simp [h2]
  · rw [if_neg h1]; simp [h1]
def sg (n d : Int) : Int := if d < 0 then -(Int.gcd n d : Int) else (Int.gcd n d : Int)
def mk (n d : Int) : Int × Int × Bool := if OkR (n.tdiv (sg n d)) (d.tdiv (sg n d)) then (n.tdiv (sg n d), d.tdiv (sg n d), true) else (0, 0, false)
theorem tdiv_bd (n q : Int) (h : -9223372036854775807 ≤ n ∧ n ≤ 9223372036854775807) : -9223372036854775808 ≤ n.tdiv q ∧ n.tdiv q ≤ 9223372036854775807 := by
  have h1 := Int.natAbs_tdiv n q
  have h2 : n.natAbs.div q.natAbs ≤ n.natAbs := Nat.div_le_self _ _
  omega
theorem gcd_pos (n d : Int) (hd : d ≠ 0) : 0 < Int.gcd n d := by
  rw [Int.gcd_eq_natAbs_gcd_natAbs]
  exact Nat.gcd_pos_of_pos_right _ (by omega)
theorem gcd_le (n d : Int) (hd : d ≠ 0) : Int.gcd n d ≤ d.natAbs := by
  rw [Int.gcd_eq_natAbs_gcd_natAbs]
  exact Nat.gcd_le_right _ (by omega)
theorem lowest_eq (n d : Int) (hd : d ≠ 0) (hn : -9223372036854775807 ≤ n ∧ n ≤ 9223372036854775807) (hd2 : -9223372036854775807 ≤ d ∧ d ≤ 9223372036854775807) (k : Nat) (hk : 200 ≤ k) : impl_lowest.f k n d = some (mk n d) := by
  unfold impl_lowest.f mk
  have h1 := gcd_pos n d hd
  have h2 := gcd_le n d hd
  rw [gcd_eq n d hn hd2 k hk]
  simp only [Option.bind_some]
  unfold sg
  split
  · rw [wr (-(Int.gcd n d : Int)) (by omega), if_neg (by omega), wr _ (tdiv_bd _ _ hn), wr _ (tdiv_bd _ _ hd2), isRat_eq _ _ k hk]
    simp only [Option.bind_some, decide_eq_true_eq]
    split <;> rfl
  · rw [if_neg (by omega), wr _ (tdiv_bd _ _ hn), wr _ (tdiv_bd _ _ hd2), isRat_eq _ _ k hk]
    simp only [Option.bind_some, decide_eq_true_eq]
    split <;> rfl
theorem raMake_eq (n d : Int) (hd : d ≠ 0) (hn : -9223372036854775807 ≤ n ∧ n ≤ 9223372036854775807) (hd2 : -9223372036854775807 ≤ d ∧ d ≤ 9223372036854775807) (k : Nat) (hk : 200 ≤ k) : spec_raMake.f k n d = some (mk n d) := by
  unfold spec_raMake.f mk
  have h1 := gcd_pos n d hd
  have h2 := gcd_le n d hd
  rw [if_neg hd, l1Abs_eq n hn, l1Abs_eq d hd2]
  simp only [Option.bind_some]
  unfold spec_raCommon.f
  rw [raCommon_l 64 k _ _ (by omega) (by omega)]
  simp only [Option.bind_some]
  rw [← Int.gcd_eq_natAbs_gcd_natAbs]
  unfold sg
  split
  · rw [wr (-(Int.gcd n d : Int)) (by omega), if_neg (by omega), wr _ (tdiv_bd _ _ hn), wr _ (tdiv_bd _ _ hd2), raGood_eq _ _ k hk]
    simp only [Option.bind_some, decide_eq_true_eq]
    split <;> rfl
  · rw [if_neg (by omega), wr _ (tdiv_bd _ _ hn), wr _ (tdiv_bd _ _ hd2), raGood_eq _ _ k hk]
    simp only [Option.bind_some, decide_eq_true_eq]
    split <;> rfl
theorem raMake_zero (n : Int) (k : Nat) : spec_raMake.f k n 0 = some (0, 0, false) := by
  unfold spec_raMake.f
  rw [if_pos rfl]
theorem mk_ok (n d : Int) (h : (mk n d).2.2 = true) : OkR (mk n d).1 (mk n d).2.1 := by
  unfold mk at h ⊢
  split
  · rename_i h1; exact h1
  · rename_i h1; rw [if_neg h1] at h; cases h
theorem mk_bad (n d : Int) (h : (mk n d).2.2 = false) : mk n d = (0, 0, false) := by
  unfold mk at h ⊢
  split
  · rename_i h1; rw [if_pos h1] at h; cases h
  · rfl
theorem natAbs_div_le (n q : Int) : (n.tdiv q).natAbs ≤ n.natAbs := by
  rw [Int.natAbs_tdiv]
  exact Nat.div_le_self _ _
theorem mk_small (n d : Int) (hd : d ≠ 0) (hn : n.natAbs ≤ 1000000000) (hd2 : d.natAbs ≤ 1000000000) : OkR (n.tdiv (sg n d)) (d.tdiv (sg n d)) ∧ (n.tdiv (sg n d)).natAbs ≤ n.natAbs ∧ (d.tdiv (sg n d)).natAbs ≤ d.natAbs ∧ mk n d = (n.tdiv (sg n d), d.tdiv (sg n d), true) := by
  have hg := gcd_pos n d hd
  have e1 : (Int.gcd n d : Int) ∣ n := Int.gcd_dvd_left n d
  have e2 : (Int.gcd n d : Int) ∣ d := Int.gcd_dvd_right n d
  have h1 := natAbs_div_le n (sg n d)
  have h2 := natAbs_div_le d (sg n d)
  have hgo := Int.gcd_ediv_gcd_ediv_gcd hg
  have ok : OkR (n.tdiv (sg n d)) (d.tdiv (sg n d)) := by
    have hpos : 1 ≤ d.tdiv (sg n d) ∧ Int.gcd (n.tdiv (sg n d)) (d.tdiv (sg n d)) = 1 := by
      unfold sg
      split
      · rename_i hneg
        rw [Int.tdiv_neg, Int.tdiv_neg, Int.gcd_neg, Int.neg_gcd, Int.tdiv_eq_ediv_of_dvd e1, Int.tdiv_eq_ediv_of_dvd e2]
        refine ⟨?_, hgo⟩
        obtain ⟨c, hc⟩ := e2
        have : d / (Int.gcd n d : Int) = c := by
          conv => lhs; lhs; rw [hc]
          exact Int.mul_ediv_cancel_left c (by omega)
        rw [this]
        have : c < 0 := by
          rcases Int.lt_or_le c 0 with h | h
          · exact h
          · have := Int.mul_nonneg (show (0 : Int) ≤ (Int.gcd n d : Int) by omega) h
            omega
        omega
      · rename_i hpos
        rw [Int.tdiv_eq_ediv_of_dvd e1, Int.tdiv_eq_ediv_of_dvd e2]
        refine ⟨?_, hgo⟩
        obtain ⟨c, hc⟩ := e2
        have : d / (Int.gcd n d : Int) = c := by
          conv => lhs; lhs; rw [hc]
          exact Int.mul_ediv_cancel_left c (by omega)
        rw [this]
        rcases Int.lt_or_le 0 c with h | h
        · omega
        · have := Int.mul_le_mul_of_nonneg_left h (show (0 : Int) ≤ (Int.gcd n d : Int) by omega)
          rw [Int.mul_zero] at this
          omega
    exact ⟨hpos.1, by omega, by omega, by omega, hpos.2⟩
  exact ⟨ok, h1, h2, by unfold mk; rw [if_pos ok]⟩
end Go.Proofs.Ytlggehdfigkliaa.Pu
set_option linter.unusedVariables false
set_option linter.unusedSimpArgs false
namespace Go.Proofs.Ytlggehdfigkliaa.Pu
open Go.RowKit Go.Proofs.Ytlggehdfigkliaa.Q Go.Proofs.YtlggehdfigkliaaW.PrintWords Go.Proofs.YtlggehdfigkliaaW.PrintLast Go.Proofs.YtlggehdfigkliaaW.PrintMore
theorem rdRat (l : List S27) (i : Nat) : rd_T27 l (i : Int) = l.getD i z27 := by simp [rd_T27]
theorem rdlRat (l : List S38) (i : Nat) : rd_T38 l (i : Int) = l.getD i z38 := by simp [rd_T38]
def cvRat (x : S38) : S27 := ⟨x.f0, x.f1⟩
theorem cvRat_getD (l : List S38) (i : Nat) (h : i < l.length) : (l.map cvRat).getD i z27 = cvRat (l.getD i z38) := by
  simp [List.getD_eq_getElem?_getD, h]
theorem toRatS_l (x0 : List S38) (hb : x0.length ≤ 9000000000000000000) : ∀ (d k : Nat) (x3 : List S27) (i : Nat), i + d = x0.length → x3.length = x0.length → (∀ j, j < i → x3.getD j z27 = cvRat (x0.getD j z38)) → d < k → laws_toRatS.l0 k x0 x3 (i : Int) = some (x0.map cvRat) := by
  intro d
  induction d with
  | zero =>
    intro k x3 i hi hl hj hk
    obtain ⟨k, rfl⟩ : ∃ m, k = m + 1 := ⟨k - 1, by omega⟩
    simp only [laws_toRatS.l0]
    rw [if_neg (by omega), ext_getDG z27 x3 (x0.map cvRat) (by simpa using hl) (fun j h => by rw [hj j (by omega), cvRat_getD _ _ (by omega)])]
  | succ d ih =>
    intro k x3 i hi hl hj hk
    obtain ⟨k, rfl⟩ : ∃ m, k = m + 1 := ⟨k - 1, by omega⟩
    simp only [laws_toRatS.l0, laws_toRat.f, laws_toRat.f, Option.bind_some]
    rw [if_pos (by omega), if_pos (by omega), if_pos (by omega), wr _ (by omega), Int.toNat_natCast, rdlRat]
    refine ih k _ (i + 1) (by omega) (by simpa using hl) (fun j h => ?_) (by omega)
    rw [getD_setG _ _ _ _ _ (by omega)]
    split
    · rename_i e; rw [← e]; rfl
    · exact hj j (by omega)
theorem toRatS (l : List S38) (hb : l.length ≤ 1048576) (k : Nat) (hk : l.length < k) : laws_toRatS.f k l = some (l.map cvRat) := by
  unfold laws_toRatS.f
  rw [if_pos (by omega), if_pos (by omega)]
  exact toRatS_l l (by omega) l.length k _ 0 (by omega) (by simp) (fun j h => by omega) hk
theorem eqRat_self (x : S27) : laws_eqRat.f x.f0 x.f1 x.f0 x.f1 = some true := by
  simp [laws_eqRat.f, laws_eqRat.f]
theorem eqRatS_l (a : List S27) (hb : a.length ≤ 9000000000000000000) : ∀ (d k : Nat) (i : Nat), i + d = a.length → d < k → laws_eqRatS.l0 k a a (i : Int) = some true := by
  intro d
  induction d with
  | zero =>
    intro k i hi hk
    obtain ⟨k, rfl⟩ : ∃ m, k = m + 1 := ⟨k - 1, by omega⟩
    simp only [laws_eqRatS.l0]
    rw [if_neg (by omega)]
  | succ d ih =>
    intro k i hi hk
    obtain ⟨k, rfl⟩ : ∃ m, k = m + 1 := ⟨k - 1, by omega⟩
    simp only [laws_eqRatS.l0, eqRat_self, Option.bind_some]
    rw [if_pos (by omega), if_pos (by omega), if_pos (by omega), wr _ (by omega)]
    exact ih k (i + 1) (by omega) (by omega)
theorem eqRatS_self (a : List S27) (hb : a.length ≤ 9000000000000000000) (k : Nat) (hk : a.length < k) : laws_eqRatS.f k a a = some true := by
  unfold laws_eqRatS.f
  rw [if_pos rfl]
  exact eqRatS_l a hb a.length k 0 (by omega) hk
end Go.Proofs.Ytlggehdfigkliaa.Pu
set_option linter.unusedVariables false
set_option linter.unusedSimpArgs false
namespace Go.Proofs.Ytlggehdfigkliaa.Pu
open Go.RowKit Go.Proofs.Ytlggehdfigkliaa.Q Go.Proofs.YtlggehdfigkliaaW.PrintWords Go.Proofs.YtlggehdfigkliaaW.PrintLast Go.Proofs.YtlggehdfigkliaaW.PrintMore
theorem rdPoint (l : List S57) (i : Nat) : rd_T57 l (i : Int) = l.getD i z57 := by simp [rd_T57]
theorem rdlPoint (l : List S60) (i : Nat) : rd_T60 l (i : Int) = l.getD i z60 := by simp [rd_T60]
def cvPoint (x : S60) : S57 := ⟨⟨x.f0.f0, x.f0.f1⟩, ⟨x.f1.f0, x.f1.f1⟩⟩
theorem cvPoint_getD (l : List S60) (i : Nat) (h : i < l.length) : (l.map cvPoint).getD i z57 = cvPoint (l.getD i z60) := by
  simp [List.getD_eq_getElem?_getD, h]
theorem toPointS_l (x0 : List S60) (hb : x0.length ≤ 9000000000000000000) : ∀ (d k : Nat) (x3 : List S57) (i : Nat), i + d = x0.length → x3.length = x0.length → (∀ j, j < i → x3.getD j z57 = cvPoint (x0.getD j z60)) → d < k → laws_toPointS.l0 k x0 x3 (i : Int) = some (x0.map cvPoint) := by
  intro d
  induction d with
  | zero =>
    intro k x3 i hi hl hj hk
    obtain ⟨k, rfl⟩ : ∃ m, k = m + 1 := ⟨k - 1, by omega⟩
    simp only [laws_toPointS.l0]
    rw [if_neg (by omega), ext_getDG z57 x3 (x0.map cvPoint) (by simpa using hl) (fun j h => by rw [hj j (by omega), cvPoint_getD _ _ (by omega)])]
  | succ d ih =>
    intro k x3 i hi hl hj hk
    obtain ⟨k, rfl⟩ : ∃ m, k = m + 1 := ⟨k - 1, by omega⟩
    simp only [laws_toPointS.l0, laws_toPoint.f, laws_toRat.f, Option.bind_some]
    rw [if_pos (by omega), if_pos (by omega), if_pos (by omega), wr _ (by omega), Int.toNat_natCast, rdlPoint]
    refine ih k _ (i + 1) (by omega) (by simpa using hl) (fun j h => ?_) (by omega)
    rw [getD_setG _ _ _ _ _ (by omega)]
    split
    · rename_i e; rw [← e]; rfl
    · exact hj j (by omega)
theorem toPointS (l : List S60) (hb : l.length ≤ 1048576) (k : Nat) (hk : l.length < k) : laws_toPointS.f k l = some (l.map cvPoint) := by
  unfold laws_toPointS.f
  rw [if_pos (by omega), if_pos (by omega)]
  exact toPointS_l l (by omega) l.length k _ 0 (by omega) (by simp) (fun j h => by omega) hk
theorem eqPoint_self (x : S57) : laws_eqPoint.f x.f0.f0 x.f0.f1 x.f1.f0 x.f1.f1 x.f0.f0 x.f0.f1 x.f1.f0 x.f1.f1 = some true := by
  simp [laws_eqPoint.f, laws_eqRat.f]
theorem eqPointS_l (a : List S57) (hb : a.length ≤ 9000000000000000000) : ∀ (d k : Nat) (i : Nat), i + d = a.length → d < k → laws_eqPointS.l0 k a a (i : Int) = some true := by
  intro d
  induction d with
  | zero =>
    intro k i hi hk
    obtain ⟨k, rfl⟩ : ∃ m, k = m + 1 := ⟨k - 1, by omega⟩
    simp only [laws_eqPointS.l0]
    rw [if_neg (by omega)]
  | succ d ih =>
    intro k i hi hk
    obtain ⟨k, rfl⟩ : ∃ m, k = m + 1 := ⟨k - 1, by omega⟩
    simp only [laws_eqPointS.l0, eqPoint_self, Option.bind_some]
    rw [if_pos (by omega), if_pos (by omega), if_pos (by omega), wr _ (by omega)]
    exact ih k (i + 1) (by omega) (by omega)
theorem eqPointS_self (a : List S57) (hb : a.length ≤ 9000000000000000000) (k : Nat) (hk : a.length < k) : laws_eqPointS.f k a a = some true := by
  unfold laws_eqPointS.f
  rw [if_pos rfl]
  exact eqPointS_l a hb a.length k 0 (by omega) hk
end Go.Proofs.Ytlggehdfigkliaa.Pu
set_option linter.unusedVariables false
set_option linter.unusedSimpArgs false
namespace Go.Proofs.Ytlggehdfigkliaa.Pu
open Go.RowKit Go.Proofs.Ytlggehdfigkliaa.Q Go.Proofs.YtlggehdfigkliaaW.PrintWords Go.Proofs.YtlggehdfigkliaaW.PrintLast Go.Proofs.YtlggehdfigkliaaW.PrintMore
theorem mul_bd (x y : Int) (B C : Nat) (hx : x.natAbs ≤ B) (hy : y.natAbs ≤ C) : (x * y).natAbs ≤ B * C := by
  rw [Int.natAbs_mul]
  exact Nat.mul_le_mul hx hy
def Bd (n d : Int) : Prop := n.natAbs ≤ 1000000000 ∧ d.natAbs ≤ 1000000000
theorem OkR.bd {n d : Int} (h : OkR n d) : Bd n d := by
  obtain ⟨h1, h2, h3, h4, _⟩ := h
  exact ⟨by omega, by omega⟩
theorem cross_bd {a b c d : Int} (h1 : Bd a b) (h2 : Bd c d) : (a * d).natAbs ≤ 1000000000000000000 ∧ (c * b).natAbs ≤ 1000000000000000000 ∧ (b * d).natAbs ≤ 1000000000000000000 ∧ (a * c).natAbs ≤ 1000000000000000000 :=
  ⟨mul_bd a d _ _ h1.1 h2.2, mul_bd c b _ _ h2.1 h1.2, mul_bd b d _ _ h1.2 h2.2, mul_bd a c _ _ h1.1 h2.1⟩
theorem less_eq {a b c d : Int} (h1 : Bd a b) (h2 : Bd c d) : impl_less.f a b c d = some (decide (a * d < c * b)) := by
  obtain ⟨m1, m2, _⟩ := cross_bd h1 h2
  unfold impl_less.f impl_compare.f
  generalize a * d = p at *
  generalize c * b = q at *
  rw [wr p (by omega), wr q (by omega)]
  by_cases h : p < q
  · rw [if_pos h]; simp [h]
  · rw [if_neg h]
    by_cases h3 : p > q
    · rw [if_pos h3]; simp [h]
    · rw [if_neg h3]; simp [h]
theorem raCmp_eq {a b c d : Int} (h1 : Bd a b) (h2 : Bd c d) : ∃ t, spec_raCmp.f a b c d = some t ∧ (t < 0 ↔ a * d < c * b) ∧ (t = 0 ↔ a * d = c * b) := by
  obtain ⟨m1, m2, _⟩ := cross_bd h1 h2
  unfold spec_raCmp.f spec_l1Sign.f
  generalize a * d = p at *
  generalize c * b = q at *
  rw [wr p (by omega), wr q (by omega), wr (p - q) (by omega)]
  by_cases h : p - q > 0
  · rw [if_pos h]
    exact ⟨1, rfl, by omega, by omega⟩
  · rw [if_neg h]
    by_cases h3 : p - q < 0
    · rw [if_pos h3]
      exact ⟨-1, rfl, by omega, by omega⟩
    · rw [if_neg h3]
      exact ⟨0, rfl, by omega, by omega⟩
def OkU (n d : Int) : Prop := OkR n d ∧ 0 ≤ n ∧ n ≤ d
instance (n d : Int) : Decidable (OkU n d) := by unfold OkU; infer_instance
def Co (n d : Int) : Prop := OkU n d ∧ d ≤ 100
instance (n d : Int) : Decidable (Co n d) := by unfold Co; infer_instance
theorem isUnit_eq (n d : Int) (k : Nat) (hk : 200 ≤ k) : impl_isUnit.f k n d = some (decide (OkU n d)) := by
  unfold impl_isUnit.f OkU
  rw [isRat_eq n d k hk]
  simp only [Option.bind_some, decide_eq_true_eq]
  by_cases h : OkR n d
  · rw [if_pos h]
    by_cases h2 : n ≥ 0
    · rw [if_pos h2]; simp [h, h2]
    · rw [if_neg h2]; simp [h2]
  · rw [if_neg h]; simp [h]
theorem raUnit_eq (n d : Int) (k : Nat) (hk : 200 ≤ k) : spec_raUnit.f k n d = some (decide (OkU n d)) := by
  unfold spec_raUnit.f spec_l1In.f OkU
  rw [raGood_eq n d k hk]
  simp only [Option.bind_some, decide_eq_true_eq]
  by_cases h : OkR n d
  · rw [if_pos h]
    by_cases h2 : n ≥ 0
    · rw [if_pos h2]; simp [h, h2]
    · rw [if_neg h2]; simp [h2]
  · rw [if_neg h]; simp [h]
theorem isCoord_eq (n d : Int) (k : Nat) (hk : 200 ≤ k) : impl_isCoord.f k n d = some (decide (Co n d)) := by
  unfold impl_isCoord.f Co
  rw [isUnit_eq n d k hk]
  simp only [Option.bind_some, decide_eq_true_eq]
  by_cases h : OkU n d
  · rw [if_pos h]; simp [h]
  · rw [if_neg h]; simp [h]
theorem imCoord_eq (n d : Int) (k : Nat) (hk : 200 ≤ k) : spec_imCoord.f k n d = some (decide (Co n d)) := by
  unfold spec_imCoord.f Co
  rw [raUnit_eq n d k hk]
  simp only [Option.bind_some, decide_eq_true_eq]
  by_cases h : OkU n d
  · rw [if_pos h]; simp [h]
  · rw [if_neg h]; simp [h]
abbrev Ra := S27
abbrev Pt := S57
def nr (l : List Ra) (i : Nat) : Ra := l.getD i z27
def np (l : List Pt) (i : Nat) : Pt := l.getD i z57
theorem rd_nr (l : List Ra) (i : Nat) : rd_T27 l (i : Int) = nr l i := rdRat l i
theorem rd_np (l : List Pt) (i : Nat) : rd_T57 l (i : Int) = np l i := rdPoint l i
theorem rd_nr0 (l : List Ra) : rd_T27 l 0 = nr l 0 := rdRat l 0
theorem rd_np0 (l : List Pt) : rd_T57 l 0 = np l 0 := rdPoint l 0
theorem nr_mem (l : List Ra) (i : Nat) (h : i < l.length) : nr l i ∈ l := getD_mem l i _ h
theorem np_mem (l : List Pt) (i : Nat) (h : i < l.length) : np l i ∈ l := getD_mem l i _ h
theorem mem_nr (l : List Ra) (x : Ra) (h : x ∈ l) : ∃ i, i < l.length ∧ nr l i = x := by
  obtain ⟨i, hi, e⟩ := List.mem_iff_getElem.1 h
  exact ⟨i, hi, by simp [nr, List.getD_eq_getElem?_getD, hi, e]⟩
theorem mem_np (l : List Pt) (x : Pt) (h : x ∈ l) : ∃ i, i < l.length ∧ np l i = x := by
  obtain ⟨i, hi, e⟩ := List.mem_iff_getElem.1 h
  exact ⟨i, hi, by simp [np, List.getD_eq_getElem?_getD, hi, e]⟩
def Lt (a b : Ra) : Prop := a.f0 * b.f1 < b.f0 * a.f1
instance (a b : Ra) : Decidable (Lt a b) := by unfold Lt; infer_instance
def BdR (a : Ra) : Prop := Bd a.f0 a.f1
theorem rising_l (l : List Ra) (hl : l.length ≤ 1048576) (hb : ∀ x ∈ l, BdR x) : ∀ (d k i : Nat), 1 ≤ i → i + d = l.length ∨ d = 0 ∧ l.length ≤ i ∧ i ≤ 1048577 → d < k →
    ∃ b, impl_isRising.l0 k l (i : Int) = some b ∧ (b = true ↔ ∀ j, i ≤ j → j < l.length → Lt (nr l (j - 1)) (nr l j)) := by
  intro d
  induction d with
  | zero =>
    intro k i h1 hi hk
    obtain ⟨k, rfl⟩ : ∃ m, k = m + 1 := ⟨k - 1, by omega⟩
    simp only [impl_isRising.l0]
    rw [if_neg (by omega)]
    exact ⟨true, rfl, by simp; intro j _ _; omega⟩
  | succ d ih =>
    intro k i h1 hi hk
    obtain ⟨k, rfl⟩ : ∃ m, k = m + 1 := ⟨k - 1, by omega⟩
    simp only [impl_isRising.l0]
    rw [wr (_ - 1) (by omega), wr (_ + 1) (by omega), if_pos (by omega), if_pos (by omega), if_pos (by omega), if_pos (by omega),
      show (i : Int) - 1 = ((i - 1 : Nat) : Int) by omega, show (i : Int) + 1 = ((i + 1 : Nat) : Int) by omega, rd_nr, rd_nr, less_eq (hb _ (nr_mem l _ (by omega))) (hb _ (nr_mem l _ (by omega)))]
    simp only [Option.bind_some, decide_eq_true_eq]
    by_cases h : Lt (nr l (i - 1)) (nr l i)
    · rw [if_pos (show (nr l (i - 1)).f0 * (nr l i).f1 < (nr l i).f0 * (nr l (i - 1)).f1 from h)]
      obtain ⟨b, e, hb2⟩ := ih k (i + 1) (by omega) (by omega) (by omega)
      refine ⟨b, e, hb2.trans ⟨fun hh j hj hl2 => ?_, fun hh j hj hl2 => hh j (by omega) hl2⟩⟩
      by_cases ej : j = i
      · subst ej; exact h
      · exact hh j (by omega) hl2
    · rw [if_neg (show ¬ (nr l (i - 1)).f0 * (nr l i).f1 < (nr l i).f0 * (nr l (i - 1)).f1 from h)]
      exact ⟨false, rfl, by simp; exact ⟨i, Nat.le_refl _, by omega, h⟩⟩
def Rising (l : List Ra) : Prop := ∀ j, 1 ≤ j → j < l.length → Lt (nr l (j - 1)) (nr l j)
theorem rising_eq (l : List Ra) (hl : l.length ≤ 1048576) (hb : ∀ x ∈ l, BdR x) (k : Nat) (hk : l.length < k) : ∃ b, impl_isRising.f k l = some b ∧ (b = true ↔ Rising l) := by
  unfold impl_isRising.f
  exact rising_l l hl hb (l.length - 1) k 1 (by omega) (by omega) (by omega)
theorem xsOf_l (l : List Pt) (hl : l.length ≤ 1048576) : ∀ (d k i : Nat) (out : List Ra), i + d = l.length → out.length ≤ i → d < k → impl_xsOf.l0 k out l (l.length : Int) (i : Int) = some (out ++ (l.drop i).map fun p => p.f0) := by
  intro d
  induction d with
  | zero =>
    intro k i out hi ho hk
    obtain ⟨k, rfl⟩ : ∃ m, k = m + 1 := ⟨k - 1, by omega⟩
    simp only [impl_xsOf.l0]
    rw [if_neg (by omega), List.drop_of_length_le (by omega)]
    simp
  | succ d ih =>
    intro k i out hi ho hk
    obtain ⟨k, rfl⟩ : ∃ m, k = m + 1 := ⟨k - 1, by omega⟩
    simp only [impl_xsOf.l0]
    rw [wr (_ + 1) (by omega), if_pos (by omega), if_pos (by omega), if_pos (by omega), if_pos (by omega), show (i : Int) + 1 = ((i + 1 : Nat) : Int) by omega, rd_np, ih k (i + 1) _ (by omega) (by simp; omega) (by omega),
      drop_getD l i z57 (by omega)]
    simp [np]
theorem xsOf_eq (l : List Pt) (hl : l.length ≤ 1048576) (k : Nat) (hk : l.length < k) : impl_xsOf.f k l = some (l.map fun p => p.f0) := by
  unfold impl_xsOf.f
  have := xsOf_l l hl l.length k 0 [] (by omega) (by simp) hk
  simpa using this
theorem nr_xs (l : List Pt) (i : Nat) (h : i < l.length) : nr (l.map fun p => p.f0) i = (np l i).f0 := by
  simp [nr, np, List.getD_eq_getElem?_getD, h]
def CoP (p : Pt) : Prop := Co p.f0.f0 p.f0.f1 ∧ Co p.f1.f0 p.f1.f1
instance (p : Pt) : Decidable (CoP p) := by unfold CoP; infer_instance
structure IsMap (l : List Pt) : Prop where
  two : 2 ≤ l.length
  most : l.length ≤ 12
  co : ∀ i, i < l.length → CoP (np l i)
  up : ∀ i, 1 ≤ i → i < l.length → Lt (np l (i - 1)).f0 (np l i).f0
  first : (np l 0).f0 = ⟨0, 1⟩
  last : (np l (l.length - 1)).f0 = ⟨1, 1⟩
theorem CoP.bx {p : Pt} (h : CoP p) : BdR p.f0 := h.1.1.1.bd
theorem CoP.by {p : Pt} (h : CoP p) : BdR p.f1 := h.2.1.1.bd
theorem rat_ext {a : Ra} {n d : Int} (h0 : a.f0 = n) (h1 : a.f1 = d) : a = ⟨n, d⟩ := by cases a; simp_all
theorem isMap_eq (l : List Pt) (hl : l.length ≤ 1048576) (k : Nat) (hk : 1000 ≤ k) : ∃ b, impl_isMap.f k l = some b ∧ (b = true ↔ IsMap l) := by
  unfold impl_isMap.f impl_within.f
  obtain ⟨k, rfl⟩ : ∃ m, k = m + 1 := ⟨k - 1, by omega⟩
  by_cases h2 : (2 : Int) ≤ (l.length : Int)
  · rw [if_pos h2]
    simp only [Option.bind_some]
    by_cases h12 : (l.length : Int) ≤ 12
    · rw [if_pos (by simpa using h12)]
      have hc : ContainsFunc_impl_isMap_1.f (k + 1) l = some (l.any fun p => !decide (CoP p)) := by
        unfold ContainsFunc_impl_isMap_1.f
        apply anyS_of
        intro x _
        unfold impl_isMap_1.f
        rw [isCoord_eq _ _ _ (by omega), isCoord_eq _ _ _ (by omega)]
        simp only [Option.bind_some, decide_eq_true_eq]
        by_cases h : Co x.f0.f0 x.f0.f1
        · rw [if_pos h]; simp [CoP, h]
        · rw [if_neg h]; simp [CoP, h]
      rw [hc]
      simp only [Option.bind_some, impl_isMap.j0]
      by_cases ha : (l.any fun p => !decide (CoP p)) = true
      · rw [if_pos ha]
        refine ⟨false, rfl, ⟨fun h => (by cases h), fun hm => ?_⟩⟩
        obtain ⟨x, hx, hn⟩ := List.any_eq_true.1 ha
        obtain ⟨i, hi, e⟩ := mem_np l x hx
        have := hm.co i hi
        rw [e] at this
        simp [this] at hn
      · rw [if_neg ha]
        have hco : ∀ x ∈ l, CoP x := fun x hx => by
          have : ¬ ((!decide (CoP x)) = true) := fun hh => ha (List.any_eq_true.2 ⟨x, hx, hh⟩)
          simpa using this
        rw [if_pos (by omega)]
        unfold impl_zero.f impl_oneRat.f
        simp only [Option.bind_some]
        rw [wr (_ - 1) (by omega), rd_np0, show (l.length : Int) - 1 = ((l.length - 1 : Nat) : Int) by omega, rd_np]
        by_cases hf : ((np l 0).f0.f0 == 0 && (np l 0).f0.f1 == 1) = true
        · rw [if_pos hf, if_pos (by omega), if_pos (by omega)]
          have hf' : (np l 0).f0 = ⟨0, 1⟩ := by
            simp only [Bool.and_eq_true, beq_iff_eq] at hf
            exact rat_ext hf.1 hf.2
          by_cases hg : ((np l (l.length - 1)).f0.f0 == 1 && (np l (l.length - 1)).f0.f1 == 1) = true
          · rw [if_pos hg]
            have hg' : (np l (l.length - 1)).f0 = ⟨1, 1⟩ := by
              simp only [Bool.and_eq_true, beq_iff_eq] at hg
              exact rat_ext hg.1 hg.2
            rw [xsOf_eq l (by omega) _ (by omega)]
            simp only [Option.bind_some]
            obtain ⟨b, e, hb⟩ := rising_eq (l.map fun p => p.f0) (by simp; omega) (fun x hx => by
              obtain ⟨p, hp, rfl⟩ := List.mem_map.1 hx
              exact (hco p hp).bx) k (by simp; omega)
            rw [e]
            refine ⟨b, rfl, hb.trans ⟨fun hr => ⟨by omega, by omega, fun i hi => hco _ (np_mem l i hi), fun i h1 hi => ?_, hf', hg'⟩, fun hm j h1 hj => ?_⟩⟩
            · have := hr i h1 (by simpa using hi)
              rwa [nr_xs _ _ (by omega), nr_xs _ _ hi] at this
            · rw [nr_xs _ _ (by simp at hj; omega), nr_xs _ _ (by simpa using hj)]
              exact hm.up j h1 (by simpa using hj)
          · rw [if_neg hg]
            exact ⟨false, rfl, by simp; intro hm; exact hg (by rw [hm.last]; rfl)⟩
        · rw [if_neg hf]
          exact ⟨false, rfl, by simp; intro hm; exact hf (by rw [hm.first]; rfl)⟩
    · rw [if_neg (by simpa using h12)]
      simp only [impl_isMap.j0, if_true]
      exact ⟨false, rfl, by simp; intro hm; have := hm.most; omega⟩
  · rw [if_neg h2]
    simp only [Option.bind_some, impl_isMap.j0, if_true]
    exact ⟨false, rfl, by simp; intro hm; have := hm.two; omega⟩
theorem imGood_l (l : List Pt) (h2 : 2 ≤ l.length) (h12 : l.length ≤ 12) : ∀ (d k i : Nat), i + d = l.length → (∀ j, j < i → CoP (np l j)) → (∀ j, 1 ≤ j → j < i → Lt (np l (j - 1)).f0 (np l j).f0) → 500 + d < k →
    ∃ b, spec_imGood.l0 k l l (l.length : Int) (i : Int) = some b ∧ (b = true ↔ IsMap l) := by
  intro d
  induction d with
  | zero =>
    intro k i hi hco hup hk
    obtain ⟨k, rfl⟩ : ∃ m, k = m + 1 := ⟨k - 1, by omega⟩
    simp only [spec_imGood.l0, spec_raInt.f, Option.bind_some]
    rw [if_neg (by omega), if_pos (by omega), rd_np0, wr (_ - 1) (by omega), show (l.length : Int) - 1 = ((l.length - 1 : Nat) : Int) by omega, rd_np]
    obtain ⟨t, e, _, h0⟩ := raCmp_eq (hco 0 (by omega)).bx (show Bd 0 1 by unfold Bd; omega)
    obtain ⟨t2, e2, _, h02⟩ := raCmp_eq (hco (l.length - 1) (by omega)).bx (show Bd 1 1 by unfold Bd; omega)
    rw [e, e2]
    simp only [Option.bind_some]
    have c0 := (hco 0 (by omega)).1.1
    have c1 := (hco (l.length - 1) (by omega)).1.1
    by_cases ht : t = 0
    · rw [if_pos ht, if_pos (by omega), if_pos (by omega)]
      refine ⟨_, rfl, ?_⟩
      have hz := h0.1 ht
      have hz0 : (np l 0).f0.f0 = 0 := by omega
      have hf' : (np l 0).f0 = ⟨0, 1⟩ := by
        refine rat_ext hz0 ?_
        have hg := c0.1.2.2.2.2
        have hp := c0.1.1
        rw [hz0, Int.gcd_zero_left] at hg
        omega
      simp only [beq_iff_eq]
      rw [h02]
      constructor
      · intro hh
        have hz1 : (np l (l.length - 1)).f0.f0 = (np l (l.length - 1)).f0.f1 := by omega
        have hg' : (np l (l.length - 1)).f0 = ⟨1, 1⟩ := by
          have hg := c1.1.2.2.2.2
          have hp := c1.1.1
          rw [hz1, Int.gcd_self] at hg
          exact rat_ext (by omega) (by omega)
        exact ⟨by omega, by omega, fun j hj => hco j (by omega), fun j h1 hj => hup j h1 (by omega), hf', hg'⟩
      · intro hm
        rw [hm.last]
    · rw [if_neg ht]
      refine ⟨false, rfl, ⟨fun h => (by cases h), fun hm => absurd (h0.2 (by rw [hm.first])) ht⟩⟩
  | succ d ih =>
    intro k i hi hco hup hk
    obtain ⟨k, rfl⟩ : ∃ m, k = m + 1 := ⟨k - 1, by omega⟩
    simp only [spec_imGood.l0]
    rw [if_pos (by omega), if_pos (by omega), if_pos (by omega), rd_np, imCoord_eq _ _ k (by omega), imCoord_eq _ _ k (by omega)]
    simp only [Option.bind_some, decide_eq_true_eq]
    by_cases hx : Co (np l i).f0.f0 (np l i).f0.f1
    · rw [if_pos hx]
      by_cases hy : Co (np l i).f1.f0 (np l i).f1.f1
      · rw [if_pos hy, wr (_ + 1) (by omega), show (i : Int) + 1 = ((i + 1 : Nat) : Int) by omega]
        have hci : CoP (np l i) := ⟨hx, hy⟩
        have hco' : ∀ j, j < i + 1 → CoP (np l j) := fun j hj => by
          by_cases ej : j = i
          · subst ej; exact hci
          · exact hco j (by omega)
        by_cases h0 : (i : Int) > 0
        · rw [if_pos h0, wr (_ - 1) (by omega), if_pos (by omega), if_pos (by omega), show (i : Int) - 1 = ((i - 1 : Nat) : Int) by omega, rd_np]
          obtain ⟨t, e, hlt, _⟩ := raCmp_eq (hco (i - 1) (by omega)).bx hci.bx
          rw [e]
          simp only [Option.bind_some]
          by_cases ht : t ≥ 0
          · rw [if_pos ht]
            refine ⟨false, rfl, ⟨fun h => (by cases h), fun hm => ?_⟩⟩
            have := hm.up i (by omega) (by omega)
            have := hlt.2 this
            omega
          · rw [if_neg ht]
            refine ih k (i + 1) (by omega) hco' (fun j h1 hj => ?_) (by omega)
            by_cases ej : j = i
            · subst ej; exact hlt.1 (by omega)
            · exact hup j h1 (by omega)
        · rw [if_neg h0]
          exact ih k (i + 1) (by omega) hco' (fun j h1 hj => by omega) (by omega)
      · rw [if_neg hy]
        exact ⟨false, rfl, by simp; intro hm; exact hy (hm.co i (by omega)).2⟩
    · rw [if_neg hx]
      exact ⟨false, rfl, by simp; intro hm; exact hx (hm.co i (by omega)).1⟩
theorem imGood_eq (l : List Pt) (hl : l.length ≤ 1048576) (k : Nat) (hk : 1000 ≤ k) : ∃ b, spec_imGood.f k l = some b ∧ (b = true ↔ IsMap l) := by
  unfold spec_imGood.f spec_l1In.f
  by_cases h2 : (l.length : Int) ≥ 2
  · rw [if_pos h2]
    simp only [Option.bind_some]
    by_cases h12 : (l.length : Int) ≤ 12
    · rw [if_pos (by simpa using h12)]
      exact imGood_l l (by omega) (by omega) l.length k 0 (by omega) (fun j hj => by omega) (fun j _ hj => by omega) (by omega)
    · rw [if_neg (by simpa using h12)]
      exact ⟨false, rfl, by simp; intro hm; have := hm.most; omega⟩
  · rw [if_neg h2]
    simp only [Option.bind_some]
    exact ⟨false, rfl, by simp; intro hm; have := hm.two; omega⟩
open Classical in
noncomputable def mapB (l : List Pt) : Bool := decide (IsMap l)
theorem mapB_iff (l : List Pt) : mapB l = true ↔ IsMap l := by unfold mapB; simp
theorem isMapB (l : List Pt) (hl : l.length ≤ 1048576) (k : Nat) (hk : 1000 ≤ k) : impl_isMap.f k l = some (mapB l) := by
  obtain ⟨b, e, h⟩ := isMap_eq l hl k hk
  rw [e]
  congr 1
  rw [Bool.eq_iff_iff, h, mapB_iff]
theorem imGoodB (l : List Pt) (hl : l.length ≤ 1048576) (k : Nat) (hk : 1000 ≤ k) : spec_imGood.f k l = some (mapB l) := by
  obtain ⟨b, e, h⟩ := imGood_eq l hl k hk
  rw [e]
  congr 1
  rw [Bool.eq_iff_iff, h, mapB_iff]
end Go.Proofs.Ytlggehdfigkliaa.Pu
set_option linter.unusedVariables false
set_option linter.unusedSimpArgs false
namespace Go.Proofs.Ytlggehdfigkliaa.Pu
open Go.RowKit Go.Proofs.Ytlggehdfigkliaa.Q Go.Proofs.YtlggehdfigkliaaW.PrintWords Go.Proofs.YtlggehdfigkliaaW.PrintLast Go.Proofs.YtlggehdfigkliaaW.PrintMore
abbrev Tri := Int × Int × Bool
def kp (s : Bool) (m : Tri) : Tri := if m.2.2 = true then (m.1, m.2.1, s) else (0, 1, true)
theorem keep_eq (s : Bool) (m : Tri) : impl_calc_keep.f s m.1 m.2.1 m.2.2 = some (kp s m) := by
  unfold impl_calc_keep.f kp impl_zero.f
  split <;> rfl
theorem ok_zero : OkR 0 1 := by unfold OkR; decide
theorem kp_ok {s : Bool} {m : Tri} (h : m.2.2 = true → OkR m.1 m.2.1) : OkR (kp s m).1 (kp s m).2.1 := by
  unfold kp
  split
  · rename_i h1; exact h h1
  · exact ok_zero
theorem kp_bad (s : Bool) (m : Tri) : (kp s m).2.2 = (s || !m.2.2) := by
  unfold kp
  cases m.2.2 <;> simp
theorem kp_val {s : Bool} {m : Tri} (h : m.2.2 = true) : kp s m = (m.1, m.2.1, s) := by
  unfold kp
  rw [if_pos h]
theorem areRats2 (a b : Ra) (k : Nat) (hk : 300 ≤ k) : impl_areRats.f k [a, b] = some (decide (OkR a.f0 a.f1) && decide (OkR b.f0 b.f1)) := by
  unfold impl_areRats.f
  obtain ⟨k, rfl⟩ : ∃ m, k = m + 3 := ⟨k - 3, by omega⟩
  have r0 : rd_T27 [a, b] 0 = a := rfl
  have r1 : rd_T27 [a, b] 1 = b := rfl
  simp only [impl_areRats.l0, List.length_cons, List.length_nil]
  rw [if_pos (by decide), if_pos (by decide), if_pos (by decide), r0, isRat_eq _ _ _ (by omega)]
  simp only [Option.bind_some, decide_eq_true_eq]
  by_cases h : OkR a.f0 a.f1
  · rw [if_pos h]
    have e1 : wrap64 (0 + 1) = 1 := wr _ (by decide)
    have e2 : wrap64 (1 + 1) = 2 := wr _ (by decide)
    rw [e1, if_pos (by decide), if_pos (by decide), if_pos (by decide), r1, isRat_eq _ _ _ (by omega)]
    simp only [Option.bind_some, decide_eq_true_eq]
    by_cases h2 : OkR b.f0 b.f1
    · rw [if_pos h2, e2, if_neg (by decide)]
      simp [h, h2]
    · rw [if_neg h2]; simp [h2]
  · rw [if_neg h]; simp [h]
def addT (a b c d : Int) : Tri := mk (a * d + c * b) (b * d)
def subT (a b c d : Int) : Tri := mk (a * d - c * b) (b * d)
def mulT (a b c d : Int) : Tri := mk (a * c) (b * d)
def divT (a b c d : Int) : Tri := if c = 0 then (0, 0, false) else mk (a * d) (b * c)
theorem addT_ok (a b c d : Int) (h : (addT a b c d).2.2 = true) : OkR (addT a b c d).1 (addT a b c d).2.1 := mk_ok _ _ h
theorem subT_ok (a b c d : Int) (h : (subT a b c d).2.2 = true) : OkR (subT a b c d).1 (subT a b c d).2.1 := mk_ok _ _ h
theorem mulT_ok (a b c d : Int) (h : (mulT a b c d).2.2 = true) : OkR (mulT a b c d).1 (mulT a b c d).2.1 := mk_ok _ _ h
theorem den_pos {a b c d : Int} (h1 : OkR a b) (h2 : OkR c d) : b * d ≠ 0 := by
  have := Int.mul_pos (show 0 < b by have := h1.1; omega) (show 0 < d by have := h2.1; omega)
  omega
section
variable {a b c d : Int} (h1 : OkR a b) (h2 : OkR c d) (k : Nat)
include h1 h2
theorem addRats_eq (hk : 300 ≤ k) : impl_AddRats.f k a b c d = some (addT a b c d) := by
  unfold impl_AddRats.f
  rw [areRats2 _ _ k hk, decide_eq_true h1, decide_eq_true h2]
  simp only [Option.bind_some, Bool.and_true, if_true]
  obtain ⟨m1, m2, m3, _⟩ := cross_bd h1.bd h2.bd
  have hd := den_pos h1 h2
  rw [wr (a * d) (by omega), wr (c * b) (by omega), wr (b * d) (by omega), wr _ (by omega), lowest_eq _ _ hd (by omega) (by omega) k (by omega)]
  rfl
theorem raAdd_eq (hk : 300 ≤ k) : spec_raAdd.f k a b c d = some (addT a b c d) := by
  unfold spec_raAdd.f
  obtain ⟨m1, m2, m3, _⟩ := cross_bd h1.bd h2.bd
  have hd := den_pos h1 h2
  rw [wr (a * d) (by omega), wr (c * b) (by omega), wr (b * d) (by omega), wr _ (by omega), raMake_eq _ _ hd (by omega) (by omega) k (by omega)]
  rfl
theorem raSub_eq (hk : 300 ≤ k) : spec_raSub.f k a b c d = some (subT a b c d) := by
  unfold spec_raSub.f
  obtain ⟨m1, m2, m3, _⟩ := cross_bd h1.bd h2.bd
  have hd := den_pos h1 h2
  rw [wr (a * d) (by omega), wr (c * b) (by omega), wr (b * d) (by omega), wr _ (by omega), raMake_eq _ _ hd (by omega) (by omega) k (by omega)]
  rfl
theorem raMul_eq (hk : 300 ≤ k) : spec_raMul.f k a b c d = some (mulT a b c d) := by
  unfold spec_raMul.f
  obtain ⟨m1, m2, m3, m4⟩ := cross_bd h1.bd h2.bd
  have hd := den_pos h1 h2
  rw [wr (a * c) (by omega), wr (b * d) (by omega), raMake_eq _ _ hd (by omega) (by omega) k (by omega)]
  rfl
theorem raDiv_eq (hk : 300 ≤ k) : spec_raDiv.f k a b c d = some (divT a b c d) := by
  unfold spec_raDiv.f divT
  obtain ⟨m1, m2, m3, m4⟩ := cross_bd h1.bd h2.bd
  split
  · rfl
  · rename_i hc
    have hd : b * c ≠ 0 := Int.mul_ne_zero (by have := h1.1; omega) hc
    have m5 := mul_bd b c _ _ h1.bd.2 h2.bd.1
    rw [wr (a * d) (by omega), wr (b * c) (by omega), raMake_eq _ _ hd (by omega) (by omega) k (by omega)]
    rfl
omit h1 in
theorem negated_ok : OkR (-c) d := by
  obtain ⟨e1, e2, e3, e4, e5⟩ := h2
  exact ⟨e1, e2, by omega, by omega, by rw [Int.neg_gcd]; exact e5⟩
theorem subRats_eq (hk : 300 ≤ k) : impl_SubtractRats.f k a b c d = some (subT a b c d) := by
  unfold impl_SubtractRats.f impl_negated.f
  have hb := h2.bd
  simp only [Option.bind_some]
  rw [wr (-c) (by unfold Bd at hb; omega), addRats_eq h1 (negated_ok h2) k hk]
  simp only [Option.bind_some]
  unfold addT subT
  rw [Int.neg_mul]
  rfl
theorem mulRats_eq (hk : 300 ≤ k) : impl_MultiplyRats.f k a b c d = some (mulT a b c d) := by
  unfold impl_MultiplyRats.f
  rw [areRats2 _ _ k hk, decide_eq_true h1, decide_eq_true h2]
  simp only [Option.bind_some, Bool.and_true, if_true]
  obtain ⟨m1, m2, m3, m4⟩ := cross_bd h1.bd h2.bd
  have hd := den_pos h1 h2
  rw [wr (a * c) (by omega), wr (b * d) (by omega), lowest_eq _ _ hd (by omega) (by omega) k (by omega)]
  rfl
theorem divRats_eq (hk : 300 ≤ k) : impl_DivideRats.f k a b c d = some (divT a b c d) := by
  unfold impl_DivideRats.f divT
  rw [areRats2 _ _ k hk, decide_eq_true h1, decide_eq_true h2]
  simp only [Option.bind_some, Bool.and_true, if_true]
  obtain ⟨m1, m2, m3, m4⟩ := cross_bd h1.bd h2.bd
  split
  · rfl
  · rename_i hc
    have hd : b * c ≠ 0 := Int.mul_ne_zero (by have := h1.1; omega) hc
    have m5 := mul_bd b c _ _ h1.bd.2 h2.bd.1
    rw [wr (a * d) (by omega), wr (b * c) (by omega), lowest_eq _ _ hd (by omega) (by omega) k (by omega)]
    rfl
theorem calc_add (s : Bool) (hk : 300 ≤ k) : impl_calc_add.f k s a b c d = some (kp s (addT a b c d)) := by
  unfold impl_calc_add.f
  rw [addRats_eq h1 h2 k hk, Option.bind_some, keep_eq, Option.bind_some]
theorem calc_sub (s : Bool) (hk : 300 ≤ k) : impl_calc_sub.f k s a b c d = some (kp s (subT a b c d)) := by
  unfold impl_calc_sub.f
  rw [subRats_eq h1 h2 k hk, Option.bind_some, keep_eq, Option.bind_some]
theorem calc_mul (s : Bool) (hk : 300 ≤ k) : impl_calc_mul.f k s a b c d = some (kp s (mulT a b c d)) := by
  unfold impl_calc_mul.f
  rw [mulRats_eq h1 h2 k hk, Option.bind_some, keep_eq, Option.bind_some]
theorem calc_div (s : Bool) (hk : 300 ≤ k) : impl_calc_div.f k s a b c d = some (kp s (divT a b c d)) := by
  unfold impl_calc_div.f
  rw [divRats_eq h1 h2 k hk, Option.bind_some, keep_eq, Option.bind_some]
end
def slT (p q : Pt) : Tri := divT (subT q.f1.f0 q.f1.f1 p.f1.f0 p.f1.f1).1 (subT q.f1.f0 q.f1.f1 p.f1.f0 p.f1.f1).2.1 (subT q.f0.f0 q.f0.f1 p.f0.f0 p.f0.f1).1 (subT q.f0.f0 q.f0.f1 p.f0.f0 p.f0.f1).2.1
theorem co_sub {a b c d : Int} (h1 : Co a b) (h2 : Co c d) : (subT a b c d).2.2 = true ∧ OkR (subT a b c d).1 (subT a b c d).2.1 ∧ (subT a b c d).1.natAbs ≤ 10000 ∧ (subT a b c d).2.1.natAbs ≤ 10000 := by
  obtain ⟨⟨⟨b1, b2, _, _, _⟩, b3, b4⟩, b5⟩ := h1
  obtain ⟨⟨⟨d1, d2, _, _, _⟩, d3, d4⟩, d5⟩ := h2
  have m1 := mul_bd a d 100 100 (by omega) (by omega)
  have m2 := mul_bd c b 100 100 (by omega) (by omega)
  have m3 := mul_bd b d 100 100 (by omega) (by omega)
  have n1 := Int.mul_nonneg b3 (show (0 : Int) ≤ d by omega)
  have n2 := Int.mul_nonneg d3 (show (0 : Int) ≤ b by omega)
  have n3 := Int.mul_pos (show (0 : Int) < b by omega) (show (0 : Int) < d by omega)
  unfold subT
  generalize a * d = x at *
  generalize c * b = y at *
  generalize b * d = z at *
  obtain ⟨e1, e2, e3, e4⟩ := mk_small (x - y) z (by omega) (by omega) (by omega)
  rw [e4]
  exact ⟨rfl, e1, by show (Int.tdiv _ _).natAbs ≤ _; omega, by show (Int.tdiv _ _).natAbs ≤ _; omega⟩
theorem sub_ne {a b c d : Int} (h1 : OkR a b) (h2 : OkR c d) (hlt : c * b < a * d) (hok : (subT a b c d).2.2 = true) : (subT a b c d).1 ≠ 0 := by
  have hd := den_pos h1 h2
  unfold subT mk at hok ⊢
  split at hok
  · rename_i h
    rw [if_pos h]
    intro h0
    have h0' : (a * d - c * b).tdiv (sg (a * d - c * b) (b * d)) = 0 := h0
    have hdv : (sg (a * d - c * b) (b * d)) ∣ (a * d - c * b) := by
      unfold sg
      split
      · exact Int.neg_dvd.2 (Int.gcd_dvd_left _ _)
      · exact Int.gcd_dvd_left _ _
    obtain ⟨t, ht⟩ := hdv
    have hs : sg (a * d - c * b) (b * d) ≠ 0 := by
      have := gcd_pos (a * d - c * b) (b * d) hd
      unfold sg
      split <;> omega
    have : (sg (a * d - c * b) (b * d) * t).tdiv (sg (a * d - c * b) (b * d)) = t := Int.mul_tdiv_cancel_left _ hs
    generalize hg : sg (a * d - c * b) (b * d) = g at *
    rw [ht, this] at h0'
    rw [h0', Int.mul_zero] at ht
    omega
  · cases hok
structure Seg (p q : Pt) : Prop where
  cp : CoP p
  cq : CoP q
  lt : Lt p.f0 q.f0
theorem IsMap.seg {l : List Pt} (h : IsMap l) (i : Nat) (hi : i + 1 < l.length) : Seg (np l i) (np l (i + 1)) :=
  ⟨h.co i (by omega), h.co (i + 1) hi, by have := h.up (i + 1) (by omega) hi; rwa [Nat.add_sub_cancel] at this⟩
theorem seg_slope {p q : Pt} (h : Seg p q) : (slT p q).2.2 = true ∧ OkR (slT p q).1 (slT p q).2.1 := by
  obtain ⟨u1, u2, u3, u4⟩ := co_sub h.cq.2 h.cp.2
  obtain ⟨v1, v2, v3, v4⟩ := co_sub h.cq.1 h.cp.1
  have v5 := sub_ne h.cq.1.1.1 h.cp.1.1.1 h.lt v1
  unfold slT
  generalize hx : subT q.f1.f0 q.f1.f1 p.f1.f0 p.f1.f1 = x at *
  generalize hy : subT q.f0.f0 q.f0.f1 p.f0.f0 p.f0.f1 = y at *
  unfold divT
  rw [if_neg v5]
  have m1 := mul_bd x.1 y.2.1 10000 10000 u3 v4
  have m2 := mul_bd x.2.1 y.1 10000 10000 u4 v3
  have hd : x.2.1 * y.1 ≠ 0 := Int.mul_ne_zero (by have := u2.1; omega) v5
  obtain ⟨e1, e2, e3, e4⟩ := mk_small (x.1 * y.2.1) (x.2.1 * y.1) hd (by omega) (by omega)
  rw [e4]
  exact ⟨rfl, e1⟩
theorem slope_eq {p q : Pt} (h : Seg p q) (s : Bool) (k : Nat) (hk : 300 ≤ k) : impl_calc_slope.f k s p.f0.f0 p.f0.f1 p.f1.f0 p.f1.f1 q.f0.f0 q.f0.f1 q.f1.f0 q.f1.f1 = some ((slT p q).1, (slT p q).2.1, s) := by
  obtain ⟨u1, u2, u3, u4⟩ := co_sub h.cq.2 h.cp.2
  obtain ⟨v1, v2, v3, v4⟩ := co_sub h.cq.1 h.cp.1
  unfold impl_calc_slope.f
  rw [calc_sub h.cq.2.1.1 h.cp.2.1.1 k s hk, kp_val u1, Option.bind_some, calc_sub h.cq.1.1.1 h.cp.1.1.1 k s hk, kp_val v1, Option.bind_some, calc_div u2 v2 k s hk, Option.bind_some]
  have := kp_val (s := s) (seg_slope h).1
  unfold slT at this ⊢
  rw [this]
theorem imSlope_eq {p q : Pt} (h : Seg p q) (k : Nat) (hk : 300 ≤ k) : spec_imSlope.f k p.f0.f0 p.f0.f1 p.f1.f0 p.f1.f1 q.f0.f0 q.f0.f1 q.f1.f0 q.f1.f1 = some ((slT p q).1, (slT p q).2.1) := by
  obtain ⟨u1, u2, u3, u4⟩ := co_sub h.cq.2 h.cp.2
  obtain ⟨v1, v2, v3, v4⟩ := co_sub h.cq.1 h.cp.1
  unfold spec_imSlope.f
  rw [raSub_eq h.cq.2.1.1 h.cp.2.1.1 k hk, Option.bind_some, raSub_eq h.cq.1.1.1 h.cp.1.1.1 k hk, Option.bind_some, raDiv_eq u2 v2 k hk, Option.bind_some]
  rfl
end Go.Proofs.Ytlggehdfigkliaa.Pu
set_option linter.unusedVariables false
set_option linter.unusedSimpArgs false
namespace Go.Proofs.Ytlggehdfigkliaa.Pu
open Go.RowKit Go.Proofs.Ytlggehdfigkliaa.Q Go.Proofs.YtlggehdfigkliaaW.PrintWords Go.Proofs.YtlggehdfigkliaaW.PrintLast Go.Proofs.YtlggehdfigkliaaW.PrintMore
structure Rel (s : Bool) (v m : Tri) : Prop where
  ok : OkR v.1 v.2.1
  bad : v.2.2 = (s || !m.2.2)
  val : m.2.2 = true → v.1 = m.1 ∧ v.2.1 = m.2.1
theorem rel_kp {s : Bool} {m : Tri} (h : m.2.2 = true → OkR m.1 m.2.1) : Rel s (kp s m) m :=
  ⟨kp_ok h, kp_bad s m, fun hm => by rw [kp_val hm]; exact ⟨rfl, rfl⟩⟩
def pcq (x0 x1 : Int) (p : Pt) : Bool := !decide (p.f0.f0 * x1 < x0 * p.f0.f1)
def pc (l : List Pt) (x0 x1 : Int) : Nat := (idxOf (pcq x0 x1) l - 1).toNat
theorem imPiece_l (l : List Pt) (x0 x1 : Int) (hm : IsMap l) (hx : OkR x0 x1) (j : Nat) (hj : j < l.length) (h1 : 1 ≤ j) (hq : ¬ (np l j).f0.f0 * x1 < x0 * (np l j).f0.f1) (hlt : ∀ m, m < j → (np l m).f0.f0 * x1 < x0 * (np l m).f0.f1) :
    ∀ (d k i : Nat), i + d = j - 1 → d < k → spec_imPiece.l0 k l (i : Int) x0 x1 = some ((j - 1 : Nat) : Int) := by
  have hmost := hm.most
  intro d
  induction d with
  | zero =>
    intro k i hi hk
    obtain ⟨k, rfl⟩ : ∃ m, k = m + 1 := ⟨k - 1, by omega⟩
    simp only [spec_imPiece.l0]
    rw [wr (_ + 2) (by omega), wr (_ + 1) (by omega)]
    by_cases h2 : (i : Int) + 2 < (l.length : Int)
    · rw [if_pos h2, if_pos (by omega), if_pos (by omega), show (i : Int) + 1 = ((i + 1 : Nat) : Int) by omega, rd_np]
      obtain ⟨t, e, ht, _⟩ := raCmp_eq (hm.co (i + 1) (by omega)).bx hx.bd
      rw [e, Option.bind_some]
      have ej : i + 1 = j := by omega
      rw [ej] at ht
      rw [if_neg (fun h => hq (ht.1 h))]
      congr 1
      omega
    · rw [if_neg h2]
      congr 1
      omega
  | succ d ih =>
    intro k i hi hk
    obtain ⟨k, rfl⟩ : ∃ m, k = m + 1 := ⟨k - 1, by omega⟩
    simp only [spec_imPiece.l0]
    rw [wr (_ + 2) (by omega), wr (_ + 1) (by omega), if_pos (by omega), if_pos (by omega), if_pos (by omega), show (i : Int) + 1 = ((i + 1 : Nat) : Int) by omega, rd_np]
    obtain ⟨t, e, ht, _⟩ := raCmp_eq (hm.co (i + 1) (by omega)).bx hx.bd
    rw [e, Option.bind_some, if_pos (ht.2 (hlt (i + 1) (by omega)))]
    exact ih k (i + 1) (by omega) (by omega)
theorem piece_eq (l : List Pt) (x0 x1 : Int) (hm : IsMap l) (hx : OkU x0 x1) : pc l x0 x1 + 1 < l.length ∧ impl_pieceAt.f l x0 x1 = some (pc l x0 x1 : Int) ∧ (∀ k, 100 ≤ k → spec_imPiece.f k l x0 x1 = some (pc l x0 x1 : Int)) ∧
    (np l (pc l x0 x1)).f0.f0 * x1 ≤ x0 * (np l (pc l x0 x1)).f0.f1 ∧ x0 * (np l (pc l x0 x1 + 1)).f0.f1 ≤ (np l (pc l x0 x1 + 1)).f0.f0 * x1 := by
  have h2 := hm.two
  have hmost := hm.most
  have hne : idxOf (pcq x0 x1) l ≠ -1 := fun h => by
    have := idxOf_neg _ _ h (np l (l.length - 1)) (np_mem l _ (by omega))
    unfold pcq at this
    rw [hm.last] at this
    have h3 := hx.2.2
    simp at this
    omega
  obtain ⟨j, ej, hj, hq, hlt⟩ := idxOf_pos _ _ z57 hne
  have hqj : ¬ (np l j).f0.f0 * x1 < x0 * (np l j).f0.f1 := by
    have : pcq x0 x1 (np l j) = true := hq
    unfold pcq at this
    simpa using this
  have hltj : ∀ m, m < j → (np l m).f0.f0 * x1 < x0 * (np l m).f0.f1 := fun m hmj => by
    have : pcq x0 x1 (np l m) = false := hlt m hmj
    unfold pcq at this
    simpa using this
  have himpl : impl_pieceAt.f l x0 x1 = some (if (j : Int) ≤ 1 then 0 else (j : Int) - 1) := by
    unfold impl_pieceAt.f
    rw [idxS_of (p := pcq x0 x1) (fun p hp => by
      obtain ⟨i, hi, e⟩ := mem_np l p hp
      have hb := (hm.co i hi).bx
      rw [e] at hb
      rw [less_eq hb hx.1.bd]
      rfl)]
    rw [Option.bind_some, ej]
  have hpc : pc l x0 x1 = j - 1 := by
    unfold pc
    rw [ej]
    omega
  rw [hpc]
  rcases Nat.eq_zero_or_pos j with h0 | hpos
  · subst h0
    rw [hm.first] at hqj
    simp at hqj
    have hx0 : x0 = 0 := by have := hx.2.1; omega
    subst hx0
    have hx1 := hx.1.1
    refine ⟨by omega, himpl, fun k hk => ?_, by simp [hm.first], ?_⟩
    · obtain ⟨k, rfl⟩ : ∃ m, k = m + 1 := ⟨k - 1, by omega⟩
      unfold spec_imPiece.f
      simp only [spec_imPiece.l0]
      rw [wr (0 + 2) (by omega), wr (0 + 1) (by omega)]
      by_cases h3 : (0 : Int) + 2 < (l.length : Int)
      · rw [if_pos h3, if_pos (by omega), if_pos (by omega), show (0 : Int) + 1 = ((1 : Nat) : Int) by omega, rd_np]
        obtain ⟨t, e, ht, _⟩ := raCmp_eq (hm.co 1 (by omega)).bx hx.1.bd
        rw [e, Option.bind_some, if_neg (fun h => by
          have h4 := ht.1 h
          have h5 := Int.mul_nonneg (hm.co 1 (by omega)).1.1.2.1 (show (0 : Int) ≤ x1 by omega)
          omega)]
        rfl
      · rw [if_neg h3]; rfl
    · have h5 := Int.mul_nonneg (hm.co (0 - 1 + 1) (by omega)).1.1.2.1 (show (0 : Int) ≤ x1 by omega)
      omega
  · have e1 : j - 1 + 1 = j := by omega
    refine ⟨by omega, ?_, fun k hk => ?_, ?_, ?_⟩
    · rw [himpl]
      congr 1
      split <;> omega
    · unfold spec_imPiece.f
      exact imPiece_l l x0 x1 hm hx.1 j hj hpos hqj hltj (j - 1) k 0 (by omega) (by omega)
    · exact Int.le_of_lt (hltj (j - 1) (by omega))
    · rw [e1]
      omega
def onT (p q : Pt) (x0 x1 : Int) : Tri :=
  if (subT x0 x1 p.f0.f0 p.f0.f1).2.2 = true then
    if (mulT (subT x0 x1 p.f0.f0 p.f0.f1).1 (subT x0 x1 p.f0.f0 p.f0.f1).2.1 (slT p q).1 (slT p q).2.1).2.2 = true then
      addT p.f1.f0 p.f1.f1 (mulT (subT x0 x1 p.f0.f0 p.f0.f1).1 (subT x0 x1 p.f0.f0 p.f0.f1).2.1 (slT p q).1 (slT p q).2.1).1 (mulT (subT x0 x1 p.f0.f0 p.f0.f1).1 (subT x0 x1 p.f0.f0 p.f0.f1).2.1 (slT p q).1 (slT p q).2.1).2.1
    else (0, 0, false)
  else (0, 0, false)
theorem onT_ok {p q : Pt} {x0 x1 : Int} (h : (onT p q x0 x1).2.2 = true) : OkR (onT p q x0 x1).1 (onT p q x0 x1).2.1 := by
  unfold onT at h ⊢
  split at h
  · rename_i h1
    rw [if_pos h1]
    split at h
    · rename_i h2
      rw [if_pos h2]
      exact addT_ok _ _ _ _ h
    · cases h
  · cases h
theorem imOn_eq {p q : Pt} (h : Seg p q) {x0 x1 : Int} (hx : OkR x0 x1) (k : Nat) (hk : 300 ≤ k) : spec_imOn.f k p.f0.f0 p.f0.f1 p.f1.f0 p.f1.f1 q.f0.f0 q.f0.f1 q.f1.f0 q.f1.f1 x0 x1 = some (onT p q x0 x1) := by
  unfold spec_imOn.f onT
  rw [raSub_eq hx h.cp.1.1.1 k hk, Option.bind_some, imSlope_eq h k hk, Option.bind_some]
  have hsl := (seg_slope h).2
  cases hf : (subT x0 x1 p.f0.f0 p.f0.f1).2.2 with
  | true =>
    have hfo := subT_ok _ _ _ _ hf
    rw [raMul_eq hfo hsl k hk, Option.bind_some, if_pos rfl, if_pos rfl]
    cases hu : (mulT (subT x0 x1 p.f0.f0 p.f0.f1).1 (subT x0 x1 p.f0.f0 p.f0.f1).2.1 (slT p q).1 (slT p q).2.1).2.2 with
    | true =>
      rw [if_pos rfl, if_pos rfl, raAdd_eq h.cp.2.1.1 (mulT_ok _ _ _ _ hu) k hk, Option.bind_some]
    | false => rw [if_neg (by decide), if_neg (by decide)]
  | false =>
    have e : subT x0 x1 p.f0.f0 p.f0.f1 = (0, 0, false) := mk_bad _ _ hf
    rw [e]
    unfold spec_raMul.f
    rw [Int.zero_mul, Int.zero_mul, wr 0 (by omega), raMake_zero]
    rfl
theorem line_eq {p q : Pt} (h : Seg p q) {x0 x1 : Int} (hx : OkR x0 x1) (s : Bool) (k : Nat) (hk : 300 ≤ k) : ∃ v, impl_calc_line.f k s p.f0.f0 p.f0.f1 p.f1.f0 p.f1.f1 (slT p q).1 (slT p q).2.1 x0 x1 = some v ∧ Rel s v (onT p q x0 x1) := by
  unfold impl_calc_line.f onT
  have hsl := (seg_slope h).2
  have r1 : Rel s (kp s (subT x0 x1 p.f0.f0 p.f0.f1)) (subT x0 x1 p.f0.f0 p.f0.f1) := rel_kp (subT_ok _ _ _ _)
  rw [calc_sub hx h.cp.1.1.1 k s hk, Option.bind_some]
  generalize kp s (subT x0 x1 p.f0.f0 p.f0.f1) = v1 at r1 ⊢
  generalize subT x0 x1 p.f0.f0 p.f0.f1 = m1 at r1 ⊢
  rw [calc_mul hsl r1.ok k v1.2.2 hk, Option.bind_some]
  have r2 : Rel v1.2.2 (kp v1.2.2 (mulT (slT p q).1 (slT p q).2.1 v1.1 v1.2.1)) (mulT (slT p q).1 (slT p q).2.1 v1.1 v1.2.1) := rel_kp (mulT_ok _ _ _ _)
  have ec : mulT (slT p q).1 (slT p q).2.1 v1.1 v1.2.1 = mulT v1.1 v1.2.1 (slT p q).1 (slT p q).2.1 := by
    unfold mulT
    rw [Int.mul_comm (slT p q).1, Int.mul_comm (slT p q).2.1]
  generalize kp v1.2.2 (mulT (slT p q).1 (slT p q).2.1 v1.1 v1.2.1) = v2 at r2 ⊢
  rw [ec] at r2
  rw [calc_add h.cp.2.1.1 r2.ok k v2.2.2 hk, Option.bind_some]
  have r3 : Rel v2.2.2 (kp v2.2.2 (addT p.f1.f0 p.f1.f1 v2.1 v2.2.1)) (addT p.f1.f0 p.f1.f1 v2.1 v2.2.1) := rel_kp (addT_ok _ _ _ _)
  generalize kp v2.2.2 (addT p.f1.f0 p.f1.f1 v2.1 v2.2.1) = v3 at r3 ⊢
  refine ⟨_, rfl, r3.ok, ?_, ?_⟩
  · show v3.2.2 = _
    rw [r3.bad, r2.bad, r1.bad]
    cases hm1 : m1.2.2 with
    | false => simp
    | true =>
      obtain ⟨e1, e2⟩ := r1.val hm1
      rw [if_pos rfl, e1, e2]
      rw [e1, e2] at r2
      cases hm2 : (mulT m1.1 m1.2.1 (slT p q).1 (slT p q).2.1).2.2 with
      | false => simp
      | true =>
        obtain ⟨e3, e4⟩ := r2.val hm2
        rw [if_pos rfl, e3, e4]
        simp
  · intro hok
    show v3.1 = _ ∧ v3.2.1 = _
    split at hok
    · rename_i hm1
      obtain ⟨e1, e2⟩ := r1.val hm1
      rw [e1, e2] at r2
      rw [if_pos hm1]
      split at hok
      · rename_i hm2
        obtain ⟨e3, e4⟩ := r2.val hm2
        rw [e3, e4] at r3
        rw [if_pos hm2]
        exact r3.val hok
      · cases hok
    · cases hok
def atT (l : List Pt) (x0 x1 : Int) : Tri := onT (np l (pc l x0 x1)) (np l (pc l x0 x1 + 1)) x0 x1
theorem atT_ok {l : List Pt} {x0 x1 : Int} (h : (atT l x0 x1).2.2 = true) : OkR (atT l x0 x1).1 (atT l x0 x1).2.1 := onT_ok h
theorem imAt_eq {l : List Pt} (hm : IsMap l) {x0 x1 : Int} (hx : OkU x0 x1) (k : Nat) (hk : 300 ≤ k) : spec_imAt.f k l x0 x1 = some (atT l x0 x1) := by
  obtain ⟨h1, _, h3, _⟩ := piece_eq l x0 x1 hm hx
  have hmost := hm.most
  unfold spec_imAt.f atT
  rw [h3 k (by omega), Option.bind_some, wr (_ + 1) (by omega), if_pos (by omega), if_pos (by omega), if_pos (by omega), if_pos (by omega), show ((pc l x0 x1 : Nat) : Int) + 1 = ((pc l x0 x1 + 1 : Nat) : Int) by omega, rd_np, rd_np, imOn_eq (hm.seg _ h1) hx.1 k hk, Option.bind_some]
theorem value_eq {l : List Pt} (hm : IsMap l) {x0 x1 : Int} (hx : OkU x0 x1) (s : Bool) (k : Nat) (hk : 300 ≤ k) : ∃ v, impl_calc_value.f k s l x0 x1 = some v ∧ Rel s v (atT l x0 x1) := by
  obtain ⟨h1, h2, _, _⟩ := piece_eq l x0 x1 hm hx
  have hmost := hm.most
  unfold impl_calc_value.f atT
  rw [h2, Option.bind_some, wr (_ + 1) (by omega), if_pos (by omega), if_pos (by omega), if_pos (by omega), if_pos (by omega), show ((pc l x0 x1 : Nat) : Int) + 1 = ((pc l x0 x1 + 1 : Nat) : Int) by omega, rd_np, rd_np, slope_eq (hm.seg _ h1) s k hk, Option.bind_some]
  obtain ⟨v, e, r⟩ := line_eq (hm.seg _ h1) hx.1 s k hk
  exact ⟨v, by rw [e]; rfl, r⟩
theorem distance_eq {a b c d : Int} (h1 : OkR a b) (h2 : OkR c d) (s : Bool) (k : Nat) (hk : 300 ≤ k) : impl_calc_distance.f k s a b c d = some (kp s (if a * d < c * b then subT c d a b else subT a b c d)) := by
  unfold impl_calc_distance.f
  rw [less_eq h1.bd h2.bd, Option.bind_some]
  by_cases h : a * d < c * b
  · rw [if_pos (decide_eq_true h), if_pos h, calc_sub h2 h1 k s hk]; rfl
  · rw [if_neg (by simpa using h), if_neg h, calc_sub h1 h2 k s hk]; rfl
theorem apart_eq {a b c d : Int} (h1 : OkR a b) (h2 : OkR c d) (k : Nat) (hk : 300 ≤ k) : spec_orApart.f k a b c d = some (if a * d < c * b then subT c d a b else subT a b c d) := by
  unfold spec_orApart.f
  obtain ⟨t, e, ht, _⟩ := raCmp_eq h1.bd h2.bd
  rw [e, Option.bind_some]
  by_cases h : a * d < c * b
  · rw [if_pos (ht.2 h), if_pos h, raSub_eq h2 h1 k hk]; rfl
  · rw [if_neg (fun h3 => h (ht.1 h3)), if_neg h, raSub_eq h1 h2 k hk]; rfl
def dsT (a b c d : Int) : Tri := if a * d < c * b then subT c d a b else subT a b c d
theorem dsT_ok (a b c d : Int) (h : (dsT a b c d).2.2 = true) : OkR (dsT a b c d).1 (dsT a b c d).2.1 := by
  unfold dsT at h ⊢
  split
  · rename_i h1; rw [if_pos h1] at h; exact subT_ok _ _ _ _ h
  · rename_i h1; rw [if_neg h1] at h; exact subT_ok _ _ _ _ h
def Units (l : List Ra) : Prop := ∀ x ∈ l, OkU x.f0 x.f1
instance (l : List Ra) : Decidable (Units l) := by unfold Units; infer_instance
theorem areUnits_eq (l : List Ra) (k : Nat) (hk : 300 ≤ k) : impl_areUnits.f k l = some (decide (Units l)) := by
  unfold impl_areUnits.f ContainsFunc_impl_areUnits_1.f
  rw [anyS_of (p := fun x => !decide (OkU x.f0 x.f1)) (fun x _ => by
    unfold impl_areUnits_1.f
    rw [isUnit_eq _ _ k (by omega)]
    rfl), Option.bind_some]
  congr 1
  rw [Bool.eq_iff_iff]
  rw [Bool.not_eq_true', decide_eq_true_eq, ← Bool.not_eq_true, List.any_eq_true]
  constructor
  · intro h x hx
    by_cases hu : OkU x.f0 x.f1
    · exact hu
    · exact absurd ⟨x, hx, by simp [hu]⟩ h
  · rintro h ⟨x, hx, hn⟩
    simp [h x hx] at hn
def Pseudo (l : List Ra) : Prop := 1 ≤ l.length ∧ l.length ≤ 20 ∧ Units l
instance (l : List Ra) : Decidable (Pseudo l) := by unfold Pseudo; infer_instance
theorem isPseudo_eq (l : List Ra) (k : Nat) (hk : 300 ≤ k) : impl_isPseudo.f k l = some (decide (Pseudo l)) := by
  unfold impl_isPseudo.f impl_within.f
  by_cases h1 : (1 : Int) ≤ (l.length : Int)
  · rw [if_pos h1, Option.bind_some]
    by_cases h2 : (l.length : Int) ≤ 20
    · rw [if_pos (by simpa using h2), areUnits_eq l k hk, Option.bind_some]
      congr 1
      rw [Bool.eq_iff_iff, decide_eq_true_eq, decide_eq_true_eq]
      exact ⟨fun h => ⟨by omega, by omega, h⟩, fun h => h.2.2⟩
    · rw [if_neg (by simpa using h2), decide_eq_false (fun h : Pseudo l => h2 (by have := h.2.1; omega))]
  · rw [if_neg h1, Option.bind_some, if_neg (by decide), decide_eq_false (fun h : Pseudo l => h1 (by have := h.1; omega))]
theorem sdGood_l (l : List Ra) (hl : l.length ≤ 1048576) : ∀ (d k i : Nat), i + d = l.length → (∀ j, j < i → OkU (nr l j).f0 (nr l j).f1) → 300 + d < k → spec_sdGood.l0 k l l (l.length : Int) (i : Int) = some (decide (Pseudo l)) := by
  intro d
  induction d with
  | zero =>
    intro k i hi hj hk
    obtain ⟨k, rfl⟩ : ∃ m, k = m + 1 := ⟨k - 1, by omega⟩
    simp only [spec_sdGood.l0, spec_l1In.f]
    rw [if_neg (by omega)]
    have hu : Units l := fun x hx => by
      obtain ⟨i, hi, rfl⟩ := mem_nr l x hx
      exact hj i (by omega)
    by_cases h1 : (l.length : Int) ≥ 1
    · rw [if_pos h1, Option.bind_some]
      congr 1
      rw [Bool.eq_iff_iff, decide_eq_true_eq, decide_eq_true_eq]
      exact ⟨fun h => ⟨by omega, by omega, hu⟩, fun h => by have := h.2.1; omega⟩
    · rw [if_neg h1, Option.bind_some, decide_eq_false (fun h : Pseudo l => h1 (by have := h.1; omega))]
  | succ d ih =>
    intro k i hi hj hk
    obtain ⟨k, rfl⟩ : ∃ m, k = m + 1 := ⟨k - 1, by omega⟩
    simp only [spec_sdGood.l0]
    rw [if_pos (by omega), if_pos (by omega), if_pos (by omega), rd_nr, raUnit_eq _ _ k (by omega), Option.bind_some]
    by_cases h : OkU (nr l i).f0 (nr l i).f1
    · rw [if_pos (decide_eq_true h), wr (_ + 1) (by omega), show (i : Int) + 1 = ((i + 1 : Nat) : Int) by omega]
      refine ih k (i + 1) (by omega) (fun j hj2 => ?_) (by omega)
      by_cases e : j = i
      · subst e; exact h
      · exact hj j (by omega)
    · rw [if_neg (by simpa using h), decide_eq_false (fun hp : Pseudo l => h (hp.2.2 _ (nr_mem l i (by omega))))]
theorem sdGood_eq (l : List Ra) (hl : l.length ≤ 1048576) (k : Nat) (hk : 1048576 + 400 ≤ k) : spec_sdGood.f k l = some (decide (Pseudo l)) := by
  unfold spec_sdGood.f
  exact sdGood_l l hl l.length k 0 (by omega) (fun j hj => by omega) (by omega)
theorem sdAsked_eq (f : List Pt) (l : List Ra) (hf : f.length ≤ 1048576) (hl : l.length ≤ 1048576) (k : Nat) (hk : 1048576 + 400 ≤ k) : spec_sdAsked.f k f l = some (mapB f && decide (Pseudo l)) := by
  unfold spec_sdAsked.f
  rw [imGoodB f hf k (by omega), Option.bind_some]
  cases h : mapB f with
  | true => rw [if_pos rfl, sdGood_eq l hl k hk]; rfl
  | false => rfl
theorem Pseudo.unit {l : List Ra} (h : Pseudo l) (i : Nat) (hi : i < l.length) : OkU (nr l i).f0 (nr l i).f1 := h.2.2 _ (nr_mem l i hi)
end Go.Proofs.Ytlggehdfigkliaa.Pu
set_option linter.unusedVariables false
set_option linter.unusedSimpArgs false
namespace Go.Proofs.Ytlggehdfigkliaa.Pu
open Go.RowKit Go.Proofs.Ytlggehdfigkliaa.Q Go.Proofs.YtlggehdfigkliaaW.PrintWords Go.Proofs.YtlggehdfigkliaaW.PrintLast Go.Proofs.YtlggehdfigkliaaW.PrintMore
def jumpT (f : List Pt) (l : List Ra) (i : Nat) : Tri :=
  if (atT f (nr l (i - 1)).f0 (nr l (i - 1)).f1).2.2 = true then dsT (atT f (nr l (i - 1)).f0 (nr l (i - 1)).f1).1 (atT f (nr l (i - 1)).f0 (nr l (i - 1)).f1).2.1 (nr l i).f0 (nr l i).f1 else (0, 0, false)
theorem jumpT_ok {f : List Pt} {l : List Ra} {i : Nat} (h : (jumpT f l i).2.2 = true) : OkR (jumpT f l i).1 (jumpT f l i).2.1 := by
  unfold jumpT at h ⊢
  split
  · rename_i h1; rw [if_pos h1] at h; exact dsT_ok _ _ _ _ h
  · rename_i h1; rw [if_neg h1] at h; cases h
def jumpsO (f : List Pt) (l : List Ra) : Nat → Nat → List Ra → Option (List Ra)
  | 0, _, out => some out
  | d + 1, i, out => if (jumpT f l i).2.2 = true then jumpsO f l d (i + 1) (out ++ [⟨(jumpT f l i).1, (jumpT f l i).2.1⟩]) else none
theorem jumpsO_len (f : List Pt) (l : List Ra) : ∀ d i out o, jumpsO f l d i out = some o → o.length = out.length + d := by
  intro d
  induction d with
  | zero => intro i out o h; simp [jumpsO] at h; subst h; rfl
  | succ d ih =>
    intro i out o h
    unfold jumpsO at h
    split at h
    · have := ih _ _ _ h; simp at this; omega
    · cases h
theorem jumpsO_ok (f : List Pt) (l : List Ra) : ∀ d i out o, (∀ x ∈ out, OkR x.f0 x.f1) → jumpsO f l d i out = some o → ∀ x ∈ o, OkR x.f0 x.f1 := by
  intro d
  induction d with
  | zero => intro i out o ho h; simp [jumpsO] at h; subst h; exact ho
  | succ d ih =>
    intro i out o ho h
    unfold jumpsO at h
    split at h
    · rename_i hj
      refine ih _ _ _ (fun x hx => ?_) h
      rcases List.mem_append.1 hx with hx | hx
      · exact ho x hx
      · rw [List.mem_singleton.1 hx]; exact jumpT_ok hj
    · cases h
def retO (o : Option (List Ra)) : List Ra × Bool := match o with | some l => (l, true) | none => ([], false)
theorem spec_jumps_l (f : List Pt) (l : List Ra) (hm : IsMap f) (hp : Pseudo l) : ∀ (d k i : Nat) (out : List Ra), 1 ≤ i → i + d = l.length ∨ d = 0 ∧ i = l.length → out.length ≤ i → 400 + d < k →
    spec_sdJumps.l0 k f l out (i : Int) = some (retO (jumpsO f l d i out)) := by
  have h20 := hp.2.1
  intro d
  induction d with
  | zero =>
    intro k i out h1 hi ho hk
    obtain ⟨k, rfl⟩ : ∃ m, k = m + 1 := ⟨k - 1, by omega⟩
    simp only [spec_sdJumps.l0]
    rw [if_neg (by omega)]
    rfl
  | succ d ih =>
    intro k i out h1 hi ho hk
    obtain ⟨k, rfl⟩ : ∃ m, k = m + 1 := ⟨k - 1, by omega⟩
    simp only [spec_sdJumps.l0]
    rw [wr (_ - 1) (by omega), wr (_ + 1) (by omega), if_pos (by omega), if_pos (by omega), if_pos (by omega), show (i : Int) - 1 = ((i - 1 : Nat) : Int) by omega, show (i : Int) + 1 = ((i + 1 : Nat) : Int) by omega, rd_nr, rd_nr,
      imAt_eq hm (hp.unit (i - 1) (by omega)) k (by omega), Option.bind_some]
    unfold jumpsO jumpT
    cases ha : (atT f (nr l (i - 1)).f0 (nr l (i - 1)).f1).2.2 with
    | false => simp [retO]
    | true =>
      rw [if_pos rfl, if_pos rfl, if_pos (by omega), apart_eq (atT_ok ha) (hp.unit i (by omega)).1 k (by omega), Option.bind_some]
      have ed : (if (atT f (nr l (i - 1)).f0 (nr l (i - 1)).f1).1 * (nr l i).f1 < (nr l i).f0 * (atT f (nr l (i - 1)).f0 (nr l (i - 1)).f1).2.1 then subT (nr l i).f0 (nr l i).f1 (atT f (nr l (i - 1)).f0 (nr l (i - 1)).f1).1 (atT f (nr l (i - 1)).f0 (nr l (i - 1)).f1).2.1
          else subT (atT f (nr l (i - 1)).f0 (nr l (i - 1)).f1).1 (atT f (nr l (i - 1)).f0 (nr l (i - 1)).f1).2.1 (nr l i).f0 (nr l i).f1) = dsT (atT f (nr l (i - 1)).f0 (nr l (i - 1)).f1).1 (atT f (nr l (i - 1)).f0 (nr l (i - 1)).f1).2.1 (nr l i).f0 (nr l i).f1 := rfl
      rw [ed]
      cases hd : (dsT (atT f (nr l (i - 1)).f0 (nr l (i - 1)).f1).1 (atT f (nr l (i - 1)).f0 (nr l (i - 1)).f1).2.1 (nr l i).f0 (nr l i).f1).2.2 with
      | false => rw [if_neg (by decide), if_neg (by decide)]; rfl
      | true =>
        rw [if_pos rfl, if_pos rfl, if_pos (by omega)]
        exact ih k (i + 1) _ (by omega) (by omega) (by simp; omega) (by omega)
theorem impl_jumps_l (f : List Pt) (l : List Ra) (hm : IsMap f) (hp : Pseudo l) : ∀ (d k i : Nat) (out : List Ra) (s : Bool), 1 ≤ i → i + d = l.length ∨ d = 0 ∧ i = l.length → out.length ≤ i → 400 + d < k →
    ∃ o t, impl_calc_jumps.l0 k f l out (i : Int) s = some (o, t) ∧ (s = true → t = true) ∧ (s = false → t = (jumpsO f l d i out).isNone ∧ ∀ z, jumpsO f l d i out = some z → o = z) := by
  have h20 := hp.2.1
  intro d
  induction d with
  | zero =>
    intro k i out s h1 hi ho hk
    obtain ⟨k, rfl⟩ : ∃ m, k = m + 1 := ⟨k - 1, by omega⟩
    simp only [impl_calc_jumps.l0]
    rw [if_neg (by omega)]
    exact ⟨out, s, rfl, fun h => h, fun h => ⟨h, fun z hz => by simp [jumpsO] at hz; exact hz⟩⟩
  | succ d ih =>
    intro k i out s h1 hi ho hk
    obtain ⟨k, rfl⟩ : ∃ m, k = m + 1 := ⟨k - 1, by omega⟩
    simp only [impl_calc_jumps.l0]
    rw [wr (_ - 1) (by omega), wr (_ + 1) (by omega), if_pos (by omega), if_pos (by omega), if_pos (by omega), show (i : Int) - 1 = ((i - 1 : Nat) : Int) by omega, show (i : Int) + 1 = ((i + 1 : Nat) : Int) by omega, rd_nr, rd_nr]
    obtain ⟨v, e, r⟩ := value_eq hm (hp.unit (i - 1) (by omega)) s k (by omega)
    rw [e, Option.bind_some, if_pos (by omega), distance_eq r.ok (hp.unit i (by omega)).1 v.2.2 k (by omega), Option.bind_some, if_pos (by omega)]
    have r2 : Rel v.2.2 (kp v.2.2 (dsT v.1 v.2.1 (nr l i).f0 (nr l i).f1)) (dsT v.1 v.2.1 (nr l i).f0 (nr l i).f1) := rel_kp (dsT_ok _ _ _ _)
    have ed : (if v.1 * (nr l i).f1 < (nr l i).f0 * v.2.1 then subT (nr l i).f0 (nr l i).f1 v.1 v.2.1 else subT v.1 v.2.1 (nr l i).f0 (nr l i).f1) = dsT v.1 v.2.1 (nr l i).f0 (nr l i).f1 := rfl
    rw [ed]
    generalize hw : kp v.2.2 (dsT v.1 v.2.1 (nr l i).f0 (nr l i).f1) = w at r2 ⊢
    obtain ⟨o, t, e2, ht, hf⟩ := ih k (i + 1) (out ++ [⟨w.1, w.2.1⟩]) w.2.2 (by omega) (by omega) (by simp; omega) (by omega)
    refine ⟨o, t, e2, fun hs => ?_, fun hs => ?_⟩
    · apply ht
      rw [r2.bad, r.bad, hs]
      rfl
    · subst hs
      have rb := r.bad
      unfold jumpsO jumpT
      cases ha : (atT f (nr l (i - 1)).f0 (nr l (i - 1)).f1).2.2 with
      | false =>
        rw [ha] at rb
        simp only [Bool.false_eq_true, if_false]
        have : w.2.2 = true := by rw [r2.bad, rb]; rfl
        exact ⟨ht this, fun z hz => by cases hz⟩
      | true =>
        rw [ha] at rb
        obtain ⟨v1, v2⟩ := r.val ha
        rw [v1, v2] at r2
        rw [if_pos rfl]
        have r2b := r2.bad
        rw [rb] at r2b
        cases hd : (dsT (atT f (nr l (i - 1)).f0 (nr l (i - 1)).f1).1 (atT f (nr l (i - 1)).f0 (nr l (i - 1)).f1).2.1 (nr l i).f0 (nr l i).f1).2.2 with
        | false =>
          rw [hd] at r2b
          rw [if_neg (by decide)]
          exact ⟨ht r2b, fun z hz => by cases hz⟩
        | true =>
          rw [hd] at r2b
          obtain ⟨w1, w2⟩ := r2.val hd
          rw [if_pos rfl, ← w1, ← w2]
          exact hf r2b
noncomputable def jumpsR (f : List Pt) (l : List Ra) : List Ra × Bool := if mapB f = true ∧ Pseudo l then retO (jumpsO f l (l.length - 1) 1 []) else ([], false)
theorem sdJumps_eq (f : List Pt) (l : List Ra) (hm : mapB f = true) (hp : Pseudo l) (k : Nat) (hk : 1000 ≤ k) : spec_sdJumps.f k f l = some (retO (jumpsO f l (l.length - 1) 1 [])) := by
  unfold spec_sdJumps.f
  have h1 := hp.1
  have := spec_jumps_l f l ((mapB_iff f).1 hm) hp (l.length - 1) k 1 [] (by omega) (by omega) (by simp) (by have := hp.2.1; omega)
  rw [show ((1 : Nat) : Int) = 1 from rfl] at this
  exact this
theorem implJumps_eq (f : List Pt) (l : List Ra) (hf : f.length ≤ 1048576) (hl : l.length ≤ 1048576) (k : Nat) (hk : 2000000 ≤ k) : impl_JumpsOf.f k f l = some (jumpsR f l) := by
  unfold impl_JumpsOf.f jumpsR
  obtain ⟨k, rfl⟩ : ∃ m, k = m + 1 := ⟨k - 1, by omega⟩
  rw [isMapB f hf (k + 1) (by omega), Option.bind_some]
  cases hmb : mapB f with
  | false =>
    rw [if_neg (by decide)]
    simp only [impl_JumpsOf.j0, if_true]
    simp
  | true =>
    rw [if_pos rfl, isPseudo_eq l (k + 1) (by omega), Option.bind_some]
    by_cases hp : Pseudo l
    · rw [decide_eq_true hp, if_pos ⟨rfl, hp⟩]
      simp only [impl_JumpsOf.j0]
      rw [if_neg (by decide)]
      have h1 := hp.1
      obtain ⟨o, t, e, _, ht⟩ := impl_jumps_l f l ((mapB_iff f).1 hmb) hp (l.length - 1) k 1 [] false (by omega) (by omega) (by simp) (by have := hp.2.1; omega)
      rw [show ((1 : Nat) : Int) = 1 from rfl] at e
      unfold impl_calc_jumps.f
      rw [e, Option.bind_some]
      obtain ⟨ht1, ht2⟩ := ht rfl
      cases hj : jumpsO f l (l.length - 1) 1 [] with
      | none =>
        have ht3 : t = true := by rw [ht1, hj]; rfl
        subst ht3
        rfl
      | some z =>
        have ht3 : t = false := by rw [ht1, hj]; rfl
        rw [ht3, ht2 z hj]
        rfl
    · rw [decide_eq_false hp, if_neg (fun h => hp h.2)]
      simp only [impl_JumpsOf.j0]
      rw [if_pos (by rfl)]
end Go.Proofs.Ytlggehdfigkliaa.Pu
set_option linter.unusedVariables false
set_option linter.unusedSimpArgs false
namespace Go.Proofs.Ytlggehdfigkliaa.Pu
open Go.RowKit Go.Proofs.Ytlggehdfigkliaa.Q Go.Proofs.YtlggehdfigkliaaW.PrintWords Go.Proofs.YtlggehdfigkliaaW.PrintLast Go.Proofs.YtlggehdfigkliaaW.PrintMore
theorem same_rat {a b c d : Int} (h1 : OkR a b) (h2 : OkR c d) (h : a * d = c * b) : a = c ∧ b = d := by
  obtain ⟨b1, _, _, _, hg1⟩ := h1
  obtain ⟨d1, _, _, _, hg2⟩ := h2
  have hn : a.natAbs * d.natAbs = c.natAbs * b.natAbs := by rw [← Int.natAbs_mul, ← Int.natAbs_mul, h]
  rw [Int.gcd_eq_natAbs_gcd_natAbs] at hg1 hg2
  have c1 : Nat.Coprime b.natAbs a.natAbs := by unfold Nat.Coprime; rw [Nat.gcd_comm]; exact hg1
  have c2 : Nat.Coprime d.natAbs c.natAbs := by unfold Nat.Coprime; rw [Nat.gcd_comm]; exact hg2
  have e1 : b.natAbs ∣ d.natAbs := c1.dvd_of_dvd_mul_left ⟨c.natAbs, by rw [hn, Nat.mul_comm]⟩
  have e2 : d.natAbs ∣ b.natAbs := c2.dvd_of_dvd_mul_left ⟨a.natAbs, by rw [← hn, Nat.mul_comm]⟩
  have e3 : b.natAbs = d.natAbs := Nat.dvd_antisymm e1 e2
  have e4 : b = d := by omega
  subst e4
  exact ⟨Int.eq_of_mul_eq_mul_right (by omega) h, rfl⟩
end Go.Proofs.Ytlggehdfigkliaa.Pu
set_option linter.unusedVariables false
set_option linter.unusedSimpArgs false
namespace Go.Proofs.Ytlggehdfigkliaa.Pu
open Go.RowKit Go.Proofs.Ytlggehdfigkliaa.Q Go.Proofs.YtlggehdfigkliaaW.PrintWords Go.Proofs.YtlggehdfigkliaaW.PrintLast Go.Proofs.YtlggehdfigkliaaW.PrintMore
def maxR (m s : Ra) : Ra := if m.f0 * s.f1 < s.f0 * m.f1 then s else m
def Le (a b : Ra) : Prop := a.f0 * b.f1 ≤ b.f0 * a.f1
theorem Le.trans {a b c : Ra} (ha : OkR a.f0 a.f1) (hb : OkR b.f0 b.f1) (hc : OkR c.f0 c.f1) (h1 : Le a b) (h2 : Le b c) : Le a c := by
  have a1 := ha.1
  have b1 := hb.1
  have c1 := hc.1
  unfold Le at *
  have e1 := Int.mul_le_mul_of_nonneg_right h1 (show 0 ≤ c.f1 by omega)
  have e2 := Int.mul_le_mul_of_nonneg_right h2 (show 0 ≤ a.f1 by omega)
  have e3 : a.f0 * c.f1 * b.f1 ≤ c.f0 * a.f1 * b.f1 := by
    calc a.f0 * c.f1 * b.f1 = a.f0 * b.f1 * c.f1 := by rw [Int.mul_assoc, Int.mul_comm c.f1, ← Int.mul_assoc]
      _ ≤ b.f0 * a.f1 * c.f1 := e1
      _ = b.f0 * c.f1 * a.f1 := by rw [Int.mul_assoc, Int.mul_comm a.f1, ← Int.mul_assoc]
      _ ≤ c.f0 * b.f1 * a.f1 := e2
      _ = c.f0 * a.f1 * b.f1 := by rw [Int.mul_assoc, Int.mul_comm b.f1, ← Int.mul_assoc]
  exact Int.le_of_mul_le_mul_right e3 (by omega)
theorem fold_max (l : List Ra) : ∀ m : Ra, OkR m.f0 m.f1 → (∀ x ∈ l, OkR x.f0 x.f1) → (l.foldl maxR m = m ∨ l.foldl maxR m ∈ l) ∧ OkR (l.foldl maxR m).f0 (l.foldl maxR m).f1 ∧ Le m (l.foldl maxR m) ∧ ∀ x ∈ l, Le x (l.foldl maxR m) := by
  induction l with
  | nil => intro m hm _; exact ⟨.inl rfl, hm, Int.le_refl _, fun x hx => by cases hx⟩
  | cons a t ih =>
    intro m hm h
    have ha := h a List.mem_cons_self
    have hmx : OkR (maxR m a).f0 (maxR m a).f1 := by unfold maxR; split <;> assumption
    have hl1 : Le m (maxR m a) := by unfold maxR Le; split <;> omega
    have hl2 : Le a (maxR m a) := by unfold maxR Le; split <;> omega
    obtain ⟨h1, h2, h3, h4⟩ := ih (maxR m a) hmx (fun x hx => h x (List.mem_cons_of_mem _ hx))
    refine ⟨?_, h2, Le.trans hm hmx h2 hl1 h3, fun x hx => ?_⟩
    · show t.foldl maxR (maxR m a) = m ∨ t.foldl maxR (maxR m a) ∈ a :: t
      rcases h1 with h1 | h1
      · rw [h1]
        unfold maxR
        split
        · exact .inr List.mem_cons_self
        · exact .inl rfl
      · exact .inr (List.mem_cons_of_mem _ h1)
    · rcases List.mem_cons.1 hx with rfl | hx
      · exact Le.trans ha hmx h2 hl2 h3
      · exact h4 x hx
theorem Le.anti {a b : Ra} (ha : OkR a.f0 a.f1) (hb : OkR b.f0 b.f1) (h1 : Le a b) (h2 : Le b a) : a = b := by
  unfold Le at *
  obtain ⟨e1, e2⟩ := same_rat ha hb (by omega)
  cases a; cases b; simp_all
def maxOf (l : List Ra) : Ra := l.foldl maxR ⟨0, 1⟩
theorem max_shift (l : List Ra) (h : ∀ x ∈ l, OkR x.f0 x.f1) : ((l ++ [(⟨0, 1⟩ : Ra)]).drop 1).foldl maxR (nr (l ++ [(⟨0, 1⟩ : Ra)]) 0) = maxOf l := by
  have h' : ∀ x ∈ l ++ [(⟨0, 1⟩ : Ra)], OkR x.f0 x.f1 := fun x hx => by
    rcases List.mem_append.1 hx with hx | hx
    · exact h x hx
    · rw [List.mem_singleton.1 hx]; exact ok_zero
  have hn : nr (l ++ [(⟨0, 1⟩ : Ra)]) 0 ∈ l ++ [(⟨0, 1⟩ : Ra)] := nr_mem _ 0 (by simp)
  have e0 : l ++ [(⟨0, 1⟩ : Ra)] = nr (l ++ [(⟨0, 1⟩ : Ra)]) 0 :: (l ++ [(⟨0, 1⟩ : Ra)]).drop 1 := by
    have := drop_getD (l ++ [(⟨0, 1⟩ : Ra)]) 0 z27 (by simp)
    rw [List.drop_zero] at this
    exact this
  obtain ⟨a1, a2, a3, a4⟩ := fold_max ((l ++ [(⟨0, 1⟩ : Ra)]).drop 1) (nr (l ++ [(⟨0, 1⟩ : Ra)]) 0) (h' _ hn) (fun x hx => h' x (List.mem_of_mem_drop hx))
  obtain ⟨b1, b2, b3, b4⟩ := fold_max l ⟨0, 1⟩ ok_zero h
  have aall : ∀ x ∈ l ++ [(⟨0, 1⟩ : Ra)], Le x (((l ++ [(⟨0, 1⟩ : Ra)]).drop 1).foldl maxR (nr (l ++ [(⟨0, 1⟩ : Ra)]) 0)) := fun x hx => by
    rw [e0] at hx
    rcases List.mem_cons.1 hx with rfl | hx
    · exact a3
    · exact a4 x hx
  have amem : ((l ++ [(⟨0, 1⟩ : Ra)]).drop 1).foldl maxR (nr (l ++ [(⟨0, 1⟩ : Ra)]) 0) ∈ l ++ [(⟨0, 1⟩ : Ra)] := by
    rcases a1 with a1 | a1
    · rw [a1]; exact hn
    · exact List.mem_of_mem_drop a1
  refine Le.anti a2 b2 ?_ ?_
  · rcases List.mem_append.1 amem with hx | hx
    · exact b4 _ hx
    · rw [List.mem_singleton.1 hx]; exact b3
  · rcases b1 with b1 | b1
    · rw [show maxOf l = ⟨0, 1⟩ from b1]; exact aall _ (by simp)
    · exact aall _ (List.mem_append_left _ b1)
theorem ivGreater_max {m s : Ra} (h1 : OkR m.f0 m.f1) (h2 : OkR s.f0 s.f1) : spec_ivGreater.f m.f0 m.f1 s.f0 s.f1 = some ((maxR m s).f0, (maxR m s).f1) := by
  unfold spec_ivGreater.f maxR
  obtain ⟨t, e, ht, _⟩ := raCmp_eq h1.bd h2.bd
  rw [e, Option.bind_some]
  by_cases h : m.f0 * s.f1 < s.f0 * m.f1
  · rw [if_pos (ht.2 h), if_pos h]
  · rw [if_neg (fun hh => h (ht.1 hh)), if_neg h]
theorem maxR_ok {m s : Ra} (h1 : OkR m.f0 m.f1) (h2 : OkR s.f0 s.f1) : OkR (maxR m s).f0 (maxR m s).f1 := by
  unfold maxR
  split <;> assumption
theorem sdMost_l (l : List Ra) (hl : l.length ≤ 1048576) (hb : ∀ x ∈ l, OkR x.f0 x.f1) : ∀ (d k i : Nat) (m : Ra), OkR m.f0 m.f1 → i + d = l.length → d < k → spec_sdMost.l0 k l (l.length : Int) (i : Int) m.f0 m.f1 = some (((l.drop i).foldl maxR m).f0, ((l.drop i).foldl maxR m).f1) := by
  intro d
  induction d with
  | zero =>
    intro k i m hm hi hk
    obtain ⟨k, rfl⟩ : ∃ m, k = m + 1 := ⟨k - 1, by omega⟩
    simp only [spec_sdMost.l0]
    rw [if_neg (by omega), List.drop_of_length_le (by omega)]
    rfl
  | succ d ih =>
    intro k i m hm hi hk
    obtain ⟨k, rfl⟩ : ∃ m, k = m + 1 := ⟨k - 1, by omega⟩
    simp only [spec_sdMost.l0]
    have hx := hb _ (nr_mem l i (by omega))
    rw [wr (_ + 1) (by omega), if_pos (by omega), if_pos (by omega), if_pos (by omega), show (i : Int) + 1 = ((i + 1 : Nat) : Int) by omega, rd_nr, ivGreater_max hm hx, Option.bind_some,
      drop_getD l i z27 (by omega), List.foldl_cons]
    exact ih k (i + 1) (maxR m (nr l i)) (maxR_ok hm hx) (by omega) (by omega)
theorem sdMost_eq (l : List Ra) (hl : l.length ≤ 1048576) (hb : ∀ x ∈ l, OkR x.f0 x.f1) (k : Nat) (hk : l.length < k) : spec_sdMost.f k l = some ((maxOf l).f0, (maxOf l).f1) := by
  unfold spec_sdMost.f spec_raInt.f
  rw [Option.bind_some]
  exact sdMost_l l hl hb l.length k 0 ⟨0, 1⟩ ok_zero (by omega) hk
theorem compare_gt {a b c d : Int} (h1 : Bd a b) (h2 : Bd c d) : ∃ t, impl_compare.f a b c d = some t ∧ (t > 0 ↔ c * b < a * d) := by
  obtain ⟨m1, m2, _⟩ := cross_bd h1 h2
  unfold impl_compare.f
  generalize a * d = p at *
  generalize c * b = q at *
  rw [wr p (by omega), wr q (by omega)]
  by_cases h : p < q
  · rw [if_pos h]; exact ⟨-1, rfl, by omega⟩
  · rw [if_neg h]
    by_cases h3 : p > q
    · rw [if_pos h3]; exact ⟨1, rfl, by omega⟩
    · rw [if_neg h3]; exact ⟨0, rfl, by omega⟩
theorem maxFunc_l (l : List Ra) (hl : l.length ≤ 1048576) (hb : ∀ x ∈ l, OkR x.f0 x.f1) : ∀ (d k i : Nat) (m : Ra), OkR m.f0 m.f1 → i + d = l.length → d < k → MaxFunc_impl_compare.l0 k l (i : Int) m.f0 m.f1 = some (((l.drop i).foldl maxR m).f0, ((l.drop i).foldl maxR m).f1) := by
  intro d
  induction d with
  | zero =>
    intro k i m hm hi hk
    obtain ⟨k, rfl⟩ : ∃ m, k = m + 1 := ⟨k - 1, by omega⟩
    simp only [MaxFunc_impl_compare.l0]
    rw [if_neg (by omega), List.drop_of_length_le (by omega)]
    rfl
  | succ d ih =>
    intro k i m hm hi hk
    obtain ⟨k, rfl⟩ : ∃ m, k = m + 1 := ⟨k - 1, by omega⟩
    simp only [MaxFunc_impl_compare.l0]
    have hx := hb _ (nr_mem l i (by omega))
    obtain ⟨t, e, ht⟩ := compare_gt hx.bd hm.bd
    rw [wr (_ + 1) (by omega), if_pos (by omega), if_pos (by omega), show (i : Int) + 1 = ((i + 1 : Nat) : Int) by omega, rd_nr, e, Option.bind_some, drop_getD l i z27 (by omega), List.foldl_cons]
    have := ih k (i + 1) (maxR m (nr l i)) (maxR_ok hm hx) (by omega) (by omega)
    by_cases h : m.f0 * (nr l i).f1 < (nr l i).f0 * m.f1
    · have e2 : maxR m (nr l i) = nr l i := if_pos h
      rw [if_pos (ht.2 h), show maxR m (l.getD i z27) = nr l i from e2]
      rw [e2] at this
      exact this
    · have e2 : maxR m (nr l i) = m := if_neg h
      rw [if_neg (fun hh => h (ht.1 hh)), show maxR m (l.getD i z27) = m from e2]
      rw [e2] at this
      exact this
theorem maxFunc_eq (l : List Ra) (h1 : 1 ≤ l.length) (hl : l.length ≤ 1048576) (hb : ∀ x ∈ l, OkR x.f0 x.f1) (k : Nat) (hk : l.length < k) : MaxFunc_impl_compare.f k l = some (((l.drop 1).foldl maxR (nr l 0)).f0, ((l.drop 1).foldl maxR (nr l 0)).f1) := by
  unfold MaxFunc_impl_compare.f
  rw [if_neg (by omega), if_pos (by omega), rd_nr0]
  exact maxFunc_l l hl hb (l.length - 1) k 1 (nr l 0) (hb _ (nr_mem l 0 (by omega))) (by omega) (by omega)
def worstO (o : Option (List Ra)) : Tri := match o with | some z => ((maxOf z).f0, (maxOf z).f1, true) | none => (0, 0, false)
noncomputable def worstR (f : List Pt) (l : List Ra) : Tri := if mapB f = true ∧ Pseudo l then worstO (jumpsO f l (l.length - 1) 1 []) else (0, 0, false)
theorem jumps_all {f : List Pt} {l z : List Ra} (hj : jumpsO f l (l.length - 1) 1 [] = some z) : ∀ x ∈ z, OkR x.f0 x.f1 := jumpsO_ok f l _ _ _ _ (fun x hx => by cases hx) hj
theorem jumps_len {f : List Pt} {l z : List Ra} (hp : Pseudo l) (hj : jumpsO f l (l.length - 1) 1 [] = some z) : z.length ≤ 20 := by
  have h1 := jumpsO_len _ _ _ _ _ _ hj
  have h2 := hp.2.1
  simp at h1
  omega
theorem implWorst_eq (f : List Pt) (l : List Ra) (hf : f.length ≤ 1048576) (hl : l.length ≤ 1048576) (k : Nat) (hk : 2000000 ≤ k) : impl_WorstJump.f k f l = some (worstR f l) := by
  unfold impl_WorstJump.f worstR
  rw [implJumps_eq f l hf hl k hk, Option.bind_some]
  unfold jumpsR
  by_cases h : mapB f = true ∧ Pseudo l
  · rw [if_pos h, if_pos h]
    cases hj : jumpsO f l (l.length - 1) 1 [] with
    | none => rfl
    | some z =>
      have hz := jumps_len h.2 hj
      have ha := jumps_all hj
      rw [show retO (some z) = (z, true) from rfl, show worstO (some z) = ((maxOf z).f0, (maxOf z).f1, true) from rfl]
      simp only [impl_zero.f, Option.bind_some, if_true]
      rw [if_pos (by omega), maxFunc_eq _ (by simp) (by simp; omega) (fun x hx => by
        rcases List.mem_append.1 hx with hx | hx
        · exact ha x hx
        · rw [List.mem_singleton.1 hx]; exact ok_zero) k (by simp; omega), max_shift z ha]
      rfl
  · rw [if_neg h, if_neg h]
    rfl
theorem specWorst_eq (f : List Pt) (l : List Ra) (hf : f.length ≤ 1048576) (hl : l.length ≤ 1048576) (k : Nat) (hk : 2000000 ≤ k) : spec_WorstJump.f k f l = some (worstR f l) := by
  unfold spec_WorstJump.f worstR
  rw [sdAsked_eq f l hf hl k (by omega), Option.bind_some]
  by_cases h : mapB f = true ∧ Pseudo l
  · rw [if_pos h, h.1, decide_eq_true h.2, Bool.and_self, if_pos rfl, sdJumps_eq f l h.1 h.2 k (by omega), Option.bind_some]
    cases hj : jumpsO f l (l.length - 1) 1 [] with
    | none => rfl
    | some z =>
      have hz := jumps_len h.2 hj
      rw [show retO (some z) = (z, true) from rfl, show worstO (some z) = ((maxOf z).f0, (maxOf z).f1, true) from rfl]
      simp only [if_true]
      rw [sdMost_eq z (by omega) (jumps_all hj) k (by omega)]
      rfl
  · rw [if_neg h, if_neg (by
      intro hh
      simp only [Bool.and_eq_true, decide_eq_true_eq] at hh
      exact h hh)]
end Go.Proofs.Ytlggehdfigkliaa.Pu
set_option linter.unusedVariables false
set_option linter.unusedSimpArgs false
namespace Go.Proofs.Ytlggehdfigkliaa.Pure
open Go.RowKit Go.Proofs.Ytlggehdfigkliaa.Q Go.Proofs.Ytlggehdfigkliaa.Pu Go.Proofs.YtlggehdfigkliaaW.PrintWords Go.Proofs.YtlggehdfigkliaaW.PrintLast Go.Proofs.YtlggehdfigkliaaW.PrintMore
theorem FnExactWorstJump : laws_FnExactWorstJump.Pure := by
  intro l0 l1 _ _ _ _
  refine ⟨4000005, ?_⟩
  unfold laws_FnExactWorstJump.f laws_szPointS.f
  have hm0 : (maxLen : Nat) ≤ 9223372036854775807 := by decide
  by_cases hb : (wrap64 (1048576 - (l0.length : Int))) < 0
  · rw [if_pos hb]; rfl
  · rw [if_neg hb]
    have hl0 : l0.length ≤ 1048576 := by rw [wr _ (by omega)] at hb; omega
    simp only [Option.bind_some]
    rw [if_neg hb]
    unfold laws_szRatS.f
    rw [wr (1048576 - _) (by omega)]
    by_cases hc : (wrap64 (1048576 - (l0.length : Int) - (l1.length : Int))) < 0
    · rw [if_pos hc]; rfl
    · rw [if_neg hc]
      have hl1 : l1.length ≤ 1048576 := by rw [wr _ (by omega)] at hc; omega
      simp only [Option.bind_some]
      rw [if_neg hc, toPointS l0 hl0 _ (by omega), toRatS l1 hl1 _ (by omega)]
      simp only [Option.bind_some]
      have hf : (l0.map cvPoint).length ≤ 1048576 := by simpa using hl0
      have hr : (l1.map cvRat).length ≤ 1048576 := by simpa using hl1
      generalize hF : l0.map cvPoint = F at hf
      generalize hR : l1.map cvRat = R at hr
      rw [specWorst_eq F R hf hr _ (by omega), implWorst_eq F R hf hr _ (by omega)]
      generalize worstR F R = v
      simp only [Option.bind_some]
      rw [eqRat_self ⟨v.1, v.2.1⟩]
      simp only [Option.bind_some, if_true, bne_self_eq_false, laws_FnExactWorstJump.j0]
      rw [if_neg (by decide), toPointS l0 hl0 _ (by omega), hF]
      simp only [Option.bind_some]
      rw [eqPointS_self F (by omega) _ (by omega)]
      simp only [Option.bind_some, if_true]
      rw [toRatS l1 hl1 _ (by omega), hR]
      simp only [Option.bind_some]
      rw [eqRatS_self R (by omega) _ (by omega)]
      simp only [Option.bind_some, if_true]
end Go.Proofs.Ytlggehdfigkliaa.Pure

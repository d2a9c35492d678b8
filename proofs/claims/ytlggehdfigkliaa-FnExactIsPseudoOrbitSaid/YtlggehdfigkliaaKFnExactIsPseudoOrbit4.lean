/- All that the statement FnExactIsPseudoOrbit rests on, part 4: the walks of the functions that it reaches, and the plain laws of what they compute. -/
import Derived.Test.YtlggehdfigkliaaKFnExactIsPseudoOrbit3
namespace Go.Proofs.Ytlggehdfigkliaa.Q
open Go.RowKit Go.Proofs.YtlggehdfigkliaaW.PrintWords Go.Proofs.YtlggehdfigkliaaW.PrintLast Go.Proofs.YtlggehdfigkliaaW.PrintMore
attribute [local go_sem] max2_int min2_int max_two min_two max_three min_three max_four min_four   -- for this text's walks alone
set_option linter.unusedVariables false
set_option linter.unusedSimpArgs false
def impl_calc_value.f (k : Nat) (s0_0 : Bool) (l1 : List (S57)) (a2_0 : Int) (a2_1 : Int) : Option (Int × Int × Bool) := (impl_pieceAt.f l1 a2_0 a2_1).bind fun tA => (if 0 ≤ tA then (if tA < (l1.length : Int) then (if 0 ≤ (wrap64 (tA + 1)) then (if (wrap64 (tA + 1)) < (l1.length : Int) then ((impl_calc_slope.f k s0_0 ((rd_T57 l1 tA).f0.f0) ((rd_T57 l1 tA).f0.f1) ((rd_T57 l1 tA).f1.f0) ((rd_T57 l1 tA).f1.f1) ((rd_T57 l1 (wrap64 (tA + 1))).f0.f0) ((rd_T57 l1 (wrap64 (tA + 1))).f0.f1) ((rd_T57 l1 (wrap64 (tA + 1))).f1.f0) ((rd_T57 l1 (wrap64 (tA + 1))).f1.f1)).bind fun btB => ((impl_calc_line.f k btB.2.2 ((rd_T57 l1 tA).f0.f0) ((rd_T57 l1 tA).f0.f1) ((rd_T57 l1 tA).f1.f0) ((rd_T57 l1 tA).f1.f1) btB.1 btB.2.1 a2_0 a2_1).bind fun btC => (some (btC.1, btC.2.1, btC.2.2)))) else (none)) else (none)) else (none)) else (none))
def impl_calc_value.T2 : Bool × List (List Nat × List Nat) := (true, [([], []), ([], []), ([], []), ([1, 2], [1, 2]), ([3], [3]), ([], []), ([], []), ([], []), ([6, 7], [6, 7]), ([8], [8]), ([], []), ([], []), ([11], [11]), ([10, 12], [10, 12]), ([13], [13]), ([5, 9, 14], [5, 9, 14]), ([], []), ([0, 4, 15, 16, 15], [0, 4, 15, 16]), ([17, 17, 0, 1, 2, 3, 4, 5, 6, 7, 8, 9, 10, 11, 12, 13, 14, 15, 16, 17], [17])])
def impl_calc_value.B2 : List Nat := [0, 0, 0, 6, 14, 0, 0, 0, 192, 448, 0, 0, 2048, 7168, 15360, 32736, 0, 131071, 262143]
theorem impl_calc_value.tab2 : rtab .any (opsOf Try.f99 2) = impl_calc_value.T2 := by kernel_rfl
theorem impl_calc_value.bits2 : waitsOk impl_calc_value.T2.2 impl_calc_value.B2 = true := by kernel_rfl
theorem zz215 {p : Prop} (h : p := by (with_reducible repeat (first | refine blk_drewN ?_ _ | refine blk_drew ?_ | refine blk_alloc ?_ _)); exact BKA.out) : p := h
theorem zz214 {p : Prop} (h : p := by (with_reducible repeat (first | refine blk_drewN ?_ _ | refine blk_drew ?_ | refine blk_alloc ?_ _)); exact BKB.out) : p := h
theorem zz183 {p : Prop} (h : p := by first | (rw [add_block]; exact hneC_3) | (show (Addr.add _ _).block ≠ _; rw [add_block]; exact hneC_3) | exact hneC_3) : p := h
theorem zz182 {p : Prop} (h : p := by first | (rw [add_block]; exact hneC_2) | (show (Addr.add _ _).block ≠ _; rw [add_block]; exact hneC_2) | exact hneC_2) : p := h
theorem zz181 {p : Prop} (h : p := by first | (rw [add_block]; exact hneC_1) | (show (Addr.add _ _).block ≠ _; rw [add_block]; exact hneC_1) | exact hneC_1) : p := h
theorem zz180 {p : Prop} (h : p := by first | (rw [add_block]; exact hneC_0) | (show (Addr.add _ _).block ≠ _; rw [add_block]; exact hneC_0) | exact hneC_0) : p := h
theorem zz179 {p : Prop} (h : p := by first | (rw [add_block]; exact hneD_3) | (show (Addr.add _ _).block ≠ _; rw [add_block]; exact hneD_3) | exact hneD_3) : p := h
theorem zz178 {p : Prop} (h : p := by first | (rw [add_block]; exact hneD_2) | (show (Addr.add _ _).block ≠ _; rw [add_block]; exact hneD_2) | exact hneD_2) : p := h
theorem zz177 {p : Prop} (h : p := by first | (rw [add_block]; exact hneD_1) | (show (Addr.add _ _).block ≠ _; rw [add_block]; exact hneD_1) | exact hneD_1) : p := h
theorem zz176 {p : Prop} (h : p := by first | (rw [add_block]; exact hneD_0) | (show (Addr.add _ _).block ≠ _; rw [add_block]; exact hneD_0) | exact hneD_0) : p := h
theorem zz175 {p : Prop} (h : p := by first | (rw [add_block]; exact hneE_3) | (show (Addr.add _ _).block ≠ _; rw [add_block]; exact hneE_3) | exact hneE_3) : p := h
theorem zz174 {p : Prop} (h : p := by first | (rw [add_block]; exact hneE_2) | (show (Addr.add _ _).block ≠ _; rw [add_block]; exact hneE_2) | exact hneE_2) : p := h
theorem zz173 {p : Prop} (h : p := by first | (rw [add_block]; exact hneE_1) | (show (Addr.add _ _).block ≠ _; rw [add_block]; exact hneE_1) | exact hneE_1) : p := h
theorem zz172 {p : Prop} (h : p := by first | (rw [add_block]; exact hneE_0) | (show (Addr.add _ _).block ≠ _; rw [add_block]; exact hneE_0) | exact hneE_0) : p := h
theorem zz117 {p : Prop} (h : p := by repeat (first | (with_reducible first | exact HK.out | apply KeepBut.set_ | apply keep_drewN | apply keep_drew | apply keep_alloc | refine keep_far ?_ GWB.out _) | exact HK.out)) : p := h
theorem zz77 {p : Prop} (h : p := by repeat (first | (with_reducible first | exact HK.out | apply KeepBut.set_ | apply keep_drewN | apply keep_drew | apply keep_alloc | refine keep_far ?_ GWB.out _ | refine keep_far ?_ GWA.out _) | exact HK.out)) : p := h
theorem zz39 {p : Prop} (h : p := by first | exact Nat.ne_of_lt (Nat.lt_of_lt_of_le hltC_3 GWA.out) | (rw [add_block]; exact Nat.ne_of_lt (Nat.lt_of_lt_of_le hltC_3 GWA.out)) | (show (Addr.add _ _).block ≠ _; rw [add_block]; exact Nat.ne_of_lt (Nat.lt_of_lt_of_le hltC_3 GWA.out)) | (dsimp only; exact Nat.ne_of_lt (Nat.lt_of_lt_of_le hltC_3 GWA.out))) : p := h
theorem zz38 {p : Prop} (h : p := by first | exact Nat.ne_of_lt (Nat.lt_of_lt_of_le hltC_2 GWA.out) | (rw [add_block]; exact Nat.ne_of_lt (Nat.lt_of_lt_of_le hltC_2 GWA.out)) | (show (Addr.add _ _).block ≠ _; rw [add_block]; exact Nat.ne_of_lt (Nat.lt_of_lt_of_le hltC_2 GWA.out)) | (dsimp only; exact Nat.ne_of_lt (Nat.lt_of_lt_of_le hltC_2 GWA.out))) : p := h
theorem zz37 {p : Prop} (h : p := by first | exact Nat.ne_of_lt (Nat.lt_of_lt_of_le hltC_1 GWA.out) | (rw [add_block]; exact Nat.ne_of_lt (Nat.lt_of_lt_of_le hltC_1 GWA.out)) | (show (Addr.add _ _).block ≠ _; rw [add_block]; exact Nat.ne_of_lt (Nat.lt_of_lt_of_le hltC_1 GWA.out)) | (dsimp only; exact Nat.ne_of_lt (Nat.lt_of_lt_of_le hltC_1 GWA.out))) : p := h
theorem zz36 {p : Prop} (h : p := by first | exact Nat.ne_of_lt (Nat.lt_of_lt_of_le hltC_0 GWA.out) | (rw [add_block]; exact Nat.ne_of_lt (Nat.lt_of_lt_of_le hltC_0 GWA.out)) | (show (Addr.add _ _).block ≠ _; rw [add_block]; exact Nat.ne_of_lt (Nat.lt_of_lt_of_le hltC_0 GWA.out)) | (dsimp only; exact Nat.ne_of_lt (Nat.lt_of_lt_of_le hltC_0 GWA.out))) : p := h
theorem zz35 {p : Prop} (h : p := by first | exact Nat.ne_of_lt (Nat.lt_of_lt_of_le hltD_3 GWA.out) | (rw [add_block]; exact Nat.ne_of_lt (Nat.lt_of_lt_of_le hltD_3 GWA.out)) | (show (Addr.add _ _).block ≠ _; rw [add_block]; exact Nat.ne_of_lt (Nat.lt_of_lt_of_le hltD_3 GWA.out)) | (dsimp only; exact Nat.ne_of_lt (Nat.lt_of_lt_of_le hltD_3 GWA.out))) : p := h
theorem zz34 {p : Prop} (h : p := by first | exact Nat.ne_of_lt (Nat.lt_of_lt_of_le hltD_2 GWA.out) | (rw [add_block]; exact Nat.ne_of_lt (Nat.lt_of_lt_of_le hltD_2 GWA.out)) | (show (Addr.add _ _).block ≠ _; rw [add_block]; exact Nat.ne_of_lt (Nat.lt_of_lt_of_le hltD_2 GWA.out)) | (dsimp only; exact Nat.ne_of_lt (Nat.lt_of_lt_of_le hltD_2 GWA.out))) : p := h
theorem zz33 {p : Prop} (h : p := by first | exact Nat.ne_of_lt (Nat.lt_of_lt_of_le hltD_1 GWA.out) | (rw [add_block]; exact Nat.ne_of_lt (Nat.lt_of_lt_of_le hltD_1 GWA.out)) | (show (Addr.add _ _).block ≠ _; rw [add_block]; exact Nat.ne_of_lt (Nat.lt_of_lt_of_le hltD_1 GWA.out)) | (dsimp only; exact Nat.ne_of_lt (Nat.lt_of_lt_of_le hltD_1 GWA.out))) : p := h
theorem zz32 {p : Prop} (h : p := by first | exact Nat.ne_of_lt (Nat.lt_of_lt_of_le hltD_0 GWA.out) | (rw [add_block]; exact Nat.ne_of_lt (Nat.lt_of_lt_of_le hltD_0 GWA.out)) | (show (Addr.add _ _).block ≠ _; rw [add_block]; exact Nat.ne_of_lt (Nat.lt_of_lt_of_le hltD_0 GWA.out)) | (dsimp only; exact Nat.ne_of_lt (Nat.lt_of_lt_of_le hltD_0 GWA.out))) : p := h
theorem zz31 {p : Prop} (h : p := by first | exact Nat.ne_of_lt (Nat.lt_of_lt_of_le hltE_3 GWA.out) | (rw [add_block]; exact Nat.ne_of_lt (Nat.lt_of_lt_of_le hltE_3 GWA.out)) | (show (Addr.add _ _).block ≠ _; rw [add_block]; exact Nat.ne_of_lt (Nat.lt_of_lt_of_le hltE_3 GWA.out)) | (dsimp only; exact Nat.ne_of_lt (Nat.lt_of_lt_of_le hltE_3 GWA.out))) : p := h
theorem zz30 {p : Prop} (h : p := by first | exact Nat.ne_of_lt (Nat.lt_of_lt_of_le hltE_2 GWA.out) | (rw [add_block]; exact Nat.ne_of_lt (Nat.lt_of_lt_of_le hltE_2 GWA.out)) | (show (Addr.add _ _).block ≠ _; rw [add_block]; exact Nat.ne_of_lt (Nat.lt_of_lt_of_le hltE_2 GWA.out)) | (dsimp only; exact Nat.ne_of_lt (Nat.lt_of_lt_of_le hltE_2 GWA.out))) : p := h
theorem zz29 {p : Prop} (h : p := by first | exact Nat.ne_of_lt (Nat.lt_of_lt_of_le hltE_1 GWA.out) | (rw [add_block]; exact Nat.ne_of_lt (Nat.lt_of_lt_of_le hltE_1 GWA.out)) | (show (Addr.add _ _).block ≠ _; rw [add_block]; exact Nat.ne_of_lt (Nat.lt_of_lt_of_le hltE_1 GWA.out)) | (dsimp only; exact Nat.ne_of_lt (Nat.lt_of_lt_of_le hltE_1 GWA.out))) : p := h
theorem zz28 {p : Prop} (h : p := by first | exact Nat.ne_of_lt (Nat.lt_of_lt_of_le hltE_0 GWA.out) | (rw [add_block]; exact Nat.ne_of_lt (Nat.lt_of_lt_of_le hltE_0 GWA.out)) | (show (Addr.add _ _).block ≠ _; rw [add_block]; exact Nat.ne_of_lt (Nat.lt_of_lt_of_le hltE_0 GWA.out)) | (dsimp only; exact Nat.ne_of_lt (Nat.lt_of_lt_of_le hltE_0 GWA.out))) : p := h
set_option maxHeartbeats 8000000 in
set_option maxRecDepth 100000 in
theorem impl_calc_value.calls (k : Nat) (g : Nat) (s0_0 : Bool) (A1 : Option Addr) (c1 : Nat) (l1 : List (S57)) (a2_0 : Int) (a2_1 : Int) (r1 : Int) (r2 : Int) (r3 : Bool) (w0 w : World) (hI : IsS70 w0 w g s0_0) (hB : Below w0.heap.size w0 w) (hr1 : ∀ W_, KeepBut w W_ g none → Kd.C k57 W_ A1 l1.length l1) (hc1 : l1.length ≤ c1) (h : impl_calc_value.f k s0_0 l1 a2_0 a2_1 = some (r1, r2, r3)) :
  Calls Try.prog 99 #[.pointer (some ⟨g, 0, none⟩), .slice A1 l1.length c1, .agg #[.int .i64 a2_0, .int .i64 a2_1]] w fun e w' => e = .returned (.agg #[.int .i64 r1, .int .i64 r2]) ∧ IsS70 w0 w' g r3 ∧ Below w0.heap.size w0 w' ∧ KeepBut w w' g none := by
 have hu27 := Try.underlying27; have hu57 := Try.underlying57; have HR1 := Aside0.mk hr1; have HC1 := Aside0.mk hc1; clear hr1 hc1; have HI0 := Aside0.mk hI; have HK := Aside0.mk (KeepBut.refl w g none); have HL := Aside0.mk hB.size; clear hI; have HW0 := Aside0.mk hB.size; have HB := Aside0.mk hB; clear hB; have H : ((impl_pieceAt.f l1 a2_0 a2_1).bind fun tF => (if 0 ≤ tF then (if tF < (l1.length : Int) then (if 0 ≤ (wrap64 (tF + 1)) then (if (wrap64 (tF + 1)) < (l1.length : Int) then ((impl_calc_slope.f k s0_0 ((rd_T57 l1 tF).f0.f0) ((rd_T57 l1 tF).f0.f1) ((rd_T57 l1 tF).f1.f0) ((rd_T57 l1 tF).f1.f1) ((rd_T57 l1 (wrap64 (tF + 1))).f0.f0) ((rd_T57 l1 (wrap64 (tF + 1))).f0.f1) ((rd_T57 l1 (wrap64 (tF + 1))).f1.f0) ((rd_T57 l1 (wrap64 (tF + 1))).f1.f1)).bind fun btG => ((impl_calc_line.f k btG.2.2 ((rd_T57 l1 tF).f0.f0) ((rd_T57 l1 tF).f0.f1) ((rd_T57 l1 tF).f1.f0) ((rd_T57 l1 tF).f1.f1) btG.1 btG.2.1 a2_0 a2_1).bind fun btH => (some (btH.1, btH.2.1, btH.2.2)))) else (none)) else (none)) else (none)) else (none))) = some (r1, r2, r3) := h; clear h; replace H := Option.bind_eq_some_iff.mp H; obtain ⟨tF, A40, H⟩ := H; replace H : (if 0 ≤ tF then (if tF < (l1.length : Int) then (if 0 ≤ (wrap64 (tF + 1)) then (if (wrap64 (tF + 1)) < (l1.length : Int) then ((impl_calc_slope.f k s0_0 ((rd_T57 l1 tF).f0.f0) ((rd_T57 l1 tF).f0.f1) ((rd_T57 l1 tF).f1.f0) ((rd_T57 l1 tF).f1.f1) ((rd_T57 l1 (wrap64 (tF + 1))).f0.f0) ((rd_T57 l1 (wrap64 (tF + 1))).f0.f1) ((rd_T57 l1 (wrap64 (tF + 1))).f1.f0) ((rd_T57 l1 (wrap64 (tF + 1))).f1.f1)).bind fun btG => ((impl_calc_line.f k btG.2.2 ((rd_T57 l1 tF).f0.f0) ((rd_T57 l1 tF).f0.f1) ((rd_T57 l1 tF).f1.f0) ((rd_T57 l1 tF).f1.f1) btG.1 btG.2.1 a2_0 a2_1).bind fun btH => (some (btH.1, btH.2.1, btH.2.2)))) else (none)) else (none)) else (none)) else (none)) = some (r1, r2, r3) := H; have A4 := Aside0.mk A40; clear A40; by_cases c5 : 0 ≤ tF
 ·rw [if_pos c5] at H; have c5b0 : decide (0 ≤ tF) = true := decide_eq_true c5; clear c5; by_cases c6 : tF < (l1.length : Int)
  ·rw [if_pos c6] at H; have c6b0 : decide (tF < (l1.length : Int)) = true := decide_eq_true c6; clear c6; obtain ⟨ji7, hji7⟩ : ∃ j_ : Int, (wrap64 (tF + 1)) = j_ := ⟨_, rfl⟩; replace H : (if 0 ≤ (ji7) then (if (ji7) < (l1.length : Int) then ((impl_calc_slope.f k s0_0 ((rd_T57 l1 tF).f0.f0) ((rd_T57 l1 tF).f0.f1) ((rd_T57 l1 tF).f1.f0) ((rd_T57 l1 tF).f1.f1) ((rd_T57 l1 (ji7)).f0.f0) ((rd_T57 l1 (ji7)).f0.f1) ((rd_T57 l1 (ji7)).f1.f0) ((rd_T57 l1 (ji7)).f1.f1)).bind fun btG => ((impl_calc_line.f k btG.2.2 ((rd_T57 l1 tF).f0.f0) ((rd_T57 l1 tF).f0.f1) ((rd_T57 l1 tF).f1.f0) ((rd_T57 l1 tF).f1.f1) btG.1 btG.2.1 a2_0 a2_1).bind fun btH => (some (btH.1, btH.2.1, btH.2.2)))) else (none)) else (none)) = some (r1, r2, r3) := by first | (rw [hji7] at H; exact H) | (simp only [hji7] at H ⊢; exact H)
   (try rw [hji7] at A4); have hji7w : (IntKind.i64.wrap (tF + 1)) = ji7 := (i64_w _).trans hji7; by_cases c8 : 0 ≤ (ji7)
   ·rw [if_pos c8] at H; have c8b0 : decide (0 ≤ (ji7)) = true := decide_eq_true c8; clear c8; by_cases c9 : (ji7) < (l1.length : Int)
    ·rw [if_pos c9] at H; have c9b0 : decide ((ji7) < (l1.length : Int)) = true := decide_eq_true c9; clear c9; replace H := Option.bind_eq_some_iff.mp H; obtain ⟨⟨tG, tI, tJ⟩, AK, H⟩ := H; replace H : ((impl_calc_line.f k tJ ((rd_T57 l1 tF).f0.f0) ((rd_T57 l1 tF).f0.f1) ((rd_T57 l1 tF).f1.f0) ((rd_T57 l1 tF).f1.f1) tG tI a2_0 a2_1).bind fun btH => (some (btH.1, btH.2.1, btH.2.2))) = some (r1, r2, r3) := H; have A10 := Aside0.mk AK; clear AK; replace H := Option.bind_eq_some_iff.mp H; obtain ⟨⟨tH, tL, tM⟩, AN, H⟩ := H; replace H : (some (tH, tL, tM)) = some (r1, r2, r3) := H; have A11 := Aside0.mk AN; clear AN; simp only [Option.some.injEq, Prod.mk.injEq] at H; obtain ⟨rfl, rfl, rfl⟩ := H; go_enter Try.func99, Try.ntmps99
     try go_wp2_with (first | ((with_reducible refine gate_dst (N := 5) rfl ?_); refine boxE 5 #[.int .i64 a2_0, .int .i64 a2_1] 27 ?_; intro gbB hg w12 hbox hb; have n0_ := Aside0.mk (IsS70.below zz168 hb); have n1_ := Aside0.mk (KeepBut.trans zz169 (KeepBut.of_below hb g none) (.inl rfl)); have n2_ := Aside0.mk (below_step zz119 hb); have n3_ := Aside0.mk (hbox); have n4_ := Aside0.mk ((by rw [hg]; exact (keep_size (w := w) (g := g) (row := none) zz169) : w.heap.size ≤ gbB)); have n5_ := Aside0.mk ((Nat.le_trans HW0.out (by rw [hg]; exact (keep_size (w := w) (g := g) (row := none) zz169) : w.heap.size ≤ gbB) : w0.heap.size ≤ gbB)); have n6_ := Aside0.mk ((by rw [hg]; exact Nat.ne_of_lt (IsS70.lt (show IsS70 w0 _ g s0_0 from by repeat (first | (with_reducible first | exact HI0.out | apply IsS70.alloc | apply IsS70.drewN | apply IsS70.drew | apply IsS70.set_0) | exact HI0.out))) : g ≠ gbB)); have n7_ := Aside0.mk ((by rw [hg]; exact Nat.ne_of_gt (IsS70.lt (show IsS70 w0 _ g s0_0 from by repeat (first | (with_reducible first | exact HI0.out | apply IsS70.alloc | apply IsS70.drewN | apply IsS70.drew | apply IsS70.set_0) | exact HI0.out))) : gbB ≠ g)); clear HI0; clear HK; clear HB; have HI0 := n0_; have HK := n1_; have HB := n2_; have BKB := n3_; have GWB := n4_; have GEB := n5_; have NB0_450 := n6_; have NBB_0 := n7_; clear n0_ n1_ n2_ n3_ n4_ n5_ n6_ n7_; clear hb hbox hg) | ((with_reducible refine gate_dst (N := 6) rfl ?_); refine boxE 6 #[.int .i64 0, .int .i64 0] 27 ?_; intro gbA hg w13 hbox hb; have n0_ := Aside0.mk (IsS70.below (by repeat (first | (with_reducible first | exact HI0.out | apply IsS70.alloc | apply IsS70.drewN | apply IsS70.drew | apply IsS70.set_0 | apply IsS70.far (hne := NB0_450.out)) | exact HI0.out)) hb); have n1_ := blkA BKB hb; have n2_ := Aside0.mk (KeepBut.trans zz117 (KeepBut.of_below hb g none) (.inl rfl)); have n3_ := Aside0.mk (below_step (by repeat (first | (with_reducible first | exact HB.out | apply below_alloc | apply pw_below_drewN | apply below_drew1 | refine below_set ?_ (IsS70.ge HI0.out) | refine below_set ?_ GEB.out) | exact HB.out)) hb); have n4_ := Aside0.mk (hbox); have n5_ := Aside0.mk ((by rw [hg]; exact (keep_size (w := w) (g := g) (row := none) zz117) : w.heap.size ≤ gbA)); have n6_ := Aside0.mk ((Nat.le_trans HW0.out (by rw [hg]; exact (keep_size (w := w) (g := g) (row := none) zz117) : w.heap.size ≤ gbA) : w0.heap.size ≤ gbA)); have n7_ := nltA BKB hg; have n8_ := ngtA BKB hg; have n9_ := Aside0.mk ((by rw [hg]; exact Nat.ne_of_lt (IsS70.lt (show IsS70 w0 _ g s0_0 from by repeat (first | (with_reducible first | exact HI0.out | apply IsS70.alloc | apply IsS70.drewN | apply IsS70.drew | apply IsS70.set_0 | apply IsS70.far (hne := NB0_450.out)) | exact HI0.out))) : g ≠ gbA)); have n10_ := Aside0.mk ((by rw [hg]; exact Nat.ne_of_gt (IsS70.lt (show IsS70 w0 _ g s0_0 from by repeat (first | (with_reducible first | exact HI0.out | apply IsS70.alloc | apply IsS70.drewN | apply IsS70.drew | apply IsS70.set_0 | apply IsS70.far (hne := NB0_450.out)) | exact HI0.out))) : gbA ≠ g)); clear HI0; clear BKB; clear HK; clear HB; have HI0 := n0_; have BKB := n1_; have HK := n2_; have HB := n3_; have BKA := n4_; have GWA := n5_; have GEA := n6_; have NBB_A := n7_; have NBA_B := n8_; have NB0_451 := n9_; have NBA_0 := n10_; clear n0_ n1_ n2_ n3_ n4_ n5_ n6_ n7_ n8_ n9_ n10_; clear hb hbox hg; have hnb14 := NBB_A.out; have hnc14 := NBA_B.out; have hnb15 := NBB_0.out; have hnc15 := NB0_450.out; obtain ⟨hcz16_0, hcz16_1, hfz16_0, hfz16_1⟩ := cz2 BKB.out) | ((with_reducible refine gate_callee (f := 118) rfl ?_); refine goesL_ (some 10) rfl rfl Try.func118 (by kernel_rfl) rfl #[.slice A1 l1.length c1, .agg #[.int .i64 a2_0, .int .i64 a2_1]] rfl zz170 ?_; (with_reducible refine (impl_pieceAt.calls _ _ l1 a2_0 a2_1 tF _ ?side1 ?side2 A4.out).mono ?_); (case side1 => exact Kd.C_foot_now HR1.out zz77); (case side2 => exact HC1.out); rintro e w17 ⟨rfl, hb⟩; refine ⟨_, rfl, ?_⟩; have n0_ := Aside0.mk (IsS70.below (by repeat (first | (with_reducible first | exact HI0.out | apply IsS70.alloc | apply IsS70.drewN | apply IsS70.drew | apply IsS70.set_0 | apply IsS70.far (hne := NB0_450.out) | apply IsS70.far (hne := NB0_451.out)) | exact HI0.out)) hb); replace HK := Aside0.mk (KeepBut.trans zz77 (KeepBut.of_below hb g none) (.inl rfl)); replace HB := Aside0.mk (below_step (by repeat (first | (with_reducible first | exact HB.out | apply below_alloc | apply pw_below_drewN | apply below_drew1 | refine below_set ?_ (IsS70.ge HI0.out) | refine below_set ?_ GEB.out | refine below_set ?_ GEA.out) | exact HB.out)) hb); clear HI0; have HI0 := n0_; clear n0_; replace BKB := blkA BKB hb; replace BKA := blkA BKA hb; (try clear hb)))
     replace BKB := Aside0.mk (blk_drew BKB.out); replace BKA := Aside0.mk (blk_drew BKA.out); replace HI0 := Aside0.mk (IsS70.drew HI0.out); replace HK := Aside0.mk (keep_drew HK.out); replace HB := Aside0.mk (below_drew1 HB.out); have pE : 0 ≤ (tF : Int) := of_decide_eq_true zz245; have qE : tF < (l1.length : Int) := of_decide_eq_true zz245; obtain ⟨adE, eE, hxE_0, hxE_1, hxE_2, hxE_3⟩ := at_T57 (Kd.C_foot_now HR1.out HK.out) tF pE qE; have hwE_3 := hxE_3; have hwE_2 := hxE_2; have hwE_1 := hxE_1; have hwE_0 := hxE_0; cases eE
     have hneE_3 := (show (⟨(adE.add ((tF).toNat * 4)).block, (adE.add ((tF).toNat * 4)).off + 3, none⟩ : Addr).block ≠ g from by first | (rw [add_block]; exact Kd.foot_ne HR1.out (by omega) (by decide)) | (show (Addr.add _ _).block ≠ _; rw [add_block]; exact Kd.foot_ne HR1.out (by omega) (by decide)) | exact Kd.foot_ne HR1.out (by omega) (by decide) | (dsimp only; exact Kd.foot_ne HR1.out (by omega) (by decide))); have hltE_3 := (Kd.foot_lt HR1.out (by omega) (by decide)); have hneE_2 := (show (⟨(adE.add ((tF).toNat * 4)).block, (adE.add ((tF).toNat * 4)).off + 2, none⟩ : Addr).block ≠ g from by first | (rw [add_block]; exact Kd.foot_ne HR1.out (by omega) (by decide)) | (show (Addr.add _ _).block ≠ _; rw [add_block]; exact Kd.foot_ne HR1.out (by omega) (by decide)) | exact Kd.foot_ne HR1.out (by omega) (by decide) | (dsimp only; exact Kd.foot_ne HR1.out (by omega) (by decide))); have hltE_2 := (Kd.foot_lt HR1.out (by omega) (by decide)); have hneE_1 := (show (⟨(adE.add ((tF).toNat * 4)).block, (adE.add ((tF).toNat * 4)).off + 1, none⟩ : Addr).block ≠ g from by first | (rw [add_block]; exact Kd.foot_ne HR1.out (by omega) (by decide)) | (show (Addr.add _ _).block ≠ _; rw [add_block]; exact Kd.foot_ne HR1.out (by omega) (by decide)) | exact Kd.foot_ne HR1.out (by omega) (by decide) | (dsimp only; exact Kd.foot_ne HR1.out (by omega) (by decide))); have hltE_1 := (Kd.foot_lt HR1.out (by omega) (by decide)); have hneE_0 := (show ((adE.add ((tF).toNat * 4)) : Addr).block ≠ g from by first | (rw [add_block]; exact Kd.foot_ne HR1.out (by omega) (by decide)) | (show (Addr.add _ _).block ≠ _; rw [add_block]; exact Kd.foot_ne HR1.out (by omega) (by decide)) | exact Kd.foot_ne HR1.out (by omega) (by decide) | (dsimp only; exact Kd.foot_ne HR1.out (by omega) (by decide))); have hltE_0 := (Kd.foot_lt HR1.out (by omega) (by decide)); replace pE := eq_true pE; replace qE := eq_true qE; have pD : 0 ≤ (tF : Int) := of_decide_eq_true zz245; have qD : tF < (l1.length : Int) := of_decide_eq_true zz245; obtain ⟨adD, eD, hxD_0, hxD_1, hxD_2, hxD_3⟩ := at_T57 (Kd.C_foot_now HR1.out HK.out) tF pD qD; have hwD_3 := hxD_3; have hwD_2 := hxD_2; have hwD_1 := hxD_1; have hwD_0 := hxD_0; obtain rfl : adE = adD := (by injection eD); have hneD_3 := (show (⟨(adE.add ((tF).toNat * 4)).block, (adE.add ((tF).toNat * 4)).off + 3, none⟩ : Addr).block ≠ g from by first | (rw [add_block]; exact Kd.foot_ne HR1.out (by omega) (by decide)) | (show (Addr.add _ _).block ≠ _; rw [add_block]; exact Kd.foot_ne HR1.out (by omega) (by decide)) | exact Kd.foot_ne HR1.out (by omega) (by decide) | (dsimp only; exact Kd.foot_ne HR1.out (by omega) (by decide))); have hltD_3 := (Kd.foot_lt HR1.out (by omega) (by decide)); have hneD_2 := (show (⟨(adE.add ((tF).toNat * 4)).block, (adE.add ((tF).toNat * 4)).off + 2, none⟩ : Addr).block ≠ g from by first | (rw [add_block]; exact Kd.foot_ne HR1.out (by omega) (by decide)) | (show (Addr.add _ _).block ≠ _; rw [add_block]; exact Kd.foot_ne HR1.out (by omega) (by decide)) | exact Kd.foot_ne HR1.out (by omega) (by decide) | (dsimp only; exact Kd.foot_ne HR1.out (by omega) (by decide))); have hltD_2 := (Kd.foot_lt HR1.out (by omega) (by decide)); have hneD_1 := (show (⟨(adE.add ((tF).toNat * 4)).block, (adE.add ((tF).toNat * 4)).off + 1, none⟩ : Addr).block ≠ g from by first | (rw [add_block]; exact Kd.foot_ne HR1.out (by omega) (by decide)) | (show (Addr.add _ _).block ≠ _; rw [add_block]; exact Kd.foot_ne HR1.out (by omega) (by decide)) | exact Kd.foot_ne HR1.out (by omega) (by decide) | (dsimp only; exact Kd.foot_ne HR1.out (by omega) (by decide))); have hltD_1 := (Kd.foot_lt HR1.out (by omega) (by decide)); have hneD_0 := (show ((adE.add ((tF).toNat * 4)) : Addr).block ≠ g from by first | (rw [add_block]; exact Kd.foot_ne HR1.out (by omega) (by decide)) | (show (Addr.add _ _).block ≠ _; rw [add_block]; exact Kd.foot_ne HR1.out (by omega) (by decide)) | exact Kd.foot_ne HR1.out (by omega) (by decide) | (dsimp only; exact Kd.foot_ne HR1.out (by omega) (by decide))); have hltD_0 := (Kd.foot_lt HR1.out (by omega) (by decide)); replace pD := eq_true pD; replace qD := eq_true qD; have pC : 0 ≤ ((ji7) : Int) := of_decide_eq_true zz245; have qC : (ji7) < (l1.length : Int) := of_decide_eq_true zz245; obtain ⟨adC, eC, hxC_0, hxC_1, hxC_2, hxC_3⟩ := at_T57 (Kd.C_foot_now HR1.out HK.out) (ji7) pC qC; have hwC_3 := hxC_3; have hwC_2 := hxC_2; have hwC_1 := hxC_1; have hwC_0 := hxC_0; obtain rfl : adE = adC := (by injection eC); have hneC_3 := (show (⟨(adE.add (((ji7)).toNat * 4)).block, (adE.add (((ji7)).toNat * 4)).off + 3, none⟩ : Addr).block ≠ g from by first | (rw [add_block]; exact Kd.foot_ne HR1.out (by omega) (by decide)) | (show (Addr.add _ _).block ≠ _; rw [add_block]; exact Kd.foot_ne HR1.out (by omega) (by decide)) | exact Kd.foot_ne HR1.out (by omega) (by decide) | (dsimp only; exact Kd.foot_ne HR1.out (by omega) (by decide))); have hltC_3 := (Kd.foot_lt HR1.out (by omega) (by decide)); have hneC_2 := (show (⟨(adE.add (((ji7)).toNat * 4)).block, (adE.add (((ji7)).toNat * 4)).off + 2, none⟩ : Addr).block ≠ g from by first | (rw [add_block]; exact Kd.foot_ne HR1.out (by omega) (by decide)) | (show (Addr.add _ _).block ≠ _; rw [add_block]; exact Kd.foot_ne HR1.out (by omega) (by decide)) | exact Kd.foot_ne HR1.out (by omega) (by decide) | (dsimp only; exact Kd.foot_ne HR1.out (by omega) (by decide))); have hltC_2 := (Kd.foot_lt HR1.out (by omega) (by decide)); have hneC_1 := (show (⟨(adE.add (((ji7)).toNat * 4)).block, (adE.add (((ji7)).toNat * 4)).off + 1, none⟩ : Addr).block ≠ g from by first | (rw [add_block]; exact Kd.foot_ne HR1.out (by omega) (by decide)) | (show (Addr.add _ _).block ≠ _; rw [add_block]; exact Kd.foot_ne HR1.out (by omega) (by decide)) | exact Kd.foot_ne HR1.out (by omega) (by decide) | (dsimp only; exact Kd.foot_ne HR1.out (by omega) (by decide))); have hltC_1 := (Kd.foot_lt HR1.out (by omega) (by decide)); have hneC_0 := (show ((adE.add (((ji7)).toNat * 4)) : Addr).block ≠ g from by first | (rw [add_block]; exact Kd.foot_ne HR1.out (by omega) (by decide)) | (show (Addr.add _ _).block ≠ _; rw [add_block]; exact Kd.foot_ne HR1.out (by omega) (by decide)) | exact Kd.foot_ne HR1.out (by omega) (by decide) | (dsimp only; exact Kd.foot_ne HR1.out (by omega) (by decide))); have hltC_0 := (Kd.foot_lt HR1.out (by omega) (by decide)); replace pC := eq_true pC; replace qC := eq_true qC; refine start_ (n := 19) (S := fun w' => w'.cell? ⟨gbB, 0, none⟩ = some (.int .i64 a2_0) ∧ w'.cell? ⟨gbB, 1, none⟩ = some (.int .i64 a2_1) ∧ w'.cell? (adE.add ((tF).toNat * 4)) = some (.int .i64 ((rd_T57 l1 tF).f0.f0)) ∧ w'.cell? ⟨(adE.add ((tF).toNat * 4)).block, (adE.add ((tF).toNat * 4)).off + 1, none⟩ = some (.int .i64 ((rd_T57 l1 tF).f0.f1)) ∧ w'.cell? ⟨(adE.add ((tF).toNat * 4)).block, (adE.add ((tF).toNat * 4)).off + 2, none⟩ = some (.int .i64 ((rd_T57 l1 tF).f1.f0)) ∧ w'.cell? ⟨(adE.add ((tF).toNat * 4)).block, (adE.add ((tF).toNat * 4)).off + 3, none⟩ = some (.int .i64 ((rd_T57 l1 tF).f1.f1)) ∧ w'.cell? (adE.add ((tF).toNat * 4)) = some (.int .i64 ((rd_T57 l1 tF).f0.f0)) ∧ w'.cell? ⟨(adE.add ((tF).toNat * 4)).block, (adE.add ((tF).toNat * 4)).off + 1, none⟩ = some (.int .i64 ((rd_T57 l1 tF).f0.f1)) ∧ w'.cell? ⟨(adE.add ((tF).toNat * 4)).block, (adE.add ((tF).toNat * 4)).off + 2, none⟩ = some (.int .i64 ((rd_T57 l1 tF).f1.f0)) ∧ w'.cell? ⟨(adE.add ((tF).toNat * 4)).block, (adE.add ((tF).toNat * 4)).off + 3, none⟩ = some (.int .i64 ((rd_T57 l1 tF).f1.f1)) ∧ w'.cell? (adE.add (((ji7)).toNat * 4)) = some (.int .i64 ((rd_T57 l1 (ji7)).f0.f0)) ∧ w'.cell? ⟨(adE.add (((ji7)).toNat * 4)).block, (adE.add (((ji7)).toNat * 4)).off + 1, none⟩ = some (.int .i64 ((rd_T57 l1 (ji7)).f0.f1)) ∧ w'.cell? ⟨(adE.add (((ji7)).toNat * 4)).block, (adE.add (((ji7)).toNat * 4)).off + 2, none⟩ = some (.int .i64 ((rd_T57 l1 (ji7)).f1.f0)) ∧ w'.cell? ⟨(adE.add (((ji7)).toNat * 4)).block, (adE.add (((ji7)).toNat * 4)).off + 3, none⟩ = some (.int .i64 ((rd_T57 l1 (ji7)).f1.f1))) (ds := []) (.replicate 19 fF) (by kernel_rfl) rfl rfl ⟨bcA BKB 0, bcA BKB 1, hxE_0, hxE_1, hxE_2, hxE_3, hxD_0, hxD_1, hxD_2, hxD_3, hxC_0, hxC_1, hxC_2, hxC_3⟩ (fun hHeld => ?_); refine with_tabW impl_calc_value.tab2 impl_calc_value.bits2 (fun HT_ HW_ => ?_); generalize w17.drew = w18 at BKB BKA HI0 HK HB hxE_0 hxE_1 hxE_2 hxE_3 hxD_0 hxD_1 hxD_2 hxD_3 hxC_0 hxC_1 hxC_2 hxC_3 hHeld ⊢; refine pureA 0 (some 11) (bB 19 1) HT_ ?_; refine pureA 1 (some 12) (bB 19 3) HT_ ?_; refine pureA 2 (some 13) (bB 19 7) HT_ ?_; refine pureA 3 (some 14) (bB 19 15) HT_ ?_; refine pureA 5 (some 16) (bB 19 47) HT_ ?_; refine pureA 6 (some 17) (bB 19 111) HT_ ?_; refine pureA 7 (some 18) (bB 19 239) HT_ ?_; refine pureA 8 (some 19) (bB 19 495) HT_ ?_; refine pureA 10 (some 21) (bB 19 1519) HT_ ?_; refine pureA 11 (some 22) (bB 19 3567) HT_ ?_; refine pureA 12 (some 23) (bB 19 7663) HT_ ?_; refine pureA 13 (some 24) (bB 19 15855) HT_ ?_; refine takeA4 4 (some 15) (bB 19 15871) HT_ HW_ hHeld ?_; refine takeA4 9 (some 20) (bB 19 16383) HT_ HW_ hHeld ?_; refine takeA4 14 (some 25) (bB 19 32767) HT_ HW_ hHeld ?_; refine takeA4 16 (some 27) (bB 19 98303) HT_ HW_ hHeld ?_; refine one_ (i := 15) (N := some 26) (bB 19 131071) rfl rfl (one_of HT_.out (by kernel_rfl)) (by decide) (fun K hK => ?_); refine goes_ Try.func104 (by kernel_rfl) rfl #[.pointer (some ⟨g, 0, none⟩), .agg #[.int .i64 ((rd_T57 l1 tF).f0.f0), .int .i64 ((rd_T57 l1 tF).f0.f1), .int .i64 ((rd_T57 l1 tF).f1.f0), .int .i64 ((rd_T57 l1 tF).f1.f1)], .agg #[.int .i64 ((rd_T57 l1 (ji7)).f0.f0), .int .i64 ((rd_T57 l1 (ji7)).f0.f1), .int .i64 ((rd_T57 l1 (ji7)).f1.f0), .int .i64 ((rd_T57 l1 (ji7)).f1.f1)]] (by rfl) rfl rfl (by (try simp only [List.map_toArray, List.map_cons, List.map_nil]); first | done | (simp only [hji7]; rfl) | rfl | (simp only [List.length_drop, List.length_take]; rfl)) ?_; with_reducible refine (impl_calc_slope.calls k g s0_0 ((rd_T57 l1 tF).f0.f0) ((rd_T57 l1 tF).f0.f1) ((rd_T57 l1 tF).f1.f0) ((rd_T57 l1 tF).f1.f1) ((rd_T57 l1 (ji7)).f0.f0) ((rd_T57 l1 (ji7)).f0.f1) ((rd_T57 l1 (ji7)).f1.f0) ((rd_T57 l1 (ji7)).f1.f1) tG tI tJ w0 _ ?side1 ?side2 A10.out).mono ?_
     (case side1 => repeat (first | (with_reducible first | exact HI0.out | apply IsS70.alloc | apply IsS70.drewN | apply IsS70.drew | apply IsS70.set_0 | apply IsS70.far (hne := NB0_450.out) | apply IsS70.far (hne := NB0_451.out)) | exact HI0.out)); (case side2 => repeat (first | (with_reducible first | exact HB.out | apply below_alloc | apply pw_below_drewN | apply below_drew1 | refine below_set ?_ (IsS70.ge HI0.out) | refine below_set ?_ GEB.out | refine below_set ?_ GEA.out) | exact HB.out)); rintro e w19 ⟨rfl, hi, hb, hk⟩; have HS2_ := keep_cell hk (hHeld.2.2.1) zz172; have HS3_ := keep_cell hk (hHeld.2.2.2.1) zz173; have HS4_ := keep_cell hk (hHeld.2.2.2.2.1) zz174; have HS5_ := keep_cell hk (hHeld.2.2.2.2.2.1) zz175; have HS6_ := keep_cell hk (hHeld.2.2.2.2.2.2.1) zz176; have HS7_ := keep_cell hk (hHeld.2.2.2.2.2.2.2.1) zz177; have HS8_ := keep_cell hk (hHeld.2.2.2.2.2.2.2.2.1) zz178; have HS9_ := keep_cell hk (hHeld.2.2.2.2.2.2.2.2.2.1) zz179; have HS10_ := keep_cell hk (hHeld.2.2.2.2.2.2.2.2.2.2.1) zz180; have HS11_ := keep_cell hk (hHeld.2.2.2.2.2.2.2.2.2.2.2.1) zz181; have HS12_ := keep_cell hk (hHeld.2.2.2.2.2.2.2.2.2.2.2.2.1) zz182; have HS13_ := keep_cell hk (hHeld.2.2.2.2.2.2.2.2.2.2.2.2.2) zz183; refine ⟨_, rfl, ?_⟩; replace BKB := Aside0.mk (KeepBut.blk hk (g' := gbB) (o := .cells #[.int .i64 a2_0, .int .i64 a2_1] 27 (0, 0)) zz214 NBB_0.out (by simp)); replace BKA := Aside0.mk (KeepBut.blk hk (g' := gbA) (o := .cells #[.int .i64 0, .int .i64 0] 27 (0, 0)) zz215 NBA_0.out (by simp)); replace HK := Aside0.mk (KeepBut.trans zz77 hk (.inl rfl)); replace HI0 := Aside0.mk (hi); replace HB := Aside0.mk (hb); refine hK.out _ _ ⟨bcA BKB 0, bcA BKB 1, HS2_, HS3_, HS4_, HS5_, HS6_, HS7_, HS8_, HS9_, HS10_, HS11_, HS12_, HS13_⟩ (fun hHeld => ?_); clear hK K; refine normA (some 26) ?_; refine one_ (i := 17) (N := some 28) (bB 19 262143) rfl rfl (one_of HT_.out (by kernel_rfl)) (by decide) (fun K hK => ?_); refine goes_ Try.func119 (by kernel_rfl) rfl #[.pointer (some ⟨g, 0, none⟩), .agg #[.int .i64 ((rd_T57 l1 tF).f0.f0), .int .i64 ((rd_T57 l1 tF).f0.f1), .int .i64 ((rd_T57 l1 tF).f1.f0), .int .i64 ((rd_T57 l1 tF).f1.f1)], .agg #[.int .i64 tG, .int .i64 tI], .agg #[.int .i64 a2_0, .int .i64 a2_1]] (by rfl) rfl rfl zz170 ?_; with_reducible refine (impl_calc_line.calls k g tJ ((rd_T57 l1 tF).f0.f0) ((rd_T57 l1 tF).f0.f1) ((rd_T57 l1 tF).f1.f0) ((rd_T57 l1 tF).f1.f1) tG tI a2_0 a2_1 tH tL tM w0 _ ?side1 ?side2 A11.out).mono ?_
     (case side1 => repeat (first | (with_reducible first | exact HI0.out | apply IsS70.alloc | apply IsS70.drewN | apply IsS70.drew | apply IsS70.set_0 | apply IsS70.far (hne := NB0_450.out) | apply IsS70.far (hne := NB0_451.out)) | exact HI0.out)); (case side2 => repeat (first | (with_reducible first | exact HB.out | apply below_alloc | apply pw_below_drewN | apply below_drew1 | refine below_set ?_ (IsS70.ge HI0.out) | refine below_set ?_ GEB.out | refine below_set ?_ GEA.out) | exact HB.out)); rintro e w20 ⟨rfl, hi, hb, hk⟩; have HS2_ := keep_cell hk (hHeld.2.2.1) zz172; have HS3_ := keep_cell hk (hHeld.2.2.2.1) zz173; have HS4_ := keep_cell hk (hHeld.2.2.2.2.1) zz174; have HS5_ := keep_cell hk (hHeld.2.2.2.2.2.1) zz175; have HS6_ := keep_cell hk (hHeld.2.2.2.2.2.2.1) zz176; have HS7_ := keep_cell hk (hHeld.2.2.2.2.2.2.2.1) zz177; have HS8_ := keep_cell hk (hHeld.2.2.2.2.2.2.2.2.1) zz178; have HS9_ := keep_cell hk (hHeld.2.2.2.2.2.2.2.2.2.1) zz179; have HS10_ := keep_cell hk (hHeld.2.2.2.2.2.2.2.2.2.2.1) zz180; have HS11_ := keep_cell hk (hHeld.2.2.2.2.2.2.2.2.2.2.2.1) zz181; have HS12_ := keep_cell hk (hHeld.2.2.2.2.2.2.2.2.2.2.2.2.1) zz182; have HS13_ := keep_cell hk (hHeld.2.2.2.2.2.2.2.2.2.2.2.2.2) zz183; refine ⟨_, rfl, ?_⟩; replace BKB := Aside0.mk (KeepBut.blk hk (g' := gbB) (o := .cells #[.int .i64 a2_0, .int .i64 a2_1] 27 (0, 0)) zz214 NBB_0.out (by simp)); replace BKA := Aside0.mk (KeepBut.blk hk (g' := gbA) (o := .cells #[.int .i64 0, .int .i64 0] 27 (0, 0)) zz215 NBA_0.out (by simp)); replace HK := Aside0.mk (KeepBut.trans zz77 hk (.inl rfl)); replace HI0 := Aside0.mk (hi); replace HB := Aside0.mk (hb); refine hK.out _ _ ⟨bcA BKB 0, bcA BKB 1, HS2_, HS3_, HS4_, HS5_, HS6_, HS7_, HS8_, HS9_, HS10_, HS11_, HS12_, HS13_⟩ (fun hHeld => ?_); clear hK K; refine normA (some 28) ?_; refine one_ (i := 18) (N := none) (bB 19 524287) rfl rfl (one_of HT_.out (by kernel_rfl)) (by decide) (fun K hK => ?_); have hs21 : w20.cell? ⟨gbA, 0, none⟩ = some (.int .i64 0) := bcA BKA 0; have hfs21 := blk_frozen BKA.out 0; have hns21_0 := NBB_A.out; have hms21_0 := NBA_B.out; have hs22 : w20.cell? ⟨gbA, 1, none⟩ = some (.int .i64 0) := bcA BKA 1; have hfs22 := blk_frozen BKA.out 1; have hns22_0 := NBB_A.out; have hms22_0 := NBA_B.out; refine skip_ (w1 := ?_) (by rfl) rfl ?_ ?_; rotate_left
     ·go_simp
      rfl
     refine hK.out _ _ ⟨((cell_far (p := ⟨gbA, _, none⟩) NBB_A.out _).trans (((cell_far (p := ⟨gbA, _, none⟩) NBB_A.out _).trans (hHeld.1)))), ((cell_far (p := ⟨gbA, _, none⟩) NBB_A.out _).trans (((cell_far (p := ⟨gbA, _, none⟩) NBB_A.out _).trans (hHeld.2.1)))), ((cell_far (p := ⟨gbA, _, none⟩) zz28 _).trans (((cell_far (p := ⟨gbA, _, none⟩) zz28 _).trans (hHeld.2.2.1)))), ((cell_far (p := ⟨gbA, _, none⟩) zz29 _).trans (((cell_far (p := ⟨gbA, _, none⟩) zz29 _).trans (hHeld.2.2.2.1)))), ((cell_far (p := ⟨gbA, _, none⟩) zz30 _).trans (((cell_far (p := ⟨gbA, _, none⟩) zz30 _).trans (hHeld.2.2.2.2.1)))), ((cell_far (p := ⟨gbA, _, none⟩) zz31 _).trans (((cell_far (p := ⟨gbA, _, none⟩) zz31 _).trans (hHeld.2.2.2.2.2.1)))), ((cell_far (p := ⟨gbA, _, none⟩) zz32 _).trans (((cell_far (p := ⟨gbA, _, none⟩) zz32 _).trans (hHeld.2.2.2.2.2.2.1)))), ((cell_far (p := ⟨gbA, _, none⟩) zz33 _).trans (((cell_far (p := ⟨gbA, _, none⟩) zz33 _).trans (hHeld.2.2.2.2.2.2.2.1)))), ((cell_far (p := ⟨gbA, _, none⟩) zz34 _).trans (((cell_far (p := ⟨gbA, _, none⟩) zz34 _).trans (hHeld.2.2.2.2.2.2.2.2.1)))), ((cell_far (p := ⟨gbA, _, none⟩) zz35 _).trans (((cell_far (p := ⟨gbA, _, none⟩) zz35 _).trans (hHeld.2.2.2.2.2.2.2.2.2.1)))), ((cell_far (p := ⟨gbA, _, none⟩) zz36 _).trans (((cell_far (p := ⟨gbA, _, none⟩) zz36 _).trans (hHeld.2.2.2.2.2.2.2.2.2.2.1)))), ((cell_far (p := ⟨gbA, _, none⟩) zz37 _).trans (((cell_far (p := ⟨gbA, _, none⟩) zz37 _).trans (hHeld.2.2.2.2.2.2.2.2.2.2.2.1)))), ((cell_far (p := ⟨gbA, _, none⟩) zz38 _).trans (((cell_far (p := ⟨gbA, _, none⟩) zz38 _).trans (hHeld.2.2.2.2.2.2.2.2.2.2.2.2.1)))), ((cell_far (p := ⟨gbA, _, none⟩) zz39 _).trans (((cell_far (p := ⟨gbA, _, none⟩) zz39 _).trans (hHeld.2.2.2.2.2.2.2.2.2.2.2.2.2))))⟩ (fun hHeld => ?_); clear hK K; refine done_ (done_of HT_.out (by kernel_rfl)) ?_; try go_wp2
     refine bodyPost_ret (results_cell_row rfl _ _ gbA 27 #[.int .i64 tH, .int .i64 tL] (0, 0) _ rfl (by (with_reducible repeat (first | refine blk_drewN ?_ _ | refine blk_drew ?_ | refine blk_alloc ?_ _)); refine blk_put (cs := #[.int .i64 tH, .int .i64 0]) ?_ 1 _ rfl; (with_reducible repeat (first | refine blk_drewN ?_ _ | refine blk_drew ?_ | refine blk_alloc ?_ _)); refine blk_put (cs := #[.int .i64 0, .int .i64 0]) ?_ 0 _ rfl; (with_reducible repeat (first | refine blk_drewN ?_ _ | refine blk_drew ?_ | refine blk_alloc ?_ _)); exact BKA.out) Try.underlying27 rfl (by kernel_rfl)) rfl ?_; exact ⟨by first | rfl | (simp [errW_none, errW_some] <;> rfl) | (simp only [← hji7]; first | rfl | (simp [errW_none, errW_some] <;> rfl)) | (simp [*, errW_none, errW_some] <;> rfl), by repeat (first | (with_reducible first | exact HI0.out | apply IsS70.alloc | apply IsS70.drewN | apply IsS70.drew | apply IsS70.set_0 | apply IsS70.far (hne := NB0_450.out) | apply IsS70.far (hne := NB0_451.out)) | exact HI0.out), by repeat (first | (with_reducible first | exact HB.out | apply below_alloc | apply pw_below_drewN | apply below_drew1 | refine below_set ?_ (IsS70.ge HI0.out) | refine below_set ?_ GEB.out | refine below_set ?_ GEA.out) | exact HB.out), by repeat (first | (with_reducible first | exact HK.out | apply KeepBut.set_ | apply keep_drewN | apply keep_drew | apply keep_alloc | refine keep_far ?_ GWB.out _ | refine keep_far ?_ GWA.out _) | exact HK.out)⟩
    ·rw [if_neg c9] at H; exact absurd H (by simp)
   ·rw [if_neg c8] at H; exact absurd H (by simp)
  ·rw [if_neg c6] at H; exact absurd H (by simp)
 ·rw [if_neg c5] at H; exact absurd H (by simp)
end Go.Proofs.Ytlggehdfigkliaa.Q
namespace Go.Proofs.Ytlggehdfigkliaa.Q
open Go.RowKit Go.Proofs.YtlggehdfigkliaaW.PrintWords Go.Proofs.YtlggehdfigkliaaW.PrintLast Go.Proofs.YtlggehdfigkliaaW.PrintMore
attribute [local go_sem] max2_int min2_int max_two min_two max_three min_three max_four min_four   -- for this text's walks alone
set_option linter.unusedVariables false
set_option linter.unusedSimpArgs false
def impl_calc_jumps.l0 : Nat → List (S57) → List (S27) → List (S27) → Int → Bool → Option ((List (S27)) × Bool)
 | 0, _, _, _, _, _ => none
 | k + 1, x1, x2, x7, x8, xA => if x8 < (x2.length : Int) then (if 0 ≤ (wrap64 (x8 - 1)) then (if (wrap64 (x8 - 1)) < (x2.length : Int) then ((impl_calc_value.f k xA x1 ((rd_T27 x2 (wrap64 (x8 - 1))).f0) ((rd_T27 x2 (wrap64 (x8 - 1))).f1)).bind fun btB => (if 0 ≤ x8 then ((impl_calc_distance.f k btB.2.2 btB.1 btB.2.1 ((rd_T27 x2 x8).f0) ((rd_T27 x2 x8).f1)).bind fun btC => (if x7.length < 8796093022208 then (impl_calc_jumps.l0 k x1 x2 (x7 ++ [(⟨btC.1, btC.2.1⟩ : S27)]) (wrap64 (x8 + 1)) btC.2.2) else (none))) else (none))) else (none)) else (none)) else (some (x7, xA))
def impl_calc_jumps.f (k : Nat) (s0_0 : Bool) (l1 : List (S57)) (l2 : List (S27)) : Option ((List (S27)) × Bool) := impl_calc_jumps.l0 k l1 l2 ([] : List (S27)) 1 s0_0
def impl_calc_jumps.T5 : Bool × List (List Nat × List Nat) := (true, [([], []), ([], []), ([], []), ([], []), ([], []), ([], []), ([5], [5]), ([4, 6], [4, 6]), ([7], [7]), ([2, 3, 8], [2, 3, 8]), ([], []), ([], []), ([10, 11], [10, 11]), ([12], [12]), ([1, 9, 13, 9], [1, 9, 13]), ([14], [14]), ([0, 15, 14], [0, 15]), ([16, 16, 0, 1, 2, 3, 4, 5, 6, 7, 8, 9, 10, 11, 12, 13, 14, 15, 16], [0, 16])])
def impl_calc_jumps.B5 : List Nat := [0, 0, 0, 0, 0, 0, 32, 112, 240, 508, 0, 0, 3072, 7168, 16382, 32766, 65535, 131071]
theorem impl_calc_jumps.tab5 : rtab .any (opsOf Try.f65 5) = impl_calc_jumps.T5 := by kernel_rfl
theorem impl_calc_jumps.bits5 : waitsOk impl_calc_jumps.T5.2 impl_calc_jumps.B5 = true := by kernel_rfl
theorem zz232 {p : Prop} (h : p := by (with_reducible repeat (first | apply Kd.R_alloc | apply Kd.R_drewN | apply Kd.R_drew)); exact HO_7.out) : p := h
theorem zz187 {p : Prop} (h : p := by first | (rw [add_block]; exact hneA_1) | (show (Addr.add _ _).block ≠ _; rw [add_block]; exact hneA_1) | exact hneA_1) : p := h
theorem zz186 {p : Prop} (h : p := by first | (rw [add_block]; exact hneA_0) | (show (Addr.add _ _).block ≠ _; rw [add_block]; exact hneA_0) | exact hneA_0) : p := h
theorem zz185 {p : Prop} (h : p := by first | (rw [add_block]; exact hneB_1) | (show (Addr.add _ _).block ≠ _; rw [add_block]; exact hneB_1) | exact hneB_1) : p := h
theorem zz184 {p : Prop} (h : p := by first | (rw [add_block]; exact hneB_0) | (show (Addr.add _ _).block ≠ _; rw [add_block]; exact hneB_0) | exact hneB_0) : p := h
set_option maxHeartbeats 8000000 in
set_option maxRecDepth 100000 in
theorem impl_calc_jumps.calls (k : Nat) (g : Nat) (s0_0 : Bool) (A1 : Option Addr) (c1 : Nat) (l1 : List (S57)) (A2 : Option Addr) (c2 : Nat) (l2 : List (S27)) (r1 : List (S27)) (r2 : Bool) (w0 w : World) (hI : IsS70 w0 w g s0_0) (hB : Below w0.heap.size w0 w) (hr1 : ∀ W_, KeepBut w W_ g none → Kd.C k57 W_ A1 l1.length l1) (hc1 : l1.length ≤ c1) (hr2 : ∀ W_, KeepBut w W_ g none → Kd.C k27 W_ A2 l2.length l2) (hc2 : l2.length ≤ c2) (h : impl_calc_jumps.f k s0_0 l1 l2 = some (r1, r2)) :
  Calls Try.prog 65 #[.pointer (some ⟨g, 0, none⟩), .slice A1 l1.length c1, .slice A2 l2.length c2] w fun e w' => ∃ v0_ : Value, e = .returned (v0_) ∧ Kd.R k27 27 w' w.heap.size (fun _ => True) v0_ r1 ∧ IsS70 w0 w' g r2 ∧ Below w0.heap.size w0 w' ∧ KeepBut w w' g none := by
 have hu27 := Try.underlying27; have HR1 := Aside0.mk hr1; have HC1 := Aside0.mk hc1; clear hr1 hc1; have HR2 := Aside0.mk hr2; have HC2 := Aside0.mk hc2; clear hr2 hc2; have HI0 := Aside0.mk hI; have HK := Aside0.mk (KeepBut.refl w g none); have HL := Aside0.mk hB.size; clear hI; have HW0 := Aside0.mk hB.size; have HB := Aside0.mk hB; clear hB; have H : (impl_calc_jumps.l0 k l1 l2 ([] : List (S27)) 1 s0_0) = some (r1, r2) := h; clear h; have H' := Aside0.mk H; clear H; go_enter Try.func65, Try.ntmps65
 go_wp2
 go_loopg [7, 8] k (fun kq v7 v8 w' => ∃ (x7_1 : List (S27)) (x8_1 : Int) (xC_1 : Bool), v8 = .int .i64 x8_1 ∧ Aside0 (impl_calc_jumps.l0 kq l1 l2 x7_1 x8_1 xC_1 = some (r1, r2)) ∧ Aside0 (kq ≤ k) ∧ Aside0 (Kd.R k27 27 w' w.heap.size (fun _ => True) v7 x7_1) ∧ Aside0 (IsS70 w0 w' g xC_1) ∧ Aside0 (KeepBut w w' g none) ∧ Aside0 (Below w0.heap.size w0 w'))
 case atStart => exact ⟨(([] : List (S27))), (1), (s0_0), zz246, H', ⟨Nat.le_refl _⟩, ⟨by first | exact Kd.R_nil _ _ _ _ _ | exact Kd.N_nil _ _ _ _ _ | exact Kd.V_nil _ _ _ _ _ | exact Kd.Q_nil _ _ _ _ _ | exact Kd.S_nil _ _ _ _ _⟩, ⟨by repeat (first | (with_reducible first | exact HI0.out | apply IsS70.alloc | apply IsS70.drewN | apply IsS70.drew | apply IsS70.set_0) | exact HI0.out)⟩, ⟨by repeat (first | (with_reducible first | exact HK.out | apply KeepBut.set_ | apply keep_drewN | apply keep_drew | apply keep_alloc) | exact HK.out)⟩, ⟨by repeat (first | (with_reducible first | exact HB.out | apply below_alloc | apply pw_below_drewN | apply below_drew1 | refine below_set ?_ (IsS70.ge HI0.out)) | exact HB.out)⟩⟩
 case round =>
  clear H'; try clear c1
  try clear c2
  try clear p2
  obtain ⟨x7_1, x8_1, xC_1, rfl, HA, HK1, HO_7, HI0, HK, HB⟩ := hrel; cases gk with
  | zero => exact absurd HA.out (by simp [impl_calc_jumps.l0])
  | succ k1 =>
   have H := HA.out; clear HA; simp only [impl_calc_jumps.l0] at H; by_cases c4 : x8_1 < (l2.length : Int)
   ·rw [if_pos c4] at H; have c4b0 : decide (x8_1 < (l2.length : Int)) = true := decide_eq_true c4; clear c4; obtain ⟨ji5, hji5⟩ : ∃ j_ : Int, (wrap64 (x8_1 - 1)) = j_ := ⟨_, rfl⟩; replace H : (if 0 ≤ (ji5) then (if (ji5) < (l2.length : Int) then ((impl_calc_value.f k1 xC_1 l1 ((rd_T27 l2 (ji5)).f0) ((rd_T27 l2 (ji5)).f1)).bind fun btD => (if 0 ≤ x8_1 then ((impl_calc_distance.f k1 btD.2.2 btD.1 btD.2.1 ((rd_T27 l2 x8_1).f0) ((rd_T27 l2 x8_1).f1)).bind fun btE => (if x7_1.length < 8796093022208 then (impl_calc_jumps.l0 k1 l1 l2 (x7_1 ++ [(⟨btE.1, btE.2.1⟩ : S27)]) (wrap64 (x8_1 + 1)) btE.2.2) else (none))) else (none))) else (none)) else (none)) = some (r1, r2) := by first | (rw [hji5] at H; exact H) | (simp only [hji5] at H ⊢; exact H)
    have hji5w : (IntKind.i64.wrap (x8_1 - 1)) = ji5 := (i64_w _).trans hji5; by_cases c6 : 0 ≤ (ji5)
    ·rw [if_pos c6] at H; have c6b0 : decide (0 ≤ (ji5)) = true := decide_eq_true c6; clear c6; by_cases c7 : (ji5) < (l2.length : Int)
     ·rw [if_pos c7] at H; have c7b0 : decide ((ji5) < (l2.length : Int)) = true := decide_eq_true c7; clear c7; replace H := Option.bind_eq_some_iff.mp H; obtain ⟨⟨tD, tF, tG⟩, A80, H⟩ := H; replace H : (if 0 ≤ x8_1 then ((impl_calc_distance.f k1 tG tD tF ((rd_T27 l2 x8_1).f0) ((rd_T27 l2 x8_1).f1)).bind fun btE => (if x7_1.length < 8796093022208 then (impl_calc_jumps.l0 k1 l1 l2 (x7_1 ++ [(⟨btE.1, btE.2.1⟩ : S27)]) (wrap64 (x8_1 + 1)) btE.2.2) else (none))) else (none)) = some (r1, r2) := H; have A8 := Aside0.mk A80; clear A80; by_cases c9 : 0 ≤ x8_1
      ·rw [if_pos c9] at H; have c9b0 : decide (0 ≤ x8_1) = true := decide_eq_true c9; clear c9; replace H := Option.bind_eq_some_iff.mp H; obtain ⟨⟨tE, tH, tI⟩, AJ, H⟩ := H; replace H : (if x7_1.length < 8796093022208 then (impl_calc_jumps.l0 k1 l1 l2 (x7_1 ++ [(⟨tE, tH⟩ : S27)]) (wrap64 (x8_1 + 1)) tI) else (none)) = some (r1, r2) := H; have A10 := Aside0.mk AJ; clear AJ; by_cases c11 : x7_1.length < 8796093022208
       ·rw [if_pos c11] at H; have LMc11 := Aside0.mk c11; clear c11; obtain ⟨yK, hyK⟩ : ∃ y_ : List (S27), y_ = (x7_1 ++ [(⟨tE, tH⟩ : S27)]) := ⟨_, rfl⟩; replace H : (impl_calc_jumps.l0 k1 l1 l2 yK (wrap64 (x8_1 + 1)) tI) = some (r1, r2) := by first | (rw [hyK]; with_reducible exact H) | (have H2_ := (Option.bind_some _ _).symm.trans H; rw [hyK]; with_reducible exact H2_) | (have H2_ := (Option.bind_some _ _).symm.trans H; with_reducible exact H2_) | with_reducible exact H | (rw [hyK]; exact H) | exact H
        have NyK := Aside0.mk hyK; clear hyK; have H' := Aside0.mk H; clear H; try go_wp2
        replace HO_7 := Aside0.mk (Kd.R_drew HO_7.out); replace HI0 := Aside0.mk (IsS70.drew HI0.out); replace HK := Aside0.mk (keep_drew HK.out); replace HB := Aside0.mk (below_drew1 HB.out); have pB : 0 ≤ ((ji5) : Int) := of_decide_eq_true zz245; have qB : (ji5) < (l2.length : Int) := of_decide_eq_true zz245; obtain ⟨adB, eB, hxB_0, hxB_1⟩ := at_T27 (Kd.C_foot_now HR2.out HK.out) (ji5) pB qB; have hwB_1 := hxB_1; have hwB_0 := hxB_0; cases eB
        have hneB_1 := (show (⟨(adB.add (((ji5)).toNat * 2)).block, (adB.add (((ji5)).toNat * 2)).off + 1, none⟩ : Addr).block ≠ g from by first | (rw [add_block]; exact Kd.foot_ne HR2.out (by omega) (by decide)) | (show (Addr.add _ _).block ≠ _; rw [add_block]; exact Kd.foot_ne HR2.out (by omega) (by decide)) | exact Kd.foot_ne HR2.out (by omega) (by decide) | (dsimp only; exact Kd.foot_ne HR2.out (by omega) (by decide))); have hltB_1 := (Kd.foot_lt HR2.out (by omega) (by decide)); have hneB_0 := (show ((adB.add (((ji5)).toNat * 2)) : Addr).block ≠ g from by first | (rw [add_block]; exact Kd.foot_ne HR2.out (by omega) (by decide)) | (show (Addr.add _ _).block ≠ _; rw [add_block]; exact Kd.foot_ne HR2.out (by omega) (by decide)) | exact Kd.foot_ne HR2.out (by omega) (by decide) | (dsimp only; exact Kd.foot_ne HR2.out (by omega) (by decide))); have hltB_0 := (Kd.foot_lt HR2.out (by omega) (by decide)); replace pB := eq_true pB; replace qB := eq_true qB; have pA : 0 ≤ (x8_1 : Int) := of_decide_eq_true zz245; have qA : x8_1 < (l2.length : Int) := of_decide_eq_true zz245; obtain ⟨adA, eA, hxA_0, hxA_1⟩ := at_T27 (Kd.C_foot_now HR2.out HK.out) x8_1 pA qA; have hwA_1 := hxA_1; have hwA_0 := hxA_0; obtain rfl : adB = adA := (by injection eA); have hneA_1 := (show (⟨(adB.add ((x8_1).toNat * 2)).block, (adB.add ((x8_1).toNat * 2)).off + 1, none⟩ : Addr).block ≠ g from by first | (rw [add_block]; exact Kd.foot_ne HR2.out (by omega) (by decide)) | (show (Addr.add _ _).block ≠ _; rw [add_block]; exact Kd.foot_ne HR2.out (by omega) (by decide)) | exact Kd.foot_ne HR2.out (by omega) (by decide) | (dsimp only; exact Kd.foot_ne HR2.out (by omega) (by decide))); have hltA_1 := (Kd.foot_lt HR2.out (by omega) (by decide)); have hneA_0 := (show ((adB.add ((x8_1).toNat * 2)) : Addr).block ≠ g from by first | (rw [add_block]; exact Kd.foot_ne HR2.out (by omega) (by decide)) | (show (Addr.add _ _).block ≠ _; rw [add_block]; exact Kd.foot_ne HR2.out (by omega) (by decide)) | exact Kd.foot_ne HR2.out (by omega) (by decide) | (dsimp only; exact Kd.foot_ne HR2.out (by omega) (by decide))); have hltA_0 := (Kd.foot_lt HR2.out (by omega) (by decide)); replace pA := eq_true pA; replace qA := eq_true qA; refine start_ (n := 18) (S := fun w' => w'.cell? (adB.add (((ji5)).toNat * 2)) = some (.int .i64 ((rd_T27 l2 (ji5)).f0)) ∧ w'.cell? ⟨(adB.add (((ji5)).toNat * 2)).block, (adB.add (((ji5)).toNat * 2)).off + 1, none⟩ = some (.int .i64 ((rd_T27 l2 (ji5)).f1)) ∧ w'.cell? (adB.add ((x8_1).toNat * 2)) = some (.int .i64 ((rd_T27 l2 x8_1).f0)) ∧ w'.cell? ⟨(adB.add ((x8_1).toNat * 2)).block, (adB.add ((x8_1).toNat * 2)).off + 1, none⟩ = some (.int .i64 ((rd_T27 l2 x8_1).f1))) (ds := [15, 16]) (.replicate 18 fF) (by kernel_rfl) rfl rfl ⟨hxB_0, hxB_1, hxA_0, hxA_1⟩ (fun hHeld => ?_); refine with_tabW impl_calc_jumps.tab5 impl_calc_jumps.bits5 (fun HT_ HW_ => ?_); generalize wr.drew = w12 at HO_7 HI0 HK HB hxB_0 hxB_1 hxA_0 hxA_1 hHeld ⊢; refine pureA 0 (some 15) (bB 18 1) HT_ ?_; refine pureA 1 (some 16) (bB 18 3) HT_ ?_; refine pureA 2 (some 17) (bB 18 7) HT_ ?_; refine pureA 3 (some 18) (bB 18 15) HT_ ?_; refine pureA 4 (some 19) (bB 18 31) HT_ ?_; refine pureA 5 (some 20) (bB 18 63) HT_ ?_; refine pureA 6 (some 21) (bB 18 127) HT_ ?_; refine pureA 7 (some 22) (bB 18 255) HT_ ?_; refine pureA 10 (some 25) (bB 18 1279) HT_ ?_; refine pureA 11 (some 26) (bB 18 3327) HT_ ?_; refine pureA 12 (some 27) (bB 18 7423) HT_ ?_; refine takeA1 8 (some 23) (bB 18 7679) HT_ HW_ hHeld ?_; refine takeA1 13 (some 28) (bB 18 15871) HT_ HW_ hHeld ?_; refine one_ (i := 9) (N := some 24) (bB 18 16383) rfl rfl (one_of HT_.out (by kernel_rfl)) (by decide) (fun K hK => ?_); refine goes_ Try.func99 (by kernel_rfl) rfl #[.pointer (some ⟨g, 0, none⟩), .slice A1 l1.length c1, .agg #[.int .i64 ((rd_T27 l2 (ji5)).f0), .int .i64 ((rd_T27 l2 (ji5)).f1)]] (by rfl) rfl rfl zz121 ?_; with_reducible refine (impl_calc_value.calls k1 g xC_1 _ _ l1 ((rd_T27 l2 (ji5)).f0) ((rd_T27 l2 (ji5)).f1) tD tF tG w0 _ ?side1 ?side2 ?side3 ?side4 A8.out).mono ?_
        (case side1 => repeat (first | (with_reducible first | exact HI0.out | apply IsS70.alloc | apply IsS70.drewN | apply IsS70.drew | apply IsS70.set_0) | exact HI0.out)); (case side2 => repeat (first | (with_reducible first | exact HB.out | apply below_alloc | apply pw_below_drewN | apply below_drew1 | refine below_set ?_ (IsS70.ge HI0.out)) | exact HB.out)); (case side3 => exact Kd.C_foot_step HR1.out zz169); (case side4 => exact HC1.out); rintro e w13 ⟨rfl, hi, hb, hk⟩; have HS0_ := keep_cell hk (hHeld.1) zz184; have HS1_ := keep_cell hk (hHeld.2.1) zz185; have HS2_ := keep_cell hk (hHeld.2.2.1) zz186; have HS3_ := keep_cell hk (hHeld.2.2.2) zz187; refine ⟨_, rfl, ?_⟩; replace HO_7 := Aside0.mk (Kd.R_mono (Kd.R_keep (IsS70.apart (show IsS70 w0 _ g xC_1 from by repeat (first | (with_reducible first | exact HI0.out | apply IsS70.alloc | apply IsS70.drewN | apply IsS70.drew | apply IsS70.set_0) | exact HI0.out)) zz232 (by decide)) hk (fun _ h => h.2)) (fun _ h => h.1)); replace HK := Aside0.mk (KeepBut.trans zz169 hk (.inl rfl)); replace HI0 := Aside0.mk (hi); replace HB := Aside0.mk (hb); (try clear hb); (try clear hk); (try clear hi); refine hK.out _ _ ⟨HS0_, HS1_, HS2_, HS3_⟩ (fun hHeld => ?_); clear hK K; refine normA (some 24) ?_; refine one_ (i := 14) (N := some 29) (bB 18 32767) rfl rfl (one_of HT_.out (by kernel_rfl)) (by decide) (fun K hK => ?_); refine goes_ Try.func98 (by kernel_rfl) rfl #[.pointer (some ⟨g, 0, none⟩), .agg #[.int .i64 tD, .int .i64 tF], .agg #[.int .i64 ((rd_T27 l2 x8_1).f0), .int .i64 ((rd_T27 l2 x8_1).f1)]] (by rfl) rfl rfl zz170 ?_; with_reducible refine (impl_calc_distance.calls k1 g tG tD tF ((rd_T27 l2 x8_1).f0) ((rd_T27 l2 x8_1).f1) tE tH tI w0 _ ?side1 ?side2 A10.out).mono ?_
        (case side1 => repeat (first | (with_reducible first | exact HI0.out | apply IsS70.alloc | apply IsS70.drewN | apply IsS70.drew | apply IsS70.set_0) | exact HI0.out)); (case side2 => repeat (first | (with_reducible first | exact HB.out | apply below_alloc | apply pw_below_drewN | apply below_drew1 | refine below_set ?_ (IsS70.ge HI0.out)) | exact HB.out)); rintro e w14 ⟨rfl, hi, hb, hk⟩; have HS0_ := keep_cell hk (hHeld.1) zz184; have HS1_ := keep_cell hk (hHeld.2.1) zz185; have HS2_ := keep_cell hk (hHeld.2.2.1) zz186; have HS3_ := keep_cell hk (hHeld.2.2.2) zz187; refine ⟨_, rfl, ?_⟩; replace HO_7 := Aside0.mk (Kd.R_mono (Kd.R_keep (IsS70.apart (show IsS70 w0 _ g tG from by repeat (first | (with_reducible first | exact HI0.out | apply IsS70.alloc | apply IsS70.drewN | apply IsS70.drew | apply IsS70.set_0) | exact HI0.out)) zz232 (by decide)) hk (fun _ h => h.2)) (fun _ h => h.1)); replace HK := Aside0.mk (KeepBut.trans zz169 hk (.inl rfl)); replace HI0 := Aside0.mk (hi); replace HB := Aside0.mk (hb); (try clear hb); (try clear hk); (try clear hi); refine hK.out _ _ ⟨HS0_, HS1_, HS2_, HS3_⟩ (fun hHeld => ?_); clear hK K; refine normA (some 29) ?_; refine last_ (i := 15) (N := some 30) (bB 18 65535) rfl rfl (one_of HT_.out (by kernel_rfl)) (by decide) (fun K hK => ?_); refine value_ (w1 := ?_) (v := ?_) (by rfl) rfl ?_ ?_; rotate_left 2
        ·go_simp
         constructor
         ·rfl
         ·rfl
        refine hK.out _ _ ?_; clear hK K; refine normA (some 30) ?_; refine last_ (i := 16) (N := some 31) (bB 18 131071) rfl rfl (one_of HT_.out (by kernel_rfl)) (by decide) (fun K hK => ?_); refine Kd.R_append_step k27 w.heap.size (by rfl) (.tmp 15) (.tmp 30) 32 27 (.agg #[(.int .i64 0), (.int .i64 0)]) 16 rfl Try.underlying32 info27 rfl (by decide) (by omega) u7 x7_1 (⟨tE, tH⟩ : S27) [.int .i64 tE, .int .i64 tH] (fun _ => True) (fun _ => False) rfl rfl ?aP (fun _ hk => hk.elim) ?aF ?aO (Below.refl _ _) ?aS ?aL ?_; (case aP => exact k27_mkM _ _ _ (⟨tE, tH⟩ : S27)); (case aF => exact (fun _ _ => trivial)); (case aO => exact zz232); (case aS => exact (keep_size (w := w) (g := g) (row := none) zz169)); (case aL => have := LMc11.out; omega); intro vL w15 ho hb hg hat; rw [← NyK.out] at ho; have n0_ := Aside0.mk (IsS70.grown zz168 hg (IsS70.own_ne HI0.out HO_7.out (by decide))); replace HB := Aside0.mk (below_weaken zz119 HL.out hb); replace HK := Aside0.mk (KeepBut.trans zz169 (KeepBut.of_grown hg g) (Kd.R_base2 HO_7.out)); have HOM := Aside0.mk (ho); clear HI0 HO_7; have HI0 := n0_; clear n0_; clear ho hb hg hat; refine hK.out _ _ ?_; clear hK K; refine normA (some 31) ?_; refine pureA 17 (some 7) (bB 18 262143) HT_ ?_; refine done_ (done_of HT_.out (by kernel_rfl)) ?_; try go_wp2
        go_roundg k1
        case measure => have := HK1.out; omega
        case rel => exact ⟨(yK), (wrap64 (x8_1 + 1)), (tI), zz246, H', ⟨by have := HK1.out; omega⟩, ⟨by (with_reducible repeat (first | apply Kd.R_alloc | apply Kd.R_drewN | apply Kd.R_drew)); exact HOM.out⟩, ⟨by repeat (first | (with_reducible first | exact HI0.out | apply IsS70.alloc | apply IsS70.drewN | apply IsS70.drew | apply IsS70.set_0) | exact HI0.out)⟩, ⟨by repeat (first | (with_reducible first | exact HK.out | apply KeepBut.set_ | apply keep_drewN | apply keep_drew | apply keep_alloc) | exact HK.out)⟩, ⟨by repeat (first | (with_reducible first | exact HB.out | apply below_alloc | apply pw_below_drewN | apply below_drew1 | refine below_set ?_ (IsS70.ge HI0.out)) | exact HB.out)⟩⟩
       ·rw [if_neg c11] at H; exact absurd H (by simp)
      ·rw [if_neg c9] at H; exact absurd H (by simp)
     ·rw [if_neg c7] at H; exact absurd H (by simp)
    ·rw [if_neg c6] at H; exact absurd H (by simp)
   ·rw [if_neg c4] at H; have c4b0 : decide (x8_1 < (l2.length : Int)) = false := decide_eq_false c4; clear c4; simp only [Option.some.injEq, Prod.mk.injEq] at H; obtain ⟨rfl, rfl⟩ := H; go_wp2
    go_ret
    exact ⟨_, by first | rfl | (simp [errW_none, errW_some] <;> rfl) | (simp [*, errW_none, errW_some] <;> rfl), by (with_reducible repeat (first | apply Kd.R_alloc | apply Kd.R_drewN | apply Kd.R_drew)); exact HO_7.out, by repeat (first | (with_reducible first | exact HI0.out | apply IsS70.alloc | apply IsS70.drewN | apply IsS70.drew | apply IsS70.set_0) | exact HI0.out), by repeat (first | (with_reducible first | exact HB.out | apply below_alloc | apply pw_below_drewN | apply below_drew1 | refine below_set ?_ (IsS70.ge HI0.out)) | exact HB.out), by repeat (first | (with_reducible first | exact HK.out | apply KeepBut.set_ | apply keep_drewN | apply keep_drew | apply keep_alloc) | exact HK.out)⟩
end Go.Proofs.Ytlggehdfigkliaa.Q
namespace Go.Proofs.Ytlggehdfigkliaa.Q
open Go.RowKit Go.Proofs.YtlggehdfigkliaaW.PrintWords Go.Proofs.YtlggehdfigkliaaW.PrintLast Go.Proofs.YtlggehdfigkliaaW.PrintMore
attribute [local go_sem] max2_int min2_int max_two min_two max_three min_three max_four min_four   -- for this text's walks alone
set_option linter.unusedVariables false
set_option linter.unusedSimpArgs false
def impl_JumpsOf.j0 : Nat → List (S57) → List (S27) → Bool → Option ((List (S27)) × Bool)
 | 0, _, _, _ => none
 | k + 1, x0, x1, x15 => if x15 = true then (some (([] : List (S27)), false)) else ((impl_calc_jumps.f k false x0 x1).bind fun btA => (if btA.2 = true then (some (([] : List (S27)), false)) else (some (btA.1, true))))
def impl_JumpsOf.f (k : Nat) (l0 : List (S57)) (l1 : List (S27)) : Option ((List (S27)) × Bool) := (impl_isMap.f k l0).bind fun tA => (if tA = true then ((impl_isPseudo.f k l1).bind fun tB => (impl_JumpsOf.j0 k l0 l1 (!tB))) else (impl_JumpsOf.j0 k l0 l1 true))
theorem zz124 {p : Prop} (h : p := by rw [hg]; exact (below_size zz171)) : p := h
theorem zz118 {p : Prop} (h : p := by repeat (first | (with_reducible first | exact HB.out | apply below_alloc | apply pw_below_drewN | apply below_drew1 | refine below_set ?_ (IsS70.ge HIA.out)) | exact HB.out)) : p := h
set_option maxHeartbeats 8000000 in
set_option maxRecDepth 100000 in
theorem impl_JumpsOf.calls (k : Nat) (A0 : Option Addr) (c0 : Nat) (l0 : List (S57)) (A1 : Option Addr) (c1 : Nat) (l1 : List (S27)) (r1 : List (S27)) (r2 : Bool) (w : World) (hr0 : Kd.C k57 w A0 l0.length l0) (hc0 : l0.length ≤ c0) (hr1 : Kd.C k27 w A1 l1.length l1) (hc1 : l1.length ≤ c1) (h : impl_JumpsOf.f k l0 l1 = some (r1, r2)) :
  Calls Try.prog 34 #[.slice A0 l0.length c0, .slice A1 l1.length c1] w fun e w' => ∃ v0_ : Value, e = .returned (.tuple #[v0_, .bool r2]) ∧ Kd.R k27 27 w' w.heap.size (fun _ => True) v0_ r1 ∧ Below w.heap.size w w' := by
 have hu70 := Try.underlying70; have HR0 := Aside0.mk hr0; have HC0 := Aside0.mk hc0; clear hr0 hc0; have HR1 := Aside0.mk hr1; have HC1 := Aside0.mk hc1; clear hr1 hc1; have HB := Aside0.mk (Below.refl w.heap.size w); have H : ((impl_isMap.f k l0).bind fun tB => (if tB = true then ((impl_isPseudo.f k l1).bind fun tC => (impl_JumpsOf.j0 k l0 l1 (!tC))) else (impl_JumpsOf.j0 k l0 l1 true))) = some (r1, r2) := h; clear h; have HC3 := Aside0.mk H; clear H; go_enter Try.func34, Try.ntmps34
 go_upto_region 1 with (fail)
 go_cut [15] (fun v15 wc => ∃ (kq : Nat) (x15_2 : Bool), v15 = .bool x15_2 ∧ Aside0 (impl_JumpsOf.j0 kq l0 l1 x15_2 = some (r1, r2)) ∧ Aside0 (kq ≤ k) ∧ Aside0 (Below w.heap.size w wc))
 case first =>
  have H := HC3.out; clear HC3; replace H := Option.bind_eq_some_iff.mp H; obtain ⟨tB, A40, H⟩ := H; replace H : (if tB = true then ((impl_isPseudo.f k l1).bind fun tC => (impl_JumpsOf.j0 k l0 l1 (!tC))) else (impl_JumpsOf.j0 k l0 l1 true)) = some (r1, r2) := H; have A4 := Aside0.mk A40; clear A40; by_cases c5 : tB = true
  ·subst c5; have H1 : ((impl_isPseudo.f k l1).bind fun tC => (impl_JumpsOf.j0 k l0 l1 (!tC))) = some (r1, r2) := by rw [if_pos rfl] at H; exact H
   clear H; have H := H1; clear H1; replace H := Option.bind_eq_some_iff.mp H; obtain ⟨tC, A60, H⟩ := H; replace H : (impl_JumpsOf.j0 k l0 l1 (!tC)) = some (r1, r2) := H; have A6 := Aside0.mk A60; clear A60; have H' := Aside0.mk H; clear H; go_wp2_with (first | ((with_reducible refine gate_callee (f := 63) rfl ?_); refine goesL_ (some 9) rfl rfl Try.func63 (by kernel_rfl) rfl #[.slice A0 l0.length c0] rfl zz170 ?_; (with_reducible refine (impl_isMap.calls k _ _ l0 true _ ?side1 ?side2 A4.out).mono ?_); (case side1 => repeat (first | exact (Kd.C_below HR0.out HB.out) | (with_reducible refine Kd.C_alloc ?_ _) | (with_reducible refine Kd.C_drewN ?_ _) | (with_reducible refine Kd.C_drew ?_))); (case side2 => exact HC0.out); rintro e w7 ⟨rfl, hb⟩; refine ⟨_, rfl, ?_⟩; replace HB := Aside0.mk (below_step zz171 hb); (try clear hb)) | (go_at_call 64; (with_reducible refine (impl_isPseudo.calls k _ _ l1 tC _ ?side1 ?side2 A6.out).mono ?_); (case side1 => repeat (first | exact (Kd.C_below HR1.out HB.out) | (with_reducible refine Kd.C_alloc ?_ _) | (with_reducible refine Kd.C_drewN ?_ _) | (with_reducible refine Kd.C_drew ?_))); (case side2 => exact HC1.out); rintro e w8 ⟨rfl, hb⟩; replace HB := Aside0.mk (below_step zz171 hb); (try clear hb)))
   go_meet
   case rel => exact ⟨_, (!tC), zz246, H', ⟨by first | omega | exact Nat.le_refl _⟩, ⟨by repeat (first | (with_reducible first | exact HB.out | apply below_alloc | apply pw_below_drewN | apply below_drew1) | exact HB.out)⟩⟩
  ·replace c5 := Bool.eq_false_iff.mpr c5; subst c5; have H1 : (impl_JumpsOf.j0 k l0 l1 true) = some (r1, r2) := by rw [if_neg (show ¬ (false = true) by decide)] at H; exact H
   clear H; have H := H1; clear H1; have H' := Aside0.mk H; clear H; go_wp2_with (first | ((with_reducible refine gate_callee (f := 63) rfl ?_); refine goesL_ (some 9) rfl rfl Try.func63 (by kernel_rfl) rfl #[.slice A0 l0.length c0] rfl zz170 ?_; (with_reducible refine (impl_isMap.calls k _ _ l0 false _ ?side1 ?side2 A4.out).mono ?_); (case side1 => repeat (first | exact (Kd.C_below HR0.out HB.out) | (with_reducible refine Kd.C_alloc ?_ _) | (with_reducible refine Kd.C_drewN ?_ _) | (with_reducible refine Kd.C_drew ?_))); (case side2 => exact HC0.out); rintro e w9 ⟨rfl, hb⟩; refine ⟨_, rfl, ?_⟩; replace HB := Aside0.mk (below_step zz171 hb); (try clear hb)))
   go_meet
   case rel => exact ⟨_, (true), zz246, H', ⟨by first | omega | exact Nat.le_refl _⟩, ⟨by repeat (first | (with_reducible first | exact HB.out | apply below_alloc | apply pw_below_drewN | apply below_drew1) | exact HB.out)⟩⟩
 case rest =>
  clear HC3; try clear c1
  try clear p2
  try clear c3
  try clear c5
  try clear c6
  obtain ⟨kq, x15_2, rfl, HA, HJ2, HB⟩ := hcut; cases kq with
  | zero => exact absurd HA.out (by simp [impl_JumpsOf.j0])
  | succ kj2 =>
   have H := HA.out; clear HA; simp only [impl_JumpsOf.j0] at H; by_cases c10 : x15_2 = true
   ·subst c10; have H1 : (some (([] : List (S27)), false)) = some (r1, r2) := by rw [if_pos rfl] at H; exact H
    clear H; have H := H1; clear H1; simp only [Option.some.injEq, Prod.mk.injEq] at H; obtain ⟨rfl, rfl⟩ := H; go_wp2
    go_ret2
    exact ⟨_, by first | rfl | (simp [errW_none, errW_some] <;> rfl) | (simp [*, errW_none, errW_some] <;> rfl), by first | exact Kd.R_nil _ _ _ _ _ | exact Kd.N_nil _ _ _ _ _ | exact Kd.V_nil _ _ _ _ _ | exact Kd.Q_nil _ _ _ _ _ | exact Kd.S_nil _ _ _ _ _, by repeat (first | (with_reducible first | exact HB.out | apply below_alloc | apply pw_below_drewN | apply below_drew1) | exact HB.out)⟩
   ·replace c10 := Bool.eq_false_iff.mpr c10; subst c10; have H1 : ((impl_calc_jumps.f kj2 false l0 l1).bind fun btD => (if btD.2 = true then (some (([] : List (S27)), false)) else (some (btD.1, true)))) = some (r1, r2) := by rw [if_neg (show ¬ (false = true) by decide)] at H; exact H
    clear H; have H := H1; clear H1; replace H := Option.bind_eq_some_iff.mp H; obtain ⟨⟨tD, tE⟩, AF, H⟩ := H; replace H : (if tE = true then (some (([] : List (S27)), false)) else (some (tD, true))) = some (r1, r2) := H; have A11 := Aside0.mk AF; clear AF; by_cases c12 : tE = true
    ·subst c12; have H1 : (some (([] : List (S27)), false)) = some (r1, r2) := by rw [if_pos rfl] at H; exact H
     clear H; have H := H1; clear H1; simp only [Option.some.injEq, Prod.mk.injEq] at H; obtain ⟨rfl, rfl⟩ := H; go_wp2_with (first | ((with_reducible refine gate_dst (N := 6) rfl ?_); refine boxE 6 #[.bool false] 70 ?_; intro gbA hg w13 hbox hb; have HIA := Aside0.mk ((show IsS70 w w13 gbA false from ⟨hbox, zz124⟩)); replace HB := Aside0.mk (below_step zz171 hb); clear hb hbox hg) | ((with_reducible refine gate_callee (f := 65) rfl ?_); refine goesL_ (some 18) rfl rfl Try.func65 (by kernel_rfl) rfl #[.pointer (some ⟨gbA, 0, none⟩), .slice A0 l0.length c0, .slice A1 l1.length c1] rfl zz170 ?_; (with_reducible refine (impl_calc_jumps.calls kj2 gbA false _ _ l0 _ _ l1 tD true w _ ?side1 ?side2 ?side3 ?side4 ?side5 ?side6 A11.out).mono ?_); (case side1 => repeat (first | (with_reducible first | exact HIA.out | apply IsS70.alloc | apply IsS70.drewN | apply IsS70.drew | apply IsS70.set_0) | exact HIA.out)); (case side2 => repeat (first | (with_reducible first | exact HB.out | apply below_alloc | apply pw_below_drewN | apply below_drew1 | refine below_set ?_ (IsS70.ge HIA.out)) | exact HB.out)); (case side3 => exact Kd.C_foot_came k57_heap HR0.out zz118 (IsS70.ge HIA.out)); (case side4 => exact HC0.out); (case side5 => exact Kd.C_foot_came k27_heap HR1.out zz118 (IsS70.ge HIA.out)); (case side6 => exact HC1.out); rintro e w14 ⟨vG, rfl, ho0, hi, hb, hk⟩; refine ⟨_, rfl, ?_⟩; have HOH := Aside0.mk (Kd.R_lower ho0 (below_size zz118)); replace HIA := Aside0.mk (hi); replace HB := Aside0.mk (hb); (try clear hb); (try clear hk); (try clear hi); (try clear ho0); obtain ⟨HGz15, hgz15⟩ := HIA.out; have hcz15_0 := cellS70_0 HGz15; have hfz15_0 := blk_frozen HGz15 0; clear HGz15 hgz15))
     go_ret2
     exact ⟨_, by first | rfl | (simp [errW_none, errW_some] <;> rfl) | (simp [*, errW_none, errW_some] <;> rfl), by first | exact Kd.R_nil _ _ _ _ _ | exact Kd.N_nil _ _ _ _ _ | exact Kd.V_nil _ _ _ _ _ | exact Kd.Q_nil _ _ _ _ _ | exact Kd.S_nil _ _ _ _ _, by repeat (first | (with_reducible first | exact HB.out | apply below_alloc | apply pw_below_drewN | apply below_drew1 | refine below_set ?_ (IsS70.ge HIA.out)) | exact HB.out)⟩
    ·replace c12 := Bool.eq_false_iff.mpr c12; subst c12; have H1 : (some (tD, true)) = some (r1, r2) := by rw [if_neg (show ¬ (false = true) by decide)] at H; exact H
     clear H; have H := H1; clear H1; simp only [Option.some.injEq, Prod.mk.injEq] at H; obtain ⟨rfl, rfl⟩ := H; go_wp2_with (first | ((with_reducible refine gate_dst (N := 6) rfl ?_); refine boxE 6 #[.bool false] 70 ?_; intro gbA hg w16 hbox hb; have HIA := Aside0.mk ((show IsS70 w w16 gbA false from ⟨hbox, zz124⟩)); replace HB := Aside0.mk (below_step zz171 hb); clear hb hbox hg) | ((with_reducible refine gate_callee (f := 65) rfl ?_); refine goesL_ (some 18) rfl rfl Try.func65 (by kernel_rfl) rfl #[.pointer (some ⟨gbA, 0, none⟩), .slice A0 l0.length c0, .slice A1 l1.length c1] rfl zz170 ?_; (with_reducible refine (impl_calc_jumps.calls kj2 gbA false _ _ l0 _ _ l1 tD false w _ ?side1 ?side2 ?side3 ?side4 ?side5 ?side6 A11.out).mono ?_); (case side1 => repeat (first | (with_reducible first | exact HIA.out | apply IsS70.alloc | apply IsS70.drewN | apply IsS70.drew | apply IsS70.set_0) | exact HIA.out)); (case side2 => repeat (first | (with_reducible first | exact HB.out | apply below_alloc | apply pw_below_drewN | apply below_drew1 | refine below_set ?_ (IsS70.ge HIA.out)) | exact HB.out)); (case side3 => exact Kd.C_foot_came k57_heap HR0.out zz118 (IsS70.ge HIA.out)); (case side4 => exact HC0.out); (case side5 => exact Kd.C_foot_came k27_heap HR1.out zz118 (IsS70.ge HIA.out)); (case side6 => exact HC1.out); rintro e w17 ⟨vG, rfl, ho0, hi, hb, hk⟩; refine ⟨_, rfl, ?_⟩; have HOH := Aside0.mk (Kd.R_lower ho0 (below_size zz118)); replace HIA := Aside0.mk (hi); replace HB := Aside0.mk (hb); (try clear hb); (try clear hk); (try clear hi); (try clear ho0); obtain ⟨HGz18, hgz18⟩ := HIA.out; have hcz18_0 := cellS70_0 HGz18; have hfz18_0 := blk_frozen HGz18 0; clear HGz18 hgz18))
     go_ret2
     exact ⟨_, by first | rfl | (simp [errW_none, errW_some] <;> rfl) | (simp [*, errW_none, errW_some] <;> rfl), by (with_reducible repeat (first | apply Kd.R_alloc | apply Kd.R_drewN | apply Kd.R_drew)); exact HOH.out, by repeat (first | (with_reducible first | exact HB.out | apply below_alloc | apply pw_below_drewN | apply below_drew1 | refine below_set ?_ (IsS70.ge HIA.out)) | exact HB.out)⟩
end Go.Proofs.Ytlggehdfigkliaa.Q
namespace Go.Proofs.Ytlggehdfigkliaa.Q
open Go.RowKit Go.Proofs.YtlggehdfigkliaaW.PrintWords Go.Proofs.YtlggehdfigkliaaW.PrintLast Go.Proofs.YtlggehdfigkliaaW.PrintMore
attribute [local go_sem] max2_int min2_int max_two min_two max_three min_three max_four min_four   -- for this text's walks alone
set_option linter.unusedVariables false
set_option linter.unusedSimpArgs false
def MaxFunc_impl_compare.l0 : Nat → List (S27) → Int → Int → Int → Option (Int × Int)
 | 0, _, _, _, _ => none
 | k + 1, x0, x6, xA, xB => if x6 < (x0.length : Int) then (if 0 ≤ x6 then ((impl_compare.f ((rd_T27 x0 x6).f0) ((rd_T27 x0 x6).f1) xA xB).bind fun tC => (if tC > 0 then (MaxFunc_impl_compare.l0 k x0 (wrap64 (x6 + 1)) ((rd_T27 x0 x6).f0) ((rd_T27 x0 x6).f1)) else (MaxFunc_impl_compare.l0 k x0 (wrap64 (x6 + 1)) xA xB))) else (none)) else (some (xA, xB))
def MaxFunc_impl_compare.f (k : Nat) (l0 : List (S27)) : Option (Int × Int) := if (l0.length : Int) < 1 then (none) else (if 0 < (l0.length : Int) then (MaxFunc_impl_compare.l0 k l0 1 ((rd_T27 l0 0).f0) ((rd_T27 l0 0).f1)) else (none))
def MaxFunc_impl_compare.T7 : Bool × List (List Nat × List Nat) := (true, [([], []), ([], []), ([], []), ([1, 2], [1, 2]), ([3], [3]), ([], []), ([0, 4, 5], [0, 4, 5]), ([6], [6])])
def MaxFunc_impl_compare.B7 : List Nat := [0, 0, 0, 6, 14, 0, 63, 127]
theorem MaxFunc_impl_compare.tab7 : rtab .any (opsOf Try.f35 7) = MaxFunc_impl_compare.T7 := by kernel_rfl
theorem MaxFunc_impl_compare.bits7 : waitsOk MaxFunc_impl_compare.T7.2 MaxFunc_impl_compare.B7 = true := by kernel_rfl
theorem zz161 {p : Prop} (h : p := by repeat (first | (with_reducible first | exact HB.out | apply below_alloc | apply pw_below_drewN | apply below_drew1 | refine below_set ?_ GEA.out) | exact HB.out)) : p := h
theorem zz103 {p : Prop} (h : p := by repeat (first | (with_reducible first | exact HB.out | apply below_alloc | apply pw_below_drewN | apply below_drew1 | refine below_set ?_ GEA.out | refine below_set ?_ GEB.out) | exact HB.out)) : p := h
set_option maxHeartbeats 8000000 in
set_option maxRecDepth 100000 in
theorem MaxFunc_impl_compare.calls (k : Nat) (A0 : Option Addr) (c0 : Nat) (l0 : List (S27)) (r1 : Int) (r2 : Int) (w : World) (hr0 : Kd.C k27 w A0 l0.length l0) (hc0 : l0.length ≤ c0) (h : MaxFunc_impl_compare.f k l0 = some (r1, r2)) :
  Calls Try.prog 35 #[.slice A0 l0.length c0, .func (.func 37) #[] #[]] w fun e w' => e = .returned (.agg #[.int .i64 r1, .int .i64 r2]) ∧ Below w.heap.size w w' := by
 have hu27 := Try.underlying27; have HR0 := Aside0.mk hr0; have HC0 := Aside0.mk hc0; clear hr0 hc0; have HB := Aside0.mk (Below.refl w.heap.size w); have H : (if (l0.length : Int) < 1 then (none) else (if 0 < (l0.length : Int) then (MaxFunc_impl_compare.l0 k l0 1 ((rd_T27 l0 0).f0) ((rd_T27 l0 0).f1)) else (none))) = some (r1, r2) := h; clear h; by_cases c2 : (l0.length : Int) < 1
 ·rw [if_pos c2] at H; exact absurd H (by simp)
 ·rw [if_neg c2] at H; have c2b0 : decide ((l0.length : Int) < 1) = false := decide_eq_false c2; have c2b1 : decide (l0.length < 1) = false := decide_eq_false (by omega); clear c2; by_cases c3 : 0 < (l0.length : Int)
  ·rw [if_pos c3] at H; have c3b0 : decide (0 < (l0.length : Int)) = true := decide_eq_true c3; have c3b1 : decide (0 < l0.length) = true := decide_eq_true (by omega); clear c3; have H' := Aside0.mk H; clear H; go_enter Try.func35, Try.ntmps35
   go_wp2_with (first | ((with_reducible refine gate_dst (N := 4) rfl ?_); refine boxE 4 #[.int .i64 0, .int .i64 0] 27 ?_; intro gbA hg w4 hbox hb; have GWA := gwA (below_size zz171) hg; have GEA := GWA; have BKA := Aside0.mk (hbox); replace HB := Aside0.mk (below_step zz171 hb); clear hb hbox hg; have pC : 0 ≤ (0 : Int) := (by omega); have qC : 0 < (l0.length : Int) := of_decide_eq_true zz245; obtain ⟨adC, eC, hxC_0, hxC_1⟩ := at_T27 HR0.out 0 pC qC; cases eC; have qiC : (0 < l0.length) = True := eq_true (by omega); (try rw [show ((0 : Int)).toNat = 0 from rfl] at hxC_0); (try rw [show 0 * 2 = 0 from rfl] at hxC_0); (try rw [Addr.add_zero'] at hxC_0); (try rw [show ((0 : Int)).toNat = 0 from rfl] at hxC_1); (try rw [show 0 * 2 = 0 from rfl] at hxC_1); (try rw [Addr.add_zero'] at hxC_1); replace hxC_0 := cwA HB hxC_0; replace hxC_1 := cwA HB hxC_1; replace pC := eq_true pC; replace qC := eq_true qC) | ((with_reducible refine gate_dst (N := 5) rfl ?_); refine boxE 5 #[.int .i64 0, .int .i64 0] 27 ?_; intro gbB hg w5 hbox hb; have GWB := gwA (below_size zz161) hg; have GEB := GWB; have NBA_B := nltA BKA hg; have NBB_A := ngtA BKA hg; replace BKA := blkA BKA hb; have BKB := Aside0.mk (hbox); replace HB := Aside0.mk (below_step zz161 hb); clear hb hbox hg; have hnb6 := NBB_A.out; have hnc6 := NBA_B.out; obtain ⟨hcz7_0, hcz7_1, hfz7_0, hfz7_1⟩ := cz2 BKB.out))
   go_loopg [6] k (fun kq v6 w' => ∃ (x6_1 : Int) (xD_1 : Int) (xE_1 : Int), v6 = .int .i64 x6_1 ∧ Aside0 (MaxFunc_impl_compare.l0 kq l0 x6_1 xD_1 xE_1 = some (r1, r2)) ∧ Aside0 (kq ≤ k) ∧ Aside0 (w'.heap[gbA]? = some (.cells #[.int .i64 0, .int .i64 0] 27 (0, 0))) ∧ Aside0 (w'.heap[gbB]? = some (.cells #[.int .i64 xD_1, .int .i64 xE_1] 27 (0, 0))) ∧ Aside0 (Below w.heap.size w w'))
   case atStart => exact ⟨(1), ((rd_T27 l0 0).f0), ((rd_T27 l0 0).f1), zz246, H', ⟨Nat.le_refl _⟩, ⟨by (with_reducible repeat (first | refine blk_drewN ?_ _ | refine blk_drew ?_ | refine blk_alloc ?_ _)); refine blk_far ?_ NBA_B.out _; (with_reducible repeat (first | refine blk_drewN ?_ _ | refine blk_drew ?_ | refine blk_alloc ?_ _)); refine blk_far ?_ NBA_B.out _; (with_reducible repeat (first | refine blk_drewN ?_ _ | refine blk_drew ?_ | refine blk_alloc ?_ _)); exact BKA.out⟩, ⟨by (with_reducible repeat (first | refine blk_drewN ?_ _ | refine blk_drew ?_ | refine blk_alloc ?_ _)); refine blk_put (cs := #[.int .i64 ((rd_T27 l0 0).f0), .int .i64 0]) ?_ 1 _ rfl; (with_reducible repeat (first | refine blk_drewN ?_ _ | refine blk_drew ?_ | refine blk_alloc ?_ _)); refine blk_put (cs := #[.int .i64 0, .int .i64 0]) ?_ 0 _ rfl; (with_reducible repeat (first | refine blk_drewN ?_ _ | refine blk_drew ?_ | refine blk_alloc ?_ _)); exact BKB.out⟩, ⟨by repeat (first | (with_reducible first | exact HB.out | apply below_alloc | apply pw_below_drewN | apply below_drew1 | refine below_set ?_ GEA.out | refine below_set ?_ GEB.out) | exact HB.out)⟩⟩
   case round =>
    clear H'; try clear c2
    try clear c2b0
    try clear c2b1
    try clear p2
    try clear c3
    try clear c3b0
    try clear c3b1
    try clear p4
    try clear q4
    try clear hx4
    try clear qi4
    try clear c6
    try clear hcz7_0
    try clear hcz7_1
    try clear hfz7_0
    try clear hfz7_1
    try clear hxC_0
    try clear hxC_1
    try clear pC
    try clear qC
    obtain ⟨x6_1, xD_1, xE_1, rfl, HA, HK1, BKA, BKB, HB⟩ := hrel; cases gk with
    | zero => exact absurd HA.out (by simp [MaxFunc_impl_compare.l0])
    | succ k1 =>
     have H := HA.out; clear HA; simp only [MaxFunc_impl_compare.l0] at H; by_cases c8 : x6_1 < (l0.length : Int)
     ·rw [if_pos c8] at H; have c8b0 : decide (x6_1 < (l0.length : Int)) = true := decide_eq_true c8; clear c8; by_cases c9 : 0 ≤ x6_1
      ·rw [if_pos c9] at H; have c9b0 : decide (0 ≤ x6_1) = true := decide_eq_true c9; clear c9; replace H := Option.bind_eq_some_iff.mp H; obtain ⟨tF, AG, H⟩ := H; replace H : (if tF > 0 then (MaxFunc_impl_compare.l0 k1 l0 (wrap64 (x6_1 + 1)) ((rd_T27 l0 x6_1).f0) ((rd_T27 l0 x6_1).f1)) else (MaxFunc_impl_compare.l0 k1 l0 (wrap64 (x6_1 + 1)) xD_1 xE_1)) = some (r1, r2) := H; have A10 := Aside0.mk AG; clear AG; by_cases c11 : tF > 0
       ·rw [if_pos c11] at H; have c11b0 : decide (0 < tF) = true := decide_eq_true c11; clear c11; have H' := Aside0.mk H; clear H; try go_wp2
        replace BKA := Aside0.mk (blk_drew BKA.out); replace BKB := Aside0.mk (blk_drew BKB.out); replace HB := Aside0.mk (below_drew1 HB.out); have pH : 0 ≤ (x6_1 : Int) := of_decide_eq_true zz245; have qH : x6_1 < (l0.length : Int) := of_decide_eq_true zz245; obtain ⟨adH, eH, hxH_0, hxH_1⟩ := at_T27 HR0.out x6_1 pH qH; have hwH_1 := hxH_1; have hwH_0 := hxH_0; obtain rfl : adC = adH := (by injection eH); replace hxH_0 := cwA HB hxH_0; replace hxH_1 := cwA HB hxH_1; replace pH := eq_true pH; replace qH := eq_true qH; refine start_ (n := 8) (S := fun w' => w'.cell? ⟨gbB, 0, none⟩ = some (.int .i64 xD_1) ∧ w'.cell? ⟨gbB, 1, none⟩ = some (.int .i64 xE_1) ∧ w'.cell? (adC.add ((x6_1).toNat * 2)) = some (.int .i64 ((rd_T27 l0 x6_1).f0)) ∧ w'.cell? ⟨(adC.add ((x6_1).toNat * 2)).block, (adC.add ((x6_1).toNat * 2)).off + 1, none⟩ = some (.int .i64 ((rd_T27 l0 x6_1).f1))) (ds := []) (.replicate 8 fF) (by kernel_rfl) rfl rfl ⟨bcA BKB 0, bcA BKB 1, (cwA HB hwH_0), (cwA HB hwH_1)⟩ (fun hHeld => ?_); refine with_tabW MaxFunc_impl_compare.tab7 MaxFunc_impl_compare.bits7 (fun HT_ HW_ => ?_); generalize wr.drew = w12 at BKA BKB HB hxH_0 hxH_1 hHeld ⊢; refine pureA 0 (some 20) (bB 8 1) HT_ ?_; refine pureA 1 (some 21) (bB 8 3) HT_ ?_; refine pureA 2 (some 22) (bB 8 7) HT_ ?_; refine pureA 3 (some 23) (bB 8 15) HT_ ?_; refine takeA1 4 (some 24) (bB 8 31) HT_ HW_ hHeld ?_; refine takeA1 5 (some 25) (bB 8 63) HT_ HW_ hHeld ?_; refine one_ (i := 6) (N := some 26) (bB 8 127) rfl rfl (one_of HT_.out (by kernel_rfl)) (by decide) (fun K hK => ?_); refine goesT_ 20 (by rfl) Try.func37 (by kernel_rfl) rfl #[.agg #[.int .i64 ((rd_T27 l0 x6_1).f0), .int .i64 ((rd_T27 l0 x6_1).f1)], .agg #[.int .i64 xD_1, .int .i64 xE_1]] (by rfl) rfl rfl zz170 ?_; with_reducible refine (impl_compare.calls ((rd_T27 l0 x6_1).f0) ((rd_T27 l0 x6_1).f1) xD_1 xE_1 tF _ A10.out).mono ?_
        rintro e w13 ⟨rfl, hb⟩; refine ⟨_, rfl, ?_⟩; replace BKA := blkA BKA hb; replace BKB := blkA BKB hb; replace HB := Aside0.mk (below_step zz103 hb); (try clear hb); refine hK.out _ _ ⟨bcA BKB 0, bcA BKB 1, (cwA HB hwH_0), (cwA HB hwH_1)⟩ (fun hHeld => ?_); clear hK K; refine normA (some 26) ?_; refine pureA 7 (some 27) (bB 8 255) HT_ ?_; refine done_ (done_of HT_.out (by kernel_rfl)) ?_; have pI : 0 ≤ (x6_1 : Int) := of_decide_eq_true zz245; have qI : x6_1 < (l0.length : Int) := of_decide_eq_true zz245; obtain ⟨adI, eI, hxI_0, hxI_1⟩ := at_T27 HR0.out x6_1 pI qI; obtain rfl : adC = adI := (by injection eI); replace hxI_0 := cwA HB hxI_0; replace hxI_1 := cwA HB hxI_1; replace pI := eq_true pI; replace qI := eq_true qI; have hnb14 := NBB_A.out; have hnc14 := NBA_B.out; obtain ⟨hcz15_0, hcz15_1, hfz15_0, hfz15_1⟩ := cz2 BKB.out; try go_wp2
        go_roundg k1
        case measure => have := HK1.out; omega
        case rel => exact ⟨(wrap64 (x6_1 + 1)), ((rd_T27 l0 x6_1).f0), ((rd_T27 l0 x6_1).f1), zz246, H', ⟨by have := HK1.out; omega⟩, ⟨by (with_reducible repeat (first | refine blk_drewN ?_ _ | refine blk_drew ?_ | refine blk_alloc ?_ _)); refine blk_far ?_ NBA_B.out _; (with_reducible repeat (first | refine blk_drewN ?_ _ | refine blk_drew ?_ | refine blk_alloc ?_ _)); refine blk_far ?_ NBA_B.out _; (with_reducible repeat (first | refine blk_drewN ?_ _ | refine blk_drew ?_ | refine blk_alloc ?_ _)); exact BKA.out⟩, ⟨by (with_reducible repeat (first | refine blk_drewN ?_ _ | refine blk_drew ?_ | refine blk_alloc ?_ _)); refine blk_put (cs := #[.int .i64 ((rd_T27 l0 x6_1).f0), .int .i64 xE_1]) ?_ 1 _ rfl; (with_reducible repeat (first | refine blk_drewN ?_ _ | refine blk_drew ?_ | refine blk_alloc ?_ _)); refine blk_put (cs := #[.int .i64 xD_1, .int .i64 xE_1]) ?_ 0 _ rfl; (with_reducible repeat (first | refine blk_drewN ?_ _ | refine blk_drew ?_ | refine blk_alloc ?_ _)); exact BKB.out⟩, ⟨by repeat (first | (with_reducible first | exact HB.out | apply below_alloc | apply pw_below_drewN | apply below_drew1 | refine below_set ?_ GEA.out | refine below_set ?_ GEB.out) | exact HB.out)⟩⟩
       ·rw [if_neg c11] at H; have c11b0 : decide (0 < tF) = false := decide_eq_false c11; clear c11; have H' := Aside0.mk H; clear H; try go_wp2
        replace BKA := Aside0.mk (blk_drew BKA.out); replace BKB := Aside0.mk (blk_drew BKB.out); replace HB := Aside0.mk (below_drew1 HB.out); have pH : 0 ≤ (x6_1 : Int) := of_decide_eq_true zz245; have qH : x6_1 < (l0.length : Int) := of_decide_eq_true zz245; obtain ⟨adH, eH, hxH_0, hxH_1⟩ := at_T27 HR0.out x6_1 pH qH; have hwH_1 := hxH_1; have hwH_0 := hxH_0; obtain rfl : adC = adH := (by injection eH); replace hxH_0 := cwA HB hxH_0; replace hxH_1 := cwA HB hxH_1; replace pH := eq_true pH; replace qH := eq_true qH; refine start_ (n := 8) (S := fun w' => w'.cell? ⟨gbB, 0, none⟩ = some (.int .i64 xD_1) ∧ w'.cell? ⟨gbB, 1, none⟩ = some (.int .i64 xE_1) ∧ w'.cell? (adC.add ((x6_1).toNat * 2)) = some (.int .i64 ((rd_T27 l0 x6_1).f0)) ∧ w'.cell? ⟨(adC.add ((x6_1).toNat * 2)).block, (adC.add ((x6_1).toNat * 2)).off + 1, none⟩ = some (.int .i64 ((rd_T27 l0 x6_1).f1))) (ds := []) (.replicate 8 fF) (by kernel_rfl) rfl rfl ⟨bcA BKB 0, bcA BKB 1, (cwA HB hwH_0), (cwA HB hwH_1)⟩ (fun hHeld => ?_); refine with_tabW MaxFunc_impl_compare.tab7 MaxFunc_impl_compare.bits7 (fun HT_ HW_ => ?_); generalize wr.drew = w16 at BKA BKB HB hxH_0 hxH_1 hHeld ⊢; refine pureA 0 (some 20) (bB 8 1) HT_ ?_; refine pureA 1 (some 21) (bB 8 3) HT_ ?_; refine pureA 2 (some 22) (bB 8 7) HT_ ?_; refine pureA 3 (some 23) (bB 8 15) HT_ ?_; refine takeA1 4 (some 24) (bB 8 31) HT_ HW_ hHeld ?_; refine takeA1 5 (some 25) (bB 8 63) HT_ HW_ hHeld ?_; refine one_ (i := 6) (N := some 26) (bB 8 127) rfl rfl (one_of HT_.out (by kernel_rfl)) (by decide) (fun K hK => ?_); refine goesT_ 20 (by rfl) Try.func37 (by kernel_rfl) rfl #[.agg #[.int .i64 ((rd_T27 l0 x6_1).f0), .int .i64 ((rd_T27 l0 x6_1).f1)], .agg #[.int .i64 xD_1, .int .i64 xE_1]] (by rfl) rfl rfl zz170 ?_; with_reducible refine (impl_compare.calls ((rd_T27 l0 x6_1).f0) ((rd_T27 l0 x6_1).f1) xD_1 xE_1 tF _ A10.out).mono ?_
        rintro e w17 ⟨rfl, hb⟩; refine ⟨_, rfl, ?_⟩; replace BKA := blkA BKA hb; replace BKB := blkA BKB hb; replace HB := Aside0.mk (below_step zz103 hb); (try clear hb); refine hK.out _ _ ⟨bcA BKB 0, bcA BKB 1, (cwA HB hwH_0), (cwA HB hwH_1)⟩ (fun hHeld => ?_); clear hK K; refine normA (some 26) ?_; refine pureA 7 (some 27) (bB 8 255) HT_ ?_; refine done_ (done_of HT_.out (by kernel_rfl)) ?_; try go_wp2
        go_roundg k1
        case measure => have := HK1.out; omega
        case rel => exact ⟨(wrap64 (x6_1 + 1)), (xD_1), (xE_1), zz246, H', ⟨by have := HK1.out; omega⟩, ⟨by (with_reducible repeat (first | refine blk_drewN ?_ _ | refine blk_drew ?_ | refine blk_alloc ?_ _)); exact BKA.out⟩, ⟨by (with_reducible repeat (first | refine blk_drewN ?_ _ | refine blk_drew ?_ | refine blk_alloc ?_ _)); exact BKB.out⟩, ⟨by repeat (first | (with_reducible first | exact HB.out | apply below_alloc | apply pw_below_drewN | apply below_drew1 | refine below_set ?_ GEA.out | refine below_set ?_ GEB.out) | exact HB.out)⟩⟩
      ·rw [if_neg c9] at H; exact absurd H (by simp)
     ·rw [if_neg c8] at H; have c8b0 : decide (x6_1 < (l0.length : Int)) = false := decide_eq_false c8; clear c8; simp only [Option.some.injEq, Prod.mk.injEq] at H; obtain ⟨rfl, rfl⟩ := H; have hnb18 := NBB_A.out; have hnc18 := NBA_B.out; obtain ⟨hcz19_0, hcz19_1, hfz19_0, hfz19_1⟩ := cz2 BKB.out; obtain ⟨hcz20_0, hcz20_1, hfz20_0, hfz20_1⟩ := cz2 BKA.out; go_wp2
      refine bodyPost_ret (results_cell_row rfl _ _ gbA 27 #[.int .i64 xD_1, .int .i64 xE_1] (0, 0) _ rfl (by (with_reducible repeat (first | refine blk_drewN ?_ _ | refine blk_drew ?_ | refine blk_alloc ?_ _)); refine blk_put (cs := #[.int .i64 xD_1, .int .i64 0]) ?_ 1 _ rfl; (with_reducible repeat (first | refine blk_drewN ?_ _ | refine blk_drew ?_ | refine blk_alloc ?_ _)); refine blk_put (cs := #[.int .i64 0, .int .i64 0]) ?_ 0 _ rfl; (with_reducible repeat (first | refine blk_drewN ?_ _ | refine blk_drew ?_ | refine blk_alloc ?_ _)); exact BKA.out) Try.underlying27 rfl (by kernel_rfl)) rfl ?_; exact ⟨zz234, zz103⟩
  ·rw [if_neg c3] at H; exact absurd H (by simp)
end Go.Proofs.Ytlggehdfigkliaa.Q
namespace Go.Proofs.Ytlggehdfigkliaa.Q
open Go.RowKit Go.Proofs.YtlggehdfigkliaaW.PrintWords Go.Proofs.YtlggehdfigkliaaW.PrintLast Go.Proofs.YtlggehdfigkliaaW.PrintMore
attribute [local go_sem] max2_int min2_int max_two min_two max_three min_three max_four min_four   -- for this text's walks alone
set_option linter.unusedVariables false
set_option linter.unusedSimpArgs false
def impl_WorstJump.f (k : Nat) (l0 : List (S57)) (l1 : List (S27)) : Option (Int × Int × Bool) := (impl_JumpsOf.f k l0 l1).bind fun btA => (if btA.2 = true then ((impl_zero.f).bind fun btB => (if btA.1.length < 8796093022208 then ((MaxFunc_impl_compare.f k (btA.1 ++ [(⟨btB.1, btB.2⟩ : S27)])).bind fun btC => (some (btC.1, btC.2, true))) else (none))) else (some (0, 0, false)))
theorem zz216 {p : Prop} (h : p := by (with_reducible repeat (first | refine blk_drewN ?_ _ | refine blk_drew ?_ | refine blk_alloc ?_ _)); exact BKA.out) : p := h
theorem zz162 {p : Prop} (h : p := by repeat (first | (with_reducible first | exact HB.out | apply below_alloc | apply pw_below_drewN | apply below_drew1 | refine below_set ?_ GEA.out) | exact HB.out)) : p := h
set_option maxHeartbeats 8000000 in
set_option maxRecDepth 100000 in
theorem impl_WorstJump.calls (k : Nat) (A0 : Option Addr) (c0 : Nat) (l0 : List (S57)) (A1 : Option Addr) (c1 : Nat) (l1 : List (S27)) (r1 : Int) (r2 : Int) (r3 : Bool) (w : World) (hr0 : Kd.C k57 w A0 l0.length l0) (hc0 : l0.length ≤ c0) (hr1 : Kd.C k27 w A1 l1.length l1) (hc1 : l1.length ≤ c1) (h : impl_WorstJump.f k l0 l1 = some (r1, r2, r3)) :
  Calls Try.prog 13 #[.slice A0 l0.length c0, .slice A1 l1.length c1] w fun e w' => e = .returned (.tuple #[.agg #[.int .i64 r1, .int .i64 r2], .bool r3]) ∧ Below w.heap.size w w' := by
 have hu27 := Try.underlying27; have HR0 := Aside0.mk hr0; have HC0 := Aside0.mk hc0; clear hr0 hc0; have HR1 := Aside0.mk hr1; have HC1 := Aside0.mk hc1; clear hr1 hc1; have HB := Aside0.mk (Below.refl w.heap.size w); have H : ((impl_JumpsOf.f k l0 l1).bind fun btB => (if btB.2 = true then ((impl_zero.f).bind fun btC => (if btB.1.length < 8796093022208 then ((MaxFunc_impl_compare.f k (btB.1 ++ [(⟨btC.1, btC.2⟩ : S27)])).bind fun btD => (some (btD.1, btD.2, true))) else (none))) else (some (0, 0, false)))) = some (r1, r2, r3) := h; clear h; replace H := Option.bind_eq_some_iff.mp H; obtain ⟨⟨tB, tE⟩, A30, H⟩ := H; replace H : (if tE = true then ((impl_zero.f).bind fun btC => (if tB.length < 8796093022208 then ((MaxFunc_impl_compare.f k (tB ++ [(⟨btC.1, btC.2⟩ : S27)])).bind fun btD => (some (btD.1, btD.2, true))) else (none))) else (some (0, 0, false))) = some (r1, r2, r3) := H; have A3 := Aside0.mk A30; clear A30; by_cases c4 : tE = true
 ·subst c4; have H1 : ((impl_zero.f).bind fun btC => (if tB.length < 8796093022208 then ((MaxFunc_impl_compare.f k (tB ++ [(⟨btC.1, btC.2⟩ : S27)])).bind fun btD => (some (btD.1, btD.2, true))) else (none))) = some (r1, r2, r3) := by rw [if_pos rfl] at H; exact H
  clear H; have H := H1; clear H1; replace H := Option.bind_eq_some_iff.mp H; obtain ⟨⟨tC, tF⟩, A50, H⟩ := H; replace H : (if tB.length < 8796093022208 then ((MaxFunc_impl_compare.f k (tB ++ [(⟨tC, tF⟩ : S27)])).bind fun btD => (some (btD.1, btD.2, true))) else (none)) = some (r1, r2, r3) := H; have A5 := Aside0.mk A50; clear A50; by_cases c6 : tB.length < 8796093022208
  ·rw [if_pos c6] at H; have LMc6 := Aside0.mk c6; clear c6; obtain ⟨yG, hyG⟩ : ∃ y_ : List (S27), y_ = (tB ++ [(⟨tC, tF⟩ : S27)]) := ⟨_, rfl⟩; replace H : ((MaxFunc_impl_compare.f k yG).bind fun btD => (some (btD.1, btD.2, true))) = some (r1, r2, r3) := by first | (rw [hyG]; with_reducible exact H) | (have H2_ := (Option.bind_some _ _).symm.trans H; rw [hyG]; with_reducible exact H2_) | (have H2_ := (Option.bind_some _ _).symm.trans H; with_reducible exact H2_) | with_reducible exact H | (rw [hyG]; exact H) | exact H
   have NyG := Aside0.mk hyG; clear hyG; replace H := Option.bind_eq_some_iff.mp H; obtain ⟨⟨tD, tH⟩, A70, H⟩ := H; replace H : (some (tD, tH, true)) = some (r1, r2, r3) := H; have A7 := Aside0.mk A70; clear A70; simp only [Option.some.injEq, Prod.mk.injEq] at H; obtain ⟨rfl, rfl, rfl⟩ := H; go_enter Try.func13, Try.ntmps13
   go_wp2_with (first | ((with_reducible refine gate_dst (N := 4) rfl ?_); refine boxE 4 #[.int .i64 0, .int .i64 0] 27 ?_; intro gbA hg w8 hbox hb; have GWA := gwA (below_size zz171) hg; have GEA := GWA; have BKA := Aside0.mk (hbox); replace HB := Aside0.mk (below_step zz171 hb); clear hb hbox hg) | ((with_reducible refine gate_callee (f := 34) rfl ?_); refine goesL_ (some 11) rfl rfl Try.func34 (by kernel_rfl) rfl #[.slice A0 l0.length c0, .slice A1 l1.length c1] rfl zz170 ?_; (with_reducible refine (impl_JumpsOf.calls k _ _ l0 _ _ l1 tB true _ ?side1 ?side2 ?side3 ?side4 A3.out).mono ?_); (case side1 => repeat (first | exact (Kd.C_below HR0.out HB.out) | (with_reducible refine Kd.C_alloc ?_ _) | (with_reducible refine Kd.C_drewN ?_ _) | (with_reducible refine Kd.C_drew ?_))); (case side2 => exact HC0.out); (case side3 => repeat (first | exact (Kd.C_below HR1.out HB.out) | (with_reducible refine Kd.C_alloc ?_ _) | (with_reducible refine Kd.C_drewN ?_ _) | (with_reducible refine Kd.C_drew ?_))); (case side4 => exact HC1.out); rintro e w9 ⟨vI, rfl, ho0, hb⟩; refine ⟨_, rfl, ?_⟩; have HOJ := Aside0.mk (Kd.R_lower (Kd.R_newB ho0 (g := gbA) (o := .cells #[.int .i64 0, .int .i64 0] 27 (0, 0)) zz216) (below_size zz162)); replace BKA := blkA BKA hb; replace HB := Aside0.mk (below_step zz162 hb); (try clear hb); (try clear ho0)) | ((with_reducible refine gate_callee (f := 36) rfl ?_); refine goesL_ (some 18) rfl rfl Try.func36 (by kernel_rfl) rfl #[] rfl zz170 ?_; (with_reducible refine (impl_zero.calls  tC tF _ A5.out).mono ?_); rintro e w10 ⟨rfl, hb⟩; refine ⟨_, rfl, ?_⟩; have n0_ := Aside0.mk (Kd.R_below (by (with_reducible repeat (first | apply Kd.R_alloc | apply Kd.R_drewN | apply Kd.R_drew)); exact HOJ.out) hb); clear HOJ; have HOJ := n0_; clear n0_; replace BKA := blkA BKA hb; replace HB := Aside0.mk (below_step zz162 hb); (try clear hb)) | ((with_reducible refine gate_builtin (b := .append) (xs := #[.tmp 17, .tmp 19]) rfl ?_); at_builtin; refine Kd.R_append k27 (w0 := w) w.heap.size rfl (.tmp 17) (.tmp 19) 32 27 (.agg #[(.int .i64 0), (.int .i64 0)]) 16 rfl Try.underlying32 info27 rfl (by decide) (by omega) vI tB (⟨tC, tF⟩ : S27) [.int .i64 tC, .int .i64 tF] (fun k_ => k_ ≠ gbA) (fun _ => False) rfl rfl ?aP (fun _ hk => hk.elim) ?aF ?aO ?aB ?aS ?aL ?_; (case aP => exact k27_mkM _ _ _ (⟨tC, tF⟩ : S27)); (case aB => exact zz162); (case aF => exact (fun k_ hk => Kd.freshB (g := gbA) (o := .cells #[.int .i64 0, .int .i64 0] 27 (0, 0)) zz216 k_ hk)); (case aO => exact (by (with_reducible repeat (first | apply Kd.R_alloc | apply Kd.R_drewN | apply Kd.R_drew)); exact Kd.R_mono HOJ.out (fun _ hk => hk.2))); (case aS => exact (below_size zz162)); (case aL => have := LMc6.out; omega); intro vK w11 ho hb hg hat; rw [← NyG.out] at ho; replace BKA := Aside0.mk (blk_grown (g := gbA) (o := .cells #[.int .i64 0, .int .i64 0] 27 (0, 0)) zz216 hg (Kd.R_away HOJ.out (fun _ hk => hk.2))); have HOL := Aside0.mk (ho); clear HOJ; replace HB := Aside0.mk (hb); clear ho hb hg hat; obtain ⟨Ao12, co12, eo12⟩ := Kd.R_slice HOL.out; subst eo12) | ((with_reducible refine gate_callee (f := 35) rfl ?_); refine goesL_ (some 21) rfl rfl Try.func35 (by kernel_rfl) rfl #[.slice Ao12 yG.length co12, .func (.func 37) #[] #[]] rfl zz170 ?_; (with_reducible refine (MaxFunc_impl_compare.calls k _ _ yG tD tH _ ?side1 ?side2 A7.out).mono ?_); (case side1 => repeat (first | exact (Kd.R_reads' HOL.out).2.2 | (with_reducible refine Kd.C_alloc ?_ _) | (with_reducible refine Kd.C_drewN ?_ _) | (with_reducible refine Kd.C_drew ?_))); (case side2 => exact (Kd.R_reads' HOL.out).2.1); rintro e w13 ⟨rfl, hb⟩; refine ⟨_, rfl, ?_⟩; have n0_ := Aside0.mk (Kd.R_below (by (with_reducible repeat (first | apply Kd.R_alloc | apply Kd.R_drewN | apply Kd.R_drew)); exact HOL.out) hb); clear HOL; have HOL := n0_; clear n0_; replace BKA := blkA BKA hb; replace HB := Aside0.mk (below_step zz162 hb); (try clear hb); obtain ⟨hcz14_0, hcz14_1, hfz14_0, hfz14_1⟩ := cz2 BKA.out))
   refine bodyPost_ret (results_ct rfl _ _ gbA 27 #[.int .i64 tD, .int .i64 tH] (0, 0) _ rfl (by (with_reducible repeat (first | refine blk_drewN ?_ _ | refine blk_drew ?_ | refine blk_alloc ?_ _)); refine blk_put (cs := #[.int .i64 tD, .int .i64 0]) ?_ 1 _ rfl; (with_reducible repeat (first | refine blk_drewN ?_ _ | refine blk_drew ?_ | refine blk_alloc ?_ _)); refine blk_put (cs := #[.int .i64 0, .int .i64 0]) ?_ 0 _ rfl; (with_reducible repeat (first | refine blk_drewN ?_ _ | refine blk_drew ?_ | refine blk_alloc ?_ _)); exact BKA.out) Try.underlying27 rfl (by kernel_rfl)) rfl ?_; exact ⟨zz234, zz162⟩
  ·rw [if_neg c6] at H; exact absurd H (by simp)
 ·replace c4 := Bool.eq_false_iff.mpr c4; subst c4; have H1 : (some (0, 0, false)) = some (r1, r2, r3) := by rw [if_neg (show ¬ (false = true) by decide)] at H; exact H
  clear H; have H := H1; clear H1; simp only [Option.some.injEq, Prod.mk.injEq] at H; obtain ⟨rfl, rfl, rfl⟩ := H; go_enter Try.func13, Try.ntmps13
  go_wp2_with (first | ((with_reducible refine gate_dst (N := 4) rfl ?_); refine boxE 4 #[.int .i64 0, .int .i64 0] 27 ?_; intro gbA hg w15 hbox hb; have GWA := gwA (below_size zz171) hg; have GEA := GWA; have BKA := Aside0.mk (hbox); replace HB := Aside0.mk (below_step zz171 hb); clear hb hbox hg) | ((with_reducible refine gate_callee (f := 34) rfl ?_); refine goesL_ (some 11) rfl rfl Try.func34 (by kernel_rfl) rfl #[.slice A0 l0.length c0, .slice A1 l1.length c1] rfl zz170 ?_; (with_reducible refine (impl_JumpsOf.calls k _ _ l0 _ _ l1 tB false _ ?side1 ?side2 ?side3 ?side4 A3.out).mono ?_); (case side1 => repeat (first | exact (Kd.C_below HR0.out HB.out) | (with_reducible refine Kd.C_alloc ?_ _) | (with_reducible refine Kd.C_drewN ?_ _) | (with_reducible refine Kd.C_drew ?_))); (case side2 => exact HC0.out); (case side3 => repeat (first | exact (Kd.C_below HR1.out HB.out) | (with_reducible refine Kd.C_alloc ?_ _) | (with_reducible refine Kd.C_drewN ?_ _) | (with_reducible refine Kd.C_drew ?_))); (case side4 => exact HC1.out); rintro e w16 ⟨vI, rfl, ho0, hb⟩; refine ⟨_, rfl, ?_⟩; have HOJ := Aside0.mk (Kd.R_lower (Kd.R_newB ho0 (g := gbA) (o := .cells #[.int .i64 0, .int .i64 0] 27 (0, 0)) zz216) (below_size zz162)); replace BKA := blkA BKA hb; replace HB := Aside0.mk (below_step zz162 hb); (try clear hb); (try clear ho0); obtain ⟨hcz17_0, hcz17_1, hfz17_0, hfz17_1⟩ := cz2 BKA.out))
  refine bodyPost_ret (results_ct rfl _ _ gbA 27 #[.int .i64 0, .int .i64 0] (0, 0) _ rfl (by (with_reducible repeat (first | refine blk_drewN ?_ _ | refine blk_drew ?_ | refine blk_alloc ?_ _)); refine blk_put (cs := #[.int .i64 0, .int .i64 0]) ?_ 1 _ rfl; (with_reducible repeat (first | refine blk_drewN ?_ _ | refine blk_drew ?_ | refine blk_alloc ?_ _)); refine blk_put (cs := #[.int .i64 0, .int .i64 0]) ?_ 0 _ rfl; (with_reducible repeat (first | refine blk_drewN ?_ _ | refine blk_drew ?_ | refine blk_alloc ?_ _)); exact BKA.out) Try.underlying27 rfl (by kernel_rfl)) rfl ?_; exact ⟨zz234, zz162⟩
def laws_eqRat.f (a0_0 : Int) (a0_1 : Int) (a1_0 : Int) (a1_1 : Int) : Option (Bool) := if a0_0 = a1_0 then (if a0_1 = a1_1 then (some true) else (some false)) else (some false)
theorem zz163 {p : Prop} (h : p := by repeat (first | (with_reducible first | exact HB.out | apply below_alloc | apply pw_below_drewN | apply below_drew1 | refine below_set ?_ GEA.out) | exact HB.out)) : p := h
theorem zz104 {p : Prop} (h : p := by repeat (first | (with_reducible first | exact HB.out | apply below_alloc | apply pw_below_drewN | apply below_drew1 | refine below_set ?_ GEA.out | refine below_set ?_ GEB.out) | exact HB.out)) : p := h
set_option maxHeartbeats 8000000 in
set_option maxRecDepth 100000 in
theorem laws_eqRat.calls (a0_0 : Int) (a0_1 : Int) (a1_0 : Int) (a1_1 : Int) (r : Bool) (w : World) (h : laws_eqRat.f a0_0 a0_1 a1_0 a1_1 = some r) :
  Calls Try.prog 14 #[.agg #[.int .i64 a0_0, .int .i64 a0_1], .agg #[.int .i64 a1_0, .int .i64 a1_1]] w fun e w' => e = .returned (.bool r) ∧ Below w.heap.size w w' := by
 have hu27 := Try.underlying27; have HB := Aside0.mk (Below.refl w.heap.size w); have H : (if a0_0 = a1_0 then (if a0_1 = a1_1 then (some true) else (some false)) else (some false)) = some r := h; clear h; by_cases c3 : a0_0 = a1_0
 ·rw [if_pos c3] at H; have c3b0 : (a0_0 == a1_0) = true := beq_iff_eq.mpr c3; have c3b1 : (a0_0 != a1_0) = false := bne_eq_false_iff_eq.mpr c3; clear c3; by_cases c4 : a0_1 = a1_1
  ·rw [if_pos c4] at H; have c4b0 : (a0_1 == a1_1) = true := beq_iff_eq.mpr c4; have c4b1 : (a0_1 != a1_1) = false := bne_eq_false_iff_eq.mpr c4; clear c4; obtain rfl := Option.some.inj H; go_enter Try.func14, Try.ntmps14
   go_wp2_with (first | ((with_reducible refine gate_dst (N := 2) rfl ?_); refine boxE 2 #[.int .i64 a0_0, .int .i64 a0_1] 27 ?_; intro gbA hg w5 hbox hb; have GWA := gwA (below_size zz171) hg; have GEA := GWA; have BKA := Aside0.mk (hbox); replace HB := Aside0.mk (below_step zz171 hb); clear hb hbox hg) | ((with_reducible refine gate_dst (N := 3) rfl ?_); refine boxE 3 #[.int .i64 a1_0, .int .i64 a1_1] 27 ?_; intro gbB hg w6 hbox hb; have GWB := gwA (below_size zz163) hg; have GEB := GWB; have NBA_B := nltA BKA hg; have NBB_A := ngtA BKA hg; replace BKA := blkA BKA hb; have BKB := Aside0.mk (hbox); replace HB := Aside0.mk (below_step zz163 hb); clear hb hbox hg; have hnb7 := NBA_B.out; have hnc7 := NBB_A.out; obtain ⟨hcz8_0, hcz8_1, hfz8_0, hfz8_1⟩ := cz2 BKA.out; obtain ⟨hcz9_0, hcz9_1, hfz9_0, hfz9_1⟩ := cz2 BKB.out))
   go_ret
   exact ⟨zz234, zz104⟩
  ·rw [if_neg c4] at H; have c4b0 : (a0_1 == a1_1) = false := beq_eq_false_iff_ne.mpr c4; have c4b1 : (a0_1 != a1_1) = true := bne_iff_ne.mpr c4; obtain rfl := Option.some.inj H; go_enter Try.func14, Try.ntmps14
   go_wp2_with (first | ((with_reducible refine gate_dst (N := 2) rfl ?_); refine boxE 2 #[.int .i64 a0_0, .int .i64 a0_1] 27 ?_; intro gbA hg w10 hbox hb; have GWA := gwA (below_size zz171) hg; have GEA := GWA; have BKA := Aside0.mk (hbox); replace HB := Aside0.mk (below_step zz171 hb); clear hb hbox hg) | ((with_reducible refine gate_dst (N := 3) rfl ?_); refine boxE 3 #[.int .i64 a1_0, .int .i64 a1_1] 27 ?_; intro gbB hg w11 hbox hb; have GWB := gwA (below_size zz163) hg; have GEB := GWB; have NBA_B := nltA BKA hg; have NBB_A := ngtA BKA hg; replace BKA := blkA BKA hb; have BKB := Aside0.mk (hbox); replace HB := Aside0.mk (below_step zz163 hb); clear hb hbox hg; have hnb12 := NBA_B.out; have hnc12 := NBB_A.out; obtain ⟨hcz13_0, hcz13_1, hfz13_0, hfz13_1⟩ := cz2 BKA.out; obtain ⟨hcz14_0, hcz14_1, hfz14_0, hfz14_1⟩ := cz2 BKB.out))
   go_ret
   exact ⟨zz234, zz104⟩
 ·rw [if_neg c3] at H; have c3b0 : (a0_0 == a1_0) = false := beq_eq_false_iff_ne.mpr c3; have c3b1 : (a0_0 != a1_0) = true := bne_iff_ne.mpr c3; obtain rfl := Option.some.inj H; go_enter Try.func14, Try.ntmps14
  go_wp2_with (first | ((with_reducible refine gate_dst (N := 2) rfl ?_); refine boxE 2 #[.int .i64 a0_0, .int .i64 a0_1] 27 ?_; intro gbA hg w15 hbox hb; have GWA := gwA (below_size zz171) hg; have GEA := GWA; have BKA := Aside0.mk (hbox); replace HB := Aside0.mk (below_step zz171 hb); clear hb hbox hg) | ((with_reducible refine gate_dst (N := 3) rfl ?_); refine boxE 3 #[.int .i64 a1_0, .int .i64 a1_1] 27 ?_; intro gbB hg w16 hbox hb; have GWB := gwA (below_size zz163) hg; have GEB := GWB; have NBA_B := nltA BKA hg; have NBB_A := ngtA BKA hg; replace BKA := blkA BKA hb; have BKB := Aside0.mk (hbox); replace HB := Aside0.mk (below_step zz163 hb); clear hb hbox hg; have hnb17 := NBA_B.out; have hnc17 := NBB_A.out; obtain ⟨hcz18_0, hcz18_1, hfz18_0, hfz18_1⟩ := cz2 BKA.out; obtain ⟨hcz19_0, hcz19_1, hfz19_0, hfz19_1⟩ := cz2 BKB.out))
  go_ret
  exact ⟨zz234, zz104⟩
def laws_eqPoint.f (a0_0 : Int) (a0_1 : Int) (a0_2 : Int) (a0_3 : Int) (a1_0 : Int) (a1_1 : Int) (a1_2 : Int) (a1_3 : Int) : Option (Bool) := (laws_eqRat.f a0_0 a0_1 a1_0 a1_1).bind fun tA => (if tA = true then ((laws_eqRat.f a0_2 a0_3 a1_2 a1_3).bind fun tB => (if tB = true then (some true) else (some false))) else (some false))
theorem zz164 {p : Prop} (h : p := by repeat (first | (with_reducible first | exact HB.out | apply below_alloc | apply pw_below_drewN | apply below_drew1 | refine below_set ?_ GEA.out) | exact HB.out)) : p := h
theorem zz105 {p : Prop} (h : p := by repeat (first | (with_reducible first | exact HB.out | apply below_alloc | apply pw_below_drewN | apply below_drew1 | refine below_set ?_ GEA.out | refine below_set ?_ GEB.out) | exact HB.out)) : p := h
set_option maxHeartbeats 8000000 in
set_option maxRecDepth 100000 in
theorem laws_eqPoint.calls (a0_0 : Int) (a0_1 : Int) (a0_2 : Int) (a0_3 : Int) (a1_0 : Int) (a1_1 : Int) (a1_2 : Int) (a1_3 : Int) (r : Bool) (w : World) (h : laws_eqPoint.f a0_0 a0_1 a0_2 a0_3 a1_0 a1_1 a1_2 a1_3 = some r) :
  Calls Try.prog 38 #[.agg #[.int .i64 a0_0, .int .i64 a0_1, .int .i64 a0_2, .int .i64 a0_3], .agg #[.int .i64 a1_0, .int .i64 a1_1, .int .i64 a1_2, .int .i64 a1_3]] w fun e w' => e = .returned (.bool r) ∧ Below w.heap.size w w' := by
 have hu57 := Try.underlying57; have hu27 := Try.underlying27; have HB := Aside0.mk (Below.refl w.heap.size w); have H : ((laws_eqRat.f a0_0 a0_1 a1_0 a1_1).bind fun tC => (if tC = true then ((laws_eqRat.f a0_2 a0_3 a1_2 a1_3).bind fun tD => (if tD = true then (some true) else (some false))) else (some false))) = some r := h; clear h; replace H := Option.bind_eq_some_iff.mp H; obtain ⟨tC, A30, H⟩ := H; replace H : (if tC = true then ((laws_eqRat.f a0_2 a0_3 a1_2 a1_3).bind fun tD => (if tD = true then (some true) else (some false))) else (some false)) = some r := H; have A3 := Aside0.mk A30; clear A30; by_cases c4 : tC = true
 ·subst c4; have H1 : ((laws_eqRat.f a0_2 a0_3 a1_2 a1_3).bind fun tD => (if tD = true then (some true) else (some false))) = some r := by rw [if_pos rfl] at H; exact H
  clear H; have H := H1; clear H1; replace H := Option.bind_eq_some_iff.mp H; obtain ⟨tD, A50, H⟩ := H; replace H : (if tD = true then (some true) else (some false)) = some r := H; have A5 := Aside0.mk A50; clear A50; by_cases c6 : tD = true
  ·subst c6; have H1 : (some true) = some r := by rw [if_pos rfl] at H; exact H
   clear H; have H := H1; clear H1; obtain rfl := Option.some.inj H; go_enter Try.func38, Try.ntmps38
   go_wp2_with (first | ((with_reducible refine gate_dst (N := 2) rfl ?_); refine boxE 2 #[.int .i64 a0_0, .int .i64 a0_1, .int .i64 a0_2, .int .i64 a0_3] 57 ?_; intro gbA hg w7 hbox hb; have GWA := gwA (below_size zz171) hg; have GEA := GWA; have BKA := Aside0.mk (hbox); replace HB := Aside0.mk (below_step zz171 hb); clear hb hbox hg) | ((with_reducible refine gate_dst (N := 3) rfl ?_); refine boxE 3 #[.int .i64 a1_0, .int .i64 a1_1, .int .i64 a1_2, .int .i64 a1_3] 57 ?_; intro gbB hg w8 hbox hb; have GWB := gwA (below_size zz164) hg; have GEB := GWB; have NBA_B := nltA BKA hg; have NBB_A := ngtA BKA hg; replace BKA := blkA BKA hb; have BKB := Aside0.mk (hbox); replace HB := Aside0.mk (below_step zz164 hb); clear hb hbox hg; have hnb9 := NBA_B.out; have hnc9 := NBB_A.out; obtain ⟨hcz10_0, hcz10_1, hcz10_2, hcz10_3, hfz10_0, hfz10_1, hfz10_2, hfz10_3⟩ := cz4 BKA.out; obtain ⟨hcz11_0, hcz11_1, hcz11_2, hcz11_3, hfz11_0, hfz11_1, hfz11_2, hfz11_3⟩ := cz4 BKB.out) | ((with_reducible refine gate_callee (f := 14) rfl ?_); refine goesL_ (some 9) rfl rfl Try.func14 (by kernel_rfl) rfl #[.agg #[.int .i64 a0_0, .int .i64 a0_1], .agg #[.int .i64 a1_0, .int .i64 a1_1]] rfl zz170 ?_; (with_reducible refine (laws_eqRat.calls a0_0 a0_1 a1_0 a1_1 true _ A3.out).mono ?_); rintro e w12 ⟨rfl, hb⟩; refine ⟨_, rfl, ?_⟩; replace BKA := blkA BKA hb; replace BKB := blkA BKB hb; replace HB := Aside0.mk (below_step zz105 hb); (try clear hb); obtain ⟨hcz13_0, hcz13_1, hcz13_2, hcz13_3, hfz13_0, hfz13_1, hfz13_2, hfz13_3⟩ := cz4 BKA.out; obtain ⟨hcz14_0, hcz14_1, hcz14_2, hcz14_3, hfz14_0, hfz14_1, hfz14_2, hfz14_3⟩ := cz4 BKB.out) | ((with_reducible refine gate_callee (f := 14) rfl ?_); refine goesL_ (some 15) rfl rfl Try.func14 (by kernel_rfl) rfl #[.agg #[.int .i64 a0_2, .int .i64 a0_3], .agg #[.int .i64 a1_2, .int .i64 a1_3]] rfl zz170 ?_; (with_reducible refine (laws_eqRat.calls a0_2 a0_3 a1_2 a1_3 true _ A5.out).mono ?_); rintro e w15 ⟨rfl, hb⟩; refine ⟨_, rfl, ?_⟩; replace BKA := blkA BKA hb; replace BKB := blkA BKB hb; replace HB := Aside0.mk (below_step zz105 hb); (try clear hb)))
   go_ret
   exact ⟨zz234, zz105⟩
  ·replace c6 := Bool.eq_false_iff.mpr c6; subst c6; have H1 : (some false) = some r := by rw [if_neg (show ¬ (false = true) by decide)] at H; exact H
   clear H; have H := H1; clear H1; obtain rfl := Option.some.inj H; go_enter Try.func38, Try.ntmps38
   go_wp2_with (first | ((with_reducible refine gate_dst (N := 2) rfl ?_); refine boxE 2 #[.int .i64 a0_0, .int .i64 a0_1, .int .i64 a0_2, .int .i64 a0_3] 57 ?_; intro gbA hg w16 hbox hb; have GWA := gwA (below_size zz171) hg; have GEA := GWA; have BKA := Aside0.mk (hbox); replace HB := Aside0.mk (below_step zz171 hb); clear hb hbox hg) | ((with_reducible refine gate_dst (N := 3) rfl ?_); refine boxE 3 #[.int .i64 a1_0, .int .i64 a1_1, .int .i64 a1_2, .int .i64 a1_3] 57 ?_; intro gbB hg w17 hbox hb; have GWB := gwA (below_size zz164) hg; have GEB := GWB; have NBA_B := nltA BKA hg; have NBB_A := ngtA BKA hg; replace BKA := blkA BKA hb; have BKB := Aside0.mk (hbox); replace HB := Aside0.mk (below_step zz164 hb); clear hb hbox hg; have hnb18 := NBA_B.out; have hnc18 := NBB_A.out; obtain ⟨hcz19_0, hcz19_1, hcz19_2, hcz19_3, hfz19_0, hfz19_1, hfz19_2, hfz19_3⟩ := cz4 BKA.out; obtain ⟨hcz20_0, hcz20_1, hcz20_2, hcz20_3, hfz20_0, hfz20_1, hfz20_2, hfz20_3⟩ := cz4 BKB.out) | ((with_reducible refine gate_callee (f := 14) rfl ?_); refine goesL_ (some 9) rfl rfl Try.func14 (by kernel_rfl) rfl #[.agg #[.int .i64 a0_0, .int .i64 a0_1], .agg #[.int .i64 a1_0, .int .i64 a1_1]] rfl zz170 ?_; (with_reducible refine (laws_eqRat.calls a0_0 a0_1 a1_0 a1_1 true _ A3.out).mono ?_); rintro e w21 ⟨rfl, hb⟩; refine ⟨_, rfl, ?_⟩; replace BKA := blkA BKA hb; replace BKB := blkA BKB hb; replace HB := Aside0.mk (below_step zz105 hb); (try clear hb); obtain ⟨hcz22_0, hcz22_1, hcz22_2, hcz22_3, hfz22_0, hfz22_1, hfz22_2, hfz22_3⟩ := cz4 BKA.out; obtain ⟨hcz23_0, hcz23_1, hcz23_2, hcz23_3, hfz23_0, hfz23_1, hfz23_2, hfz23_3⟩ := cz4 BKB.out) | ((with_reducible refine gate_callee (f := 14) rfl ?_); refine goesL_ (some 15) rfl rfl Try.func14 (by kernel_rfl) rfl #[.agg #[.int .i64 a0_2, .int .i64 a0_3], .agg #[.int .i64 a1_2, .int .i64 a1_3]] rfl zz170 ?_; (with_reducible refine (laws_eqRat.calls a0_2 a0_3 a1_2 a1_3 false _ A5.out).mono ?_); rintro e w24 ⟨rfl, hb⟩; refine ⟨_, rfl, ?_⟩; replace BKA := blkA BKA hb; replace BKB := blkA BKB hb; replace HB := Aside0.mk (below_step zz105 hb); (try clear hb)))
   go_ret
   exact ⟨zz234, zz105⟩
 ·replace c4 := Bool.eq_false_iff.mpr c4; subst c4; have H1 : (some false) = some r := by rw [if_neg (show ¬ (false = true) by decide)] at H; exact H
  clear H; have H := H1; clear H1; obtain rfl := Option.some.inj H; go_enter Try.func38, Try.ntmps38
  go_wp2_with (first | ((with_reducible refine gate_dst (N := 2) rfl ?_); refine boxE 2 #[.int .i64 a0_0, .int .i64 a0_1, .int .i64 a0_2, .int .i64 a0_3] 57 ?_; intro gbA hg w25 hbox hb; have GWA := gwA (below_size zz171) hg; have GEA := GWA; have BKA := Aside0.mk (hbox); replace HB := Aside0.mk (below_step zz171 hb); clear hb hbox hg) | ((with_reducible refine gate_dst (N := 3) rfl ?_); refine boxE 3 #[.int .i64 a1_0, .int .i64 a1_1, .int .i64 a1_2, .int .i64 a1_3] 57 ?_; intro gbB hg w26 hbox hb; have GWB := gwA (below_size zz164) hg; have GEB := GWB; have NBA_B := nltA BKA hg; have NBB_A := ngtA BKA hg; replace BKA := blkA BKA hb; have BKB := Aside0.mk (hbox); replace HB := Aside0.mk (below_step zz164 hb); clear hb hbox hg; have hnb27 := NBA_B.out; have hnc27 := NBB_A.out; obtain ⟨hcz28_0, hcz28_1, hcz28_2, hcz28_3, hfz28_0, hfz28_1, hfz28_2, hfz28_3⟩ := cz4 BKA.out; obtain ⟨hcz29_0, hcz29_1, hcz29_2, hcz29_3, hfz29_0, hfz29_1, hfz29_2, hfz29_3⟩ := cz4 BKB.out) | ((with_reducible refine gate_callee (f := 14) rfl ?_); refine goesL_ (some 9) rfl rfl Try.func14 (by kernel_rfl) rfl #[.agg #[.int .i64 a0_0, .int .i64 a0_1], .agg #[.int .i64 a1_0, .int .i64 a1_1]] rfl zz170 ?_; (with_reducible refine (laws_eqRat.calls a0_0 a0_1 a1_0 a1_1 false _ A3.out).mono ?_); rintro e w30 ⟨rfl, hb⟩; refine ⟨_, rfl, ?_⟩; replace BKA := blkA BKA hb; replace BKB := blkA BKB hb; replace HB := Aside0.mk (below_step zz105 hb); (try clear hb)))
  go_ret
  exact ⟨zz234, zz105⟩
end Go.Proofs.Ytlggehdfigkliaa.Q
namespace Go.Proofs.Ytlggehdfigkliaa.Q
open Go.RowKit Go.Proofs.YtlggehdfigkliaaW.PrintWords Go.Proofs.YtlggehdfigkliaaW.PrintLast Go.Proofs.YtlggehdfigkliaaW.PrintMore
attribute [local go_sem] max2_int min2_int max_two min_two max_three min_three max_four min_four   -- for this text's walks alone
set_option linter.unusedVariables false
set_option linter.unusedSimpArgs false
def laws_eqPointS.l0 : Nat → List (S57) → List (S57) → Int → Option (Bool)
 | 0, _, _, _ => none
 | k + 1, x0, x1, x5 => if x5 < (x0.length : Int) then (if 0 ≤ x5 then (if x5 < (x1.length : Int) then ((laws_eqPoint.f ((rd_T57 x0 x5).f0.f0) ((rd_T57 x0 x5).f0.f1) ((rd_T57 x0 x5).f1.f0) ((rd_T57 x0 x5).f1.f1) ((rd_T57 x1 x5).f0.f0) ((rd_T57 x1 x5).f0.f1) ((rd_T57 x1 x5).f1.f0) ((rd_T57 x1 x5).f1.f1)).bind fun tA => (if tA = true then (laws_eqPointS.l0 k x0 x1 (wrap64 (x5 + 1))) else (some false))) else (none)) else (none)) else (some true)
def laws_eqPointS.f (k : Nat) (l0 : List (S57)) (l1 : List (S57)) : Option (Bool) := if (l0.length : Int) = (l1.length : Int) then (laws_eqPointS.l0 k l0 l1 0) else (some false)
def laws_eqPointS.T6 : Bool × List (List Nat × List Nat) := (true, [([], []), ([], []), ([0, 1], [0, 1]), ([2], [2]), ([], []), ([], []), ([4, 5], [4, 5]), ([6], [6]), ([3, 7], [3, 7]), ([8], [8])])
def laws_eqPointS.B6 : List Nat := [0, 0, 3, 7, 0, 0, 48, 112, 255, 511]
theorem laws_eqPointS.tab6 : rtab .any (opsOf Try.f15 6) = laws_eqPointS.T6 := by kernel_rfl
theorem laws_eqPointS.bits6 : waitsOk laws_eqPointS.T6.2 laws_eqPointS.B6 = true := by kernel_rfl
set_option maxHeartbeats 8000000 in
set_option maxRecDepth 100000 in
theorem laws_eqPointS.calls (k : Nat) (A0 : Option Addr) (c0 : Nat) (l0 : List (S57)) (A1 : Option Addr) (c1 : Nat) (l1 : List (S57)) (r : Bool) (w : World) (hr0 : Kd.C k57 w A0 l0.length l0) (hc0 : l0.length ≤ c0) (hr1 : Kd.C k57 w A1 l1.length l1) (hc1 : l1.length ≤ c1) (h : laws_eqPointS.f k l0 l1 = some r) :
  Calls Try.prog 15 #[.slice A0 l0.length c0, .slice A1 l1.length c1] w fun e w' => e = .returned (.bool r) ∧ Below w.heap.size w w' := by
 have hu57 := Try.underlying57; have HR0 := Aside0.mk hr0; have HC0 := Aside0.mk hc0; clear hr0 hc0; have HR1 := Aside0.mk hr1; have HC1 := Aside0.mk hc1; clear hr1 hc1; have HB := Aside0.mk (Below.refl w.heap.size w); have H : (if (l0.length : Int) = (l1.length : Int) then (laws_eqPointS.l0 k l0 l1 0) else (some false)) = some r := h; clear h; by_cases c3 : (l0.length : Int) = (l1.length : Int)
 ·rw [if_pos c3] at H; have c3b0 : ((l0.length : Int) == (l1.length : Int)) = true := beq_iff_eq.mpr c3; have c3b1 : ((l0.length : Int) != (l1.length : Int)) = false := bne_eq_false_iff_eq.mpr c3; have c3b2 : (l0.length == l1.length) = true := by first | simpa using c3 | (simp at c3 ⊢; omega)
  clear c3; have H' := Aside0.mk H; clear H; go_enter Try.func15, Try.ntmps15
  go_wp2
  go_loopg [5] k (fun kq v5 w' => ∃ (x5_1 : Int), v5 = .int .i64 x5_1 ∧ Aside0 (laws_eqPointS.l0 kq l0 l1 x5_1 = some r) ∧ Aside0 (kq ≤ k) ∧ Aside0 (Below w.heap.size w w'))
  case atStart => exact ⟨(0), zz246, H', ⟨Nat.le_refl _⟩, ⟨by repeat (first | (with_reducible first | exact HB.out | apply below_alloc | apply pw_below_drewN | apply below_drew1) | exact HB.out)⟩⟩
  case round =>
   clear H'; try clear c1
   try clear p2
   try clear c3
   try clear c3b0
   try clear c3b1
   try clear c3b2
   obtain ⟨x5_1, rfl, HA, HK1, HB⟩ := hrel; cases gk with
   | zero => exact absurd HA.out (by simp [laws_eqPointS.l0])
   | succ k1 =>
    have H := HA.out; clear HA; simp only [laws_eqPointS.l0] at H; by_cases c4 : x5_1 < (l0.length : Int)
    ·rw [if_pos c4] at H; have c4b0 : decide (x5_1 < (l0.length : Int)) = true := decide_eq_true c4; clear c4; by_cases c5 : 0 ≤ x5_1
     ·rw [if_pos c5] at H; have c5b0 : decide (0 ≤ x5_1) = true := decide_eq_true c5; clear c5; by_cases c6 : x5_1 < (l1.length : Int)
      ·rw [if_pos c6] at H; have c6b0 : decide (x5_1 < (l1.length : Int)) = true := decide_eq_true c6; clear c6; replace H := Option.bind_eq_some_iff.mp H; obtain ⟨tA, A70, H⟩ := H; replace H : (if tA = true then (laws_eqPointS.l0 k1 l0 l1 (wrap64 (x5_1 + 1))) else (some false)) = some r := H; have A7 := Aside0.mk A70; clear A70; by_cases c8 : tA = true
       ·subst c8; have H1 : (laws_eqPointS.l0 k1 l0 l1 (wrap64 (x5_1 + 1))) = some r := by rw [if_pos rfl] at H; exact H
        clear H; have H := H1; clear H1; have H' := Aside0.mk H; clear H; try go_wp2
        replace HB := Aside0.mk (below_drew1 HB.out); have pB : 0 ≤ (x5_1 : Int) := of_decide_eq_true zz245; have qB : x5_1 < (l0.length : Int) := of_decide_eq_true zz245; obtain ⟨adB, eB, hxB_0, hxB_1, hxB_2, hxB_3⟩ := at_T57 HR0.out x5_1 pB qB; have hwB_3 := hxB_3; have hwB_2 := hxB_2; have hwB_1 := hxB_1; have hwB_0 := hxB_0; cases eB
        replace hxB_0 := cwA HB hxB_0; replace hxB_1 := cwA HB hxB_1; replace hxB_2 := cwA HB hxB_2; replace hxB_3 := cwA HB hxB_3; replace pB := eq_true pB; replace qB := eq_true qB; have pC : 0 ≤ (x5_1 : Int) := of_decide_eq_true zz245; have qC : x5_1 < (l1.length : Int) := of_decide_eq_true zz245; obtain ⟨adC, eC, hxC_0, hxC_1, hxC_2, hxC_3⟩ := at_T57 HR1.out x5_1 pC qC; have hwC_3 := hxC_3; have hwC_2 := hxC_2; have hwC_1 := hxC_1; have hwC_0 := hxC_0; cases eC
        replace hxC_0 := cwA HB hxC_0; replace hxC_1 := cwA HB hxC_1; replace hxC_2 := cwA HB hxC_2; replace hxC_3 := cwA HB hxC_3; replace pC := eq_true pC; replace qC := eq_true qC; refine start_ (n := 10) (S := fun w' => w'.cell? (adB.add ((x5_1).toNat * 4)) = some (.int .i64 ((rd_T57 l0 x5_1).f0.f0)) ∧ w'.cell? ⟨(adB.add ((x5_1).toNat * 4)).block, (adB.add ((x5_1).toNat * 4)).off + 1, none⟩ = some (.int .i64 ((rd_T57 l0 x5_1).f0.f1)) ∧ w'.cell? ⟨(adB.add ((x5_1).toNat * 4)).block, (adB.add ((x5_1).toNat * 4)).off + 2, none⟩ = some (.int .i64 ((rd_T57 l0 x5_1).f1.f0)) ∧ w'.cell? ⟨(adB.add ((x5_1).toNat * 4)).block, (adB.add ((x5_1).toNat * 4)).off + 3, none⟩ = some (.int .i64 ((rd_T57 l0 x5_1).f1.f1)) ∧ w'.cell? (adC.add ((x5_1).toNat * 4)) = some (.int .i64 ((rd_T57 l1 x5_1).f0.f0)) ∧ w'.cell? ⟨(adC.add ((x5_1).toNat * 4)).block, (adC.add ((x5_1).toNat * 4)).off + 1, none⟩ = some (.int .i64 ((rd_T57 l1 x5_1).f0.f1)) ∧ w'.cell? ⟨(adC.add ((x5_1).toNat * 4)).block, (adC.add ((x5_1).toNat * 4)).off + 2, none⟩ = some (.int .i64 ((rd_T57 l1 x5_1).f1.f0)) ∧ w'.cell? ⟨(adC.add ((x5_1).toNat * 4)).block, (adC.add ((x5_1).toNat * 4)).off + 3, none⟩ = some (.int .i64 ((rd_T57 l1 x5_1).f1.f1))) (ds := []) (.replicate 10 fF) (by kernel_rfl) rfl rfl ⟨(cwA HB hwB_0), (cwA HB hwB_1), (cwA HB hwB_2), (cwA HB hwB_3), (cwA HB hwC_0), (cwA HB hwC_1), (cwA HB hwC_2), (cwA HB hwC_3)⟩ (fun hHeld => ?_); refine with_tabW laws_eqPointS.tab6 laws_eqPointS.bits6 (fun HT_ HW_ => ?_); generalize wr.drew = w9 at HB hxB_0 hxB_1 hxB_2 hxB_3 hxC_0 hxC_1 hxC_2 hxC_3 hHeld ⊢; refine pureA 0 (some 17) (bB 10 1) HT_ ?_; refine pureA 1 (some 18) (bB 10 3) HT_ ?_; refine pureA 2 (some 19) (bB 10 7) HT_ ?_; refine pureA 4 (some 21) (bB 10 23) HT_ ?_; refine pureA 5 (some 22) (bB 10 55) HT_ ?_; refine pureA 6 (some 23) (bB 10 119) HT_ ?_; refine takeA0 3 (some 20) (bB 10 127) HT_ HW_ hHeld ?_; refine takeA0 7 (some 24) (bB 10 255) HT_ HW_ hHeld ?_; refine one_ (i := 8) (N := some 25) (bB 10 511) rfl rfl (one_of HT_.out (by kernel_rfl)) (by decide) (fun K hK => ?_); refine goes_ Try.func38 (by kernel_rfl) rfl #[.agg #[.int .i64 ((rd_T57 l0 x5_1).f0.f0), .int .i64 ((rd_T57 l0 x5_1).f0.f1), .int .i64 ((rd_T57 l0 x5_1).f1.f0), .int .i64 ((rd_T57 l0 x5_1).f1.f1)], .agg #[.int .i64 ((rd_T57 l1 x5_1).f0.f0), .int .i64 ((rd_T57 l1 x5_1).f0.f1), .int .i64 ((rd_T57 l1 x5_1).f1.f0), .int .i64 ((rd_T57 l1 x5_1).f1.f1)]] (by rfl) rfl rfl zz170 ?_; with_reducible refine (laws_eqPoint.calls ((rd_T57 l0 x5_1).f0.f0) ((rd_T57 l0 x5_1).f0.f1) ((rd_T57 l0 x5_1).f1.f0) ((rd_T57 l0 x5_1).f1.f1) ((rd_T57 l1 x5_1).f0.f0) ((rd_T57 l1 x5_1).f0.f1) ((rd_T57 l1 x5_1).f1.f0) ((rd_T57 l1 x5_1).f1.f1) true _ A7.out).mono ?_
        rintro e w10 ⟨rfl, hb⟩; refine ⟨_, rfl, ?_⟩; replace HB := Aside0.mk (below_step zz171 hb); (try clear hb); refine hK.out _ _ ⟨(cwA HB hwB_0), (cwA HB hwB_1), (cwA HB hwB_2), (cwA HB hwB_3), (cwA HB hwC_0), (cwA HB hwC_1), (cwA HB hwC_2), (cwA HB hwC_3)⟩ (fun hHeld => ?_); clear hK K; refine normA (some 25) ?_; refine pureA 9 (some 26) (bB 10 1023) HT_ ?_; refine done_ (done_of HT_.out (by kernel_rfl)) ?_; try go_wp2
        go_roundg k1
        case measure => have := HK1.out; omega
        case rel => exact ⟨(wrap64 (x5_1 + 1)), zz246, H', ⟨by have := HK1.out; omega⟩, ⟨by repeat (first | (with_reducible first | exact HB.out | apply below_alloc | apply pw_below_drewN | apply below_drew1) | exact HB.out)⟩⟩
       ·replace c8 := Bool.eq_false_iff.mpr c8; subst c8; have H1 : (some false) = some r := by rw [if_neg (show ¬ (false = true) by decide)] at H; exact H
        clear H; have H := H1; clear H1; obtain rfl := Option.some.inj H; try go_wp2
        replace HB := Aside0.mk (below_drew1 HB.out); have pB : 0 ≤ (x5_1 : Int) := of_decide_eq_true zz245; have qB : x5_1 < (l0.length : Int) := of_decide_eq_true zz245; obtain ⟨adB, eB, hxB_0, hxB_1, hxB_2, hxB_3⟩ := at_T57 HR0.out x5_1 pB qB; have hwB_3 := hxB_3; have hwB_2 := hxB_2; have hwB_1 := hxB_1; have hwB_0 := hxB_0; cases eB
        replace hxB_0 := cwA HB hxB_0; replace hxB_1 := cwA HB hxB_1; replace hxB_2 := cwA HB hxB_2; replace hxB_3 := cwA HB hxB_3; replace pB := eq_true pB; replace qB := eq_true qB; have pC : 0 ≤ (x5_1 : Int) := of_decide_eq_true zz245; have qC : x5_1 < (l1.length : Int) := of_decide_eq_true zz245; obtain ⟨adC, eC, hxC_0, hxC_1, hxC_2, hxC_3⟩ := at_T57 HR1.out x5_1 pC qC; have hwC_3 := hxC_3; have hwC_2 := hxC_2; have hwC_1 := hxC_1; have hwC_0 := hxC_0; cases eC
        replace hxC_0 := cwA HB hxC_0; replace hxC_1 := cwA HB hxC_1; replace hxC_2 := cwA HB hxC_2; replace hxC_3 := cwA HB hxC_3; replace pC := eq_true pC; replace qC := eq_true qC; refine start_ (n := 10) (S := fun w' => w'.cell? (adB.add ((x5_1).toNat * 4)) = some (.int .i64 ((rd_T57 l0 x5_1).f0.f0)) ∧ w'.cell? ⟨(adB.add ((x5_1).toNat * 4)).block, (adB.add ((x5_1).toNat * 4)).off + 1, none⟩ = some (.int .i64 ((rd_T57 l0 x5_1).f0.f1)) ∧ w'.cell? ⟨(adB.add ((x5_1).toNat * 4)).block, (adB.add ((x5_1).toNat * 4)).off + 2, none⟩ = some (.int .i64 ((rd_T57 l0 x5_1).f1.f0)) ∧ w'.cell? ⟨(adB.add ((x5_1).toNat * 4)).block, (adB.add ((x5_1).toNat * 4)).off + 3, none⟩ = some (.int .i64 ((rd_T57 l0 x5_1).f1.f1)) ∧ w'.cell? (adC.add ((x5_1).toNat * 4)) = some (.int .i64 ((rd_T57 l1 x5_1).f0.f0)) ∧ w'.cell? ⟨(adC.add ((x5_1).toNat * 4)).block, (adC.add ((x5_1).toNat * 4)).off + 1, none⟩ = some (.int .i64 ((rd_T57 l1 x5_1).f0.f1)) ∧ w'.cell? ⟨(adC.add ((x5_1).toNat * 4)).block, (adC.add ((x5_1).toNat * 4)).off + 2, none⟩ = some (.int .i64 ((rd_T57 l1 x5_1).f1.f0)) ∧ w'.cell? ⟨(adC.add ((x5_1).toNat * 4)).block, (adC.add ((x5_1).toNat * 4)).off + 3, none⟩ = some (.int .i64 ((rd_T57 l1 x5_1).f1.f1))) (ds := []) (.replicate 10 fF) (by kernel_rfl) rfl rfl ⟨(cwA HB hwB_0), (cwA HB hwB_1), (cwA HB hwB_2), (cwA HB hwB_3), (cwA HB hwC_0), (cwA HB hwC_1), (cwA HB hwC_2), (cwA HB hwC_3)⟩ (fun hHeld => ?_); refine with_tabW laws_eqPointS.tab6 laws_eqPointS.bits6 (fun HT_ HW_ => ?_); generalize wr.drew = w11 at HB hxB_0 hxB_1 hxB_2 hxB_3 hxC_0 hxC_1 hxC_2 hxC_3 hHeld ⊢; refine pureA 0 (some 17) (bB 10 1) HT_ ?_; refine pureA 1 (some 18) (bB 10 3) HT_ ?_; refine pureA 2 (some 19) (bB 10 7) HT_ ?_; refine pureA 4 (some 21) (bB 10 23) HT_ ?_; refine pureA 5 (some 22) (bB 10 55) HT_ ?_; refine pureA 6 (some 23) (bB 10 119) HT_ ?_; refine takeA0 3 (some 20) (bB 10 127) HT_ HW_ hHeld ?_; refine takeA0 7 (some 24) (bB 10 255) HT_ HW_ hHeld ?_; refine one_ (i := 8) (N := some 25) (bB 10 511) rfl rfl (one_of HT_.out (by kernel_rfl)) (by decide) (fun K hK => ?_); refine goes_ Try.func38 (by kernel_rfl) rfl #[.agg #[.int .i64 ((rd_T57 l0 x5_1).f0.f0), .int .i64 ((rd_T57 l0 x5_1).f0.f1), .int .i64 ((rd_T57 l0 x5_1).f1.f0), .int .i64 ((rd_T57 l0 x5_1).f1.f1)], .agg #[.int .i64 ((rd_T57 l1 x5_1).f0.f0), .int .i64 ((rd_T57 l1 x5_1).f0.f1), .int .i64 ((rd_T57 l1 x5_1).f1.f0), .int .i64 ((rd_T57 l1 x5_1).f1.f1)]] (by rfl) rfl rfl zz170 ?_; with_reducible refine (laws_eqPoint.calls ((rd_T57 l0 x5_1).f0.f0) ((rd_T57 l0 x5_1).f0.f1) ((rd_T57 l0 x5_1).f1.f0) ((rd_T57 l0 x5_1).f1.f1) ((rd_T57 l1 x5_1).f0.f0) ((rd_T57 l1 x5_1).f0.f1) ((rd_T57 l1 x5_1).f1.f0) ((rd_T57 l1 x5_1).f1.f1) false _ A7.out).mono ?_
        rintro e w12 ⟨rfl, hb⟩; refine ⟨_, rfl, ?_⟩; replace HB := Aside0.mk (below_step zz171 hb); (try clear hb); refine hK.out _ _ ⟨(cwA HB hwB_0), (cwA HB hwB_1), (cwA HB hwB_2), (cwA HB hwB_3), (cwA HB hwC_0), (cwA HB hwC_1), (cwA HB hwC_2), (cwA HB hwC_3)⟩ (fun hHeld => ?_); clear hK K; refine normA (some 25) ?_; refine pureA 9 (some 26) (bB 10 1023) HT_ ?_; refine done_ (done_of HT_.out (by kernel_rfl)) ?_; try go_wp2
        go_ret
        exact ⟨zz234, zz171⟩
      ·rw [if_neg c6] at H; exact absurd H (by simp)
     ·rw [if_neg c5] at H; exact absurd H (by simp)
    ·rw [if_neg c4] at H; have c4b0 : decide (x5_1 < (l0.length : Int)) = false := decide_eq_false c4; clear c4; obtain rfl := Option.some.inj H; go_wp2
     go_ret
     exact ⟨zz234, zz171⟩
 ·rw [if_neg c3] at H; have c3b0 : ((l0.length : Int) == (l1.length : Int)) = false := beq_eq_false_iff_ne.mpr c3; have c3b1 : ((l0.length : Int) != (l1.length : Int)) = true := bne_iff_ne.mpr c3; have c3b2 : (l0.length == l1.length) = false := by first | simpa using c3 | (simp at c3 ⊢; omega)
  obtain rfl := Option.some.inj H; go_enter Try.func15, Try.ntmps15
  go_wp2
  go_ret
  exact ⟨zz234, zz171⟩
end Go.Proofs.Ytlggehdfigkliaa.Q
namespace Go.Proofs.Ytlggehdfigkliaa.Q
open Go.RowKit Go.Proofs.YtlggehdfigkliaaW.PrintWords Go.Proofs.YtlggehdfigkliaaW.PrintLast Go.Proofs.YtlggehdfigkliaaW.PrintMore
attribute [local go_sem] max2_int min2_int max_two min_two max_three min_three max_four min_four   -- for this text's walks alone
set_option linter.unusedVariables false
set_option linter.unusedSimpArgs false
def laws_eqRatS.l0 : Nat → List (S27) → List (S27) → Int → Option (Bool)
 | 0, _, _, _ => none
 | k + 1, x0, x1, x5 => if x5 < (x0.length : Int) then (if 0 ≤ x5 then (if x5 < (x1.length : Int) then ((laws_eqRat.f ((rd_T27 x0 x5).f0) ((rd_T27 x0 x5).f1) ((rd_T27 x1 x5).f0) ((rd_T27 x1 x5).f1)).bind fun tA => (if tA = true then (laws_eqRatS.l0 k x0 x1 (wrap64 (x5 + 1))) else (some false))) else (none)) else (none)) else (some true)
def laws_eqRatS.f (k : Nat) (l0 : List (S27)) (l1 : List (S27)) : Option (Bool) := if (l0.length : Int) = (l1.length : Int) then (laws_eqRatS.l0 k l0 l1 0) else (some false)
def laws_eqRatS.T6 : Bool × List (List Nat × List Nat) := (true, [([], []), ([], []), ([0, 1], [0, 1]), ([2], [2]), ([], []), ([], []), ([4, 5], [4, 5]), ([6], [6]), ([3, 7], [3, 7]), ([8], [8])])
def laws_eqRatS.B6 : List Nat := [0, 0, 3, 7, 0, 0, 48, 112, 255, 511]
theorem laws_eqRatS.tab6 : rtab .any (opsOf Try.f16 6) = laws_eqRatS.T6 := by kernel_rfl
theorem laws_eqRatS.bits6 : waitsOk laws_eqRatS.T6.2 laws_eqRatS.B6 = true := by kernel_rfl
set_option maxHeartbeats 8000000 in
set_option maxRecDepth 100000 in
theorem laws_eqRatS.calls (k : Nat) (A0 : Option Addr) (c0 : Nat) (l0 : List (S27)) (A1 : Option Addr) (c1 : Nat) (l1 : List (S27)) (r : Bool) (w : World) (hr0 : Kd.C k27 w A0 l0.length l0) (hc0 : l0.length ≤ c0) (hr1 : Kd.C k27 w A1 l1.length l1) (hc1 : l1.length ≤ c1) (h : laws_eqRatS.f k l0 l1 = some r) :
  Calls Try.prog 16 #[.slice A0 l0.length c0, .slice A1 l1.length c1] w fun e w' => e = .returned (.bool r) ∧ Below w.heap.size w w' := by
 have hu27 := Try.underlying27; have HR0 := Aside0.mk hr0; have HC0 := Aside0.mk hc0; clear hr0 hc0; have HR1 := Aside0.mk hr1; have HC1 := Aside0.mk hc1; clear hr1 hc1; have HB := Aside0.mk (Below.refl w.heap.size w); have H : (if (l0.length : Int) = (l1.length : Int) then (laws_eqRatS.l0 k l0 l1 0) else (some false)) = some r := h; clear h; by_cases c3 : (l0.length : Int) = (l1.length : Int)
 ·rw [if_pos c3] at H; have c3b0 : ((l0.length : Int) == (l1.length : Int)) = true := beq_iff_eq.mpr c3; have c3b1 : ((l0.length : Int) != (l1.length : Int)) = false := bne_eq_false_iff_eq.mpr c3; have c3b2 : (l0.length == l1.length) = true := by first | simpa using c3 | (simp at c3 ⊢; omega)
  clear c3; have H' := Aside0.mk H; clear H; go_enter Try.func16, Try.ntmps16
  go_wp2
  go_loopg [5] k (fun kq v5 w' => ∃ (x5_1 : Int), v5 = .int .i64 x5_1 ∧ Aside0 (laws_eqRatS.l0 kq l0 l1 x5_1 = some r) ∧ Aside0 (kq ≤ k) ∧ Aside0 (Below w.heap.size w w'))
  case atStart => exact ⟨(0), zz246, H', ⟨Nat.le_refl _⟩, ⟨by repeat (first | (with_reducible first | exact HB.out | apply below_alloc | apply pw_below_drewN | apply below_drew1) | exact HB.out)⟩⟩
  case round =>
   clear H'; try clear c1
   try clear p2
   try clear c3
   try clear c3b0
   try clear c3b1
   try clear c3b2
   obtain ⟨x5_1, rfl, HA, HK1, HB⟩ := hrel; cases gk with
   | zero => exact absurd HA.out (by simp [laws_eqRatS.l0])
   | succ k1 =>
    have H := HA.out; clear HA; simp only [laws_eqRatS.l0] at H; by_cases c4 : x5_1 < (l0.length : Int)
    ·rw [if_pos c4] at H; have c4b0 : decide (x5_1 < (l0.length : Int)) = true := decide_eq_true c4; clear c4; by_cases c5 : 0 ≤ x5_1
     ·rw [if_pos c5] at H; have c5b0 : decide (0 ≤ x5_1) = true := decide_eq_true c5; clear c5; by_cases c6 : x5_1 < (l1.length : Int)
      ·rw [if_pos c6] at H; have c6b0 : decide (x5_1 < (l1.length : Int)) = true := decide_eq_true c6; clear c6; replace H := Option.bind_eq_some_iff.mp H; obtain ⟨tA, A70, H⟩ := H; replace H : (if tA = true then (laws_eqRatS.l0 k1 l0 l1 (wrap64 (x5_1 + 1))) else (some false)) = some r := H; have A7 := Aside0.mk A70; clear A70; by_cases c8 : tA = true
       ·subst c8; have H1 : (laws_eqRatS.l0 k1 l0 l1 (wrap64 (x5_1 + 1))) = some r := by rw [if_pos rfl] at H; exact H
        clear H; have H := H1; clear H1; have H' := Aside0.mk H; clear H; try go_wp2
        replace HB := Aside0.mk (below_drew1 HB.out); have pB : 0 ≤ (x5_1 : Int) := of_decide_eq_true zz245; have qB : x5_1 < (l0.length : Int) := of_decide_eq_true zz245; obtain ⟨adB, eB, hxB_0, hxB_1⟩ := at_T27 HR0.out x5_1 pB qB; have hwB_1 := hxB_1; have hwB_0 := hxB_0; cases eB
        replace hxB_0 := cwA HB hxB_0; replace hxB_1 := cwA HB hxB_1; replace pB := eq_true pB; replace qB := eq_true qB; have pC : 0 ≤ (x5_1 : Int) := of_decide_eq_true zz245; have qC : x5_1 < (l1.length : Int) := of_decide_eq_true zz245; obtain ⟨adC, eC, hxC_0, hxC_1⟩ := at_T27 HR1.out x5_1 pC qC; have hwC_1 := hxC_1; have hwC_0 := hxC_0; cases eC
        replace hxC_0 := cwA HB hxC_0; replace hxC_1 := cwA HB hxC_1; replace pC := eq_true pC; replace qC := eq_true qC; refine start_ (n := 10) (S := fun w' => w'.cell? (adB.add ((x5_1).toNat * 2)) = some (.int .i64 ((rd_T27 l0 x5_1).f0)) ∧ w'.cell? ⟨(adB.add ((x5_1).toNat * 2)).block, (adB.add ((x5_1).toNat * 2)).off + 1, none⟩ = some (.int .i64 ((rd_T27 l0 x5_1).f1)) ∧ w'.cell? (adC.add ((x5_1).toNat * 2)) = some (.int .i64 ((rd_T27 l1 x5_1).f0)) ∧ w'.cell? ⟨(adC.add ((x5_1).toNat * 2)).block, (adC.add ((x5_1).toNat * 2)).off + 1, none⟩ = some (.int .i64 ((rd_T27 l1 x5_1).f1))) (ds := []) (.replicate 10 fF) (by kernel_rfl) rfl rfl ⟨(cwA HB hwB_0), (cwA HB hwB_1), (cwA HB hwC_0), (cwA HB hwC_1)⟩ (fun hHeld => ?_); refine with_tabW laws_eqRatS.tab6 laws_eqRatS.bits6 (fun HT_ HW_ => ?_); generalize wr.drew = w9 at HB hxB_0 hxB_1 hxC_0 hxC_1 hHeld ⊢; refine pureA 0 (some 17) (bB 10 1) HT_ ?_; refine pureA 1 (some 18) (bB 10 3) HT_ ?_; refine pureA 2 (some 19) (bB 10 7) HT_ ?_; refine pureA 4 (some 21) (bB 10 23) HT_ ?_; refine pureA 5 (some 22) (bB 10 55) HT_ ?_; refine pureA 6 (some 23) (bB 10 119) HT_ ?_; refine takeA1 3 (some 20) (bB 10 127) HT_ HW_ hHeld ?_; refine takeA1 7 (some 24) (bB 10 255) HT_ HW_ hHeld ?_; refine one_ (i := 8) (N := some 25) (bB 10 511) rfl rfl (one_of HT_.out (by kernel_rfl)) (by decide) (fun K hK => ?_); refine goes_ Try.func14 (by kernel_rfl) rfl #[.agg #[.int .i64 ((rd_T27 l0 x5_1).f0), .int .i64 ((rd_T27 l0 x5_1).f1)], .agg #[.int .i64 ((rd_T27 l1 x5_1).f0), .int .i64 ((rd_T27 l1 x5_1).f1)]] (by rfl) rfl rfl zz170 ?_; with_reducible refine (laws_eqRat.calls ((rd_T27 l0 x5_1).f0) ((rd_T27 l0 x5_1).f1) ((rd_T27 l1 x5_1).f0) ((rd_T27 l1 x5_1).f1) true _ A7.out).mono ?_
        rintro e w10 ⟨rfl, hb⟩; refine ⟨_, rfl, ?_⟩; replace HB := Aside0.mk (below_step zz171 hb); (try clear hb); refine hK.out _ _ ⟨(cwA HB hwB_0), (cwA HB hwB_1), (cwA HB hwC_0), (cwA HB hwC_1)⟩ (fun hHeld => ?_); clear hK K; refine normA (some 25) ?_; refine pureA 9 (some 26) (bB 10 1023) HT_ ?_; refine done_ (done_of HT_.out (by kernel_rfl)) ?_; try go_wp2
        go_roundg k1
        case measure => have := HK1.out; omega
        case rel => exact ⟨(wrap64 (x5_1 + 1)), zz246, H', ⟨by have := HK1.out; omega⟩, ⟨by repeat (first | (with_reducible first | exact HB.out | apply below_alloc | apply pw_below_drewN | apply below_drew1) | exact HB.out)⟩⟩
       ·replace c8 := Bool.eq_false_iff.mpr c8; subst c8; have H1 : (some false) = some r := by rw [if_neg (show ¬ (false = true) by decide)] at H; exact H
        clear H; have H := H1; clear H1; obtain rfl := Option.some.inj H; try go_wp2
        replace HB := Aside0.mk (below_drew1 HB.out); have pB : 0 ≤ (x5_1 : Int) := of_decide_eq_true zz245; have qB : x5_1 < (l0.length : Int) := of_decide_eq_true zz245; obtain ⟨adB, eB, hxB_0, hxB_1⟩ := at_T27 HR0.out x5_1 pB qB; have hwB_1 := hxB_1; have hwB_0 := hxB_0; cases eB
        replace hxB_0 := cwA HB hxB_0; replace hxB_1 := cwA HB hxB_1; replace pB := eq_true pB; replace qB := eq_true qB; have pC : 0 ≤ (x5_1 : Int) := of_decide_eq_true zz245; have qC : x5_1 < (l1.length : Int) := of_decide_eq_true zz245; obtain ⟨adC, eC, hxC_0, hxC_1⟩ := at_T27 HR1.out x5_1 pC qC; have hwC_1 := hxC_1; have hwC_0 := hxC_0; cases eC
        replace hxC_0 := cwA HB hxC_0; replace hxC_1 := cwA HB hxC_1; replace pC := eq_true pC; replace qC := eq_true qC; refine start_ (n := 10) (S := fun w' => w'.cell? (adB.add ((x5_1).toNat * 2)) = some (.int .i64 ((rd_T27 l0 x5_1).f0)) ∧ w'.cell? ⟨(adB.add ((x5_1).toNat * 2)).block, (adB.add ((x5_1).toNat * 2)).off + 1, none⟩ = some (.int .i64 ((rd_T27 l0 x5_1).f1)) ∧ w'.cell? (adC.add ((x5_1).toNat * 2)) = some (.int .i64 ((rd_T27 l1 x5_1).f0)) ∧ w'.cell? ⟨(adC.add ((x5_1).toNat * 2)).block, (adC.add ((x5_1).toNat * 2)).off + 1, none⟩ = some (.int .i64 ((rd_T27 l1 x5_1).f1))) (ds := []) (.replicate 10 fF) (by kernel_rfl) rfl rfl ⟨(cwA HB hwB_0), (cwA HB hwB_1), (cwA HB hwC_0), (cwA HB hwC_1)⟩ (fun hHeld => ?_); refine with_tabW laws_eqRatS.tab6 laws_eqRatS.bits6 (fun HT_ HW_ => ?_); generalize wr.drew = w11 at HB hxB_0 hxB_1 hxC_0 hxC_1 hHeld ⊢; refine pureA 0 (some 17) (bB 10 1) HT_ ?_; refine pureA 1 (some 18) (bB 10 3) HT_ ?_; refine pureA 2 (some 19) (bB 10 7) HT_ ?_; refine pureA 4 (some 21) (bB 10 23) HT_ ?_; refine pureA 5 (some 22) (bB 10 55) HT_ ?_; refine pureA 6 (some 23) (bB 10 119) HT_ ?_; refine takeA1 3 (some 20) (bB 10 127) HT_ HW_ hHeld ?_; refine takeA1 7 (some 24) (bB 10 255) HT_ HW_ hHeld ?_; refine one_ (i := 8) (N := some 25) (bB 10 511) rfl rfl (one_of HT_.out (by kernel_rfl)) (by decide) (fun K hK => ?_); refine goes_ Try.func14 (by kernel_rfl) rfl #[.agg #[.int .i64 ((rd_T27 l0 x5_1).f0), .int .i64 ((rd_T27 l0 x5_1).f1)], .agg #[.int .i64 ((rd_T27 l1 x5_1).f0), .int .i64 ((rd_T27 l1 x5_1).f1)]] (by rfl) rfl rfl zz170 ?_; with_reducible refine (laws_eqRat.calls ((rd_T27 l0 x5_1).f0) ((rd_T27 l0 x5_1).f1) ((rd_T27 l1 x5_1).f0) ((rd_T27 l1 x5_1).f1) false _ A7.out).mono ?_
        rintro e w12 ⟨rfl, hb⟩; refine ⟨_, rfl, ?_⟩; replace HB := Aside0.mk (below_step zz171 hb); (try clear hb); refine hK.out _ _ ⟨(cwA HB hwB_0), (cwA HB hwB_1), (cwA HB hwC_0), (cwA HB hwC_1)⟩ (fun hHeld => ?_); clear hK K; refine normA (some 25) ?_; refine pureA 9 (some 26) (bB 10 1023) HT_ ?_; refine done_ (done_of HT_.out (by kernel_rfl)) ?_; try go_wp2
        go_ret
        exact ⟨zz234, zz171⟩
      ·rw [if_neg c6] at H; exact absurd H (by simp)
     ·rw [if_neg c5] at H; exact absurd H (by simp)
    ·rw [if_neg c4] at H; have c4b0 : decide (x5_1 < (l0.length : Int)) = false := decide_eq_false c4; clear c4; obtain rfl := Option.some.inj H; go_wp2
     go_ret
     exact ⟨zz234, zz171⟩
 ·rw [if_neg c3] at H; have c3b0 : ((l0.length : Int) == (l1.length : Int)) = false := beq_eq_false_iff_ne.mpr c3; have c3b1 : ((l0.length : Int) != (l1.length : Int)) = true := bne_iff_ne.mpr c3; have c3b2 : (l0.length == l1.length) = false := by first | simpa using c3 | (simp at c3 ⊢; omega)
  obtain rfl := Option.some.inj H; go_enter Try.func16, Try.ntmps16
  go_wp2
  go_ret
  exact ⟨zz234, zz171⟩
end Go.Proofs.Ytlggehdfigkliaa.Q
namespace Go.Proofs.Ytlggehdfigkliaa.Q
open Go.RowKit Go.Proofs.YtlggehdfigkliaaW.PrintWords Go.Proofs.YtlggehdfigkliaaW.PrintLast Go.Proofs.YtlggehdfigkliaaW.PrintMore
attribute [local go_sem] max2_int min2_int max_two min_two max_three min_three max_four min_four   -- for this text's walks alone
set_option linter.unusedVariables false
set_option linter.unusedSimpArgs false
def spec_IsPseudoOrbit.j0 : Nat → List (S57) → List (S27) → Bool → Int → Int → Option (Bool × Bool)
 | 0, _, _, _, _, _ => none
 | k + 1, x0, x1, x18, xA, xB => if x18 = true then (some (false, false)) else ((spec_sdJumps.f k x0 x1).bind fun btC => (if btC.2 = true then ((spec_sdMost.f k btC.1).bind fun btD => ((spec_raCmp.f btD.1 btD.2 xA xB).bind fun tE => (some (decide (tE ≤ 0), true)))) else (some (false, false))))
def spec_IsPseudoOrbit.f (k : Nat) (l0 : List (S57)) (l1 : List (S27)) (a2_0 : Int) (a2_1 : Int) : Option (Bool × Bool) := (spec_sdAsked.f k l0 l1).bind fun tA => (if tA = true then ((spec_raUnit.f k a2_0 a2_1).bind fun tB => (spec_IsPseudoOrbit.j0 k l0 l1 (!tB) a2_0 a2_1)) else (spec_IsPseudoOrbit.j0 k l0 l1 true a2_0 a2_1))
theorem zz221 {p : Prop} (h : p := by (with_reducible repeat (first | apply Kd.R_alloc | apply Kd.R_drewN | apply Kd.R_drew)); exact HOA.out) : p := h
theorem zz217 {p : Prop} (h : p := by (with_reducible repeat (first | refine blk_drewN ?_ _ | refine blk_drew ?_ | refine blk_alloc ?_ _)); exact BKB.out) : p := h
theorem zz165 {p : Prop} (h : p := by repeat (first | (with_reducible first | exact HB.out | apply below_alloc | apply pw_below_drewN | apply below_drew1 | refine below_set ?_ GEB.out) | exact HB.out)) : p := h
set_option maxHeartbeats 8000000 in
set_option maxRecDepth 100000 in
theorem spec_IsPseudoOrbit.calls (k : Nat) (A0 : Option Addr) (c0 : Nat) (l0 : List (S57)) (A1 : Option Addr) (c1 : Nat) (l1 : List (S27)) (a2_0 : Int) (a2_1 : Int) (r1 : Bool) (r2 : Bool) (w : World) (hr0 : Kd.C k57 w A0 l0.length l0) (hc0 : l0.length ≤ c0) (hr1 : Kd.C k27 w A1 l1.length l1) (hc1 : l1.length ≤ c1) (h : spec_IsPseudoOrbit.f k l0 l1 a2_0 a2_1 = some (r1, r2)) :
  Calls Try.prog 17 #[.slice A0 l0.length c0, .slice A1 l1.length c1, .agg #[.int .i64 a2_0, .int .i64 a2_1]] w fun e w' => e = .returned (.tuple #[.bool r1, .bool r2]) ∧ Below w.heap.size w w' := by
 have hu27 := Try.underlying27; have HR0 := Aside0.mk hr0; have HC0 := Aside0.mk hc0; clear hr0 hc0; have HR1 := Aside0.mk hr1; have HC1 := Aside0.mk hc1; clear hr1 hc1; have HB := Aside0.mk (Below.refl w.heap.size w); have H : ((spec_sdAsked.f k l0 l1).bind fun tC => (if tC = true then ((spec_raUnit.f k a2_0 a2_1).bind fun tD => (spec_IsPseudoOrbit.j0 k l0 l1 (!tD) a2_0 a2_1)) else (spec_IsPseudoOrbit.j0 k l0 l1 true a2_0 a2_1))) = some (r1, r2) := h; clear h; have HC4 := Aside0.mk H; clear H; go_enter Try.func17, Try.ntmps17
 go_upto_region 1 with (first | ((with_reducible refine gate_dst (N := 5) rfl ?_); refine boxE 5 #[.int .i64 a2_0, .int .i64 a2_1] 27 ?_; intro gbB hg w5 hbox hb; have GWB := gwA (below_size zz171) hg; have GEB := GWB; have BKB := Aside0.mk (hbox); replace HB := Aside0.mk (below_step zz171 hb); clear hb hbox hg))
 (try simp only [Act.put, List.setIfInBounds_toArray, List.set_cons_zero, List.set_cons_succ]); go_cut [18] (fun v18 wc => ∃ (kq : Nat) (x18_3 : Bool), v18 = .bool x18_3 ∧ Aside0 (spec_IsPseudoOrbit.j0 kq l0 l1 x18_3 a2_0 a2_1 = some (r1, r2)) ∧ Aside0 (kq ≤ k) ∧ Aside0 (wc.heap[gbB]? = some (.cells #[.int .i64 a2_0, .int .i64 a2_1] 27 (0, 0))) ∧ Aside0 (Below w.heap.size w wc))
 case first =>
  have H := HC4.out; clear HC4; replace H := Option.bind_eq_some_iff.mp H; obtain ⟨tC, A60, H⟩ := H; replace H : (if tC = true then ((spec_raUnit.f k a2_0 a2_1).bind fun tD => (spec_IsPseudoOrbit.j0 k l0 l1 (!tD) a2_0 a2_1)) else (spec_IsPseudoOrbit.j0 k l0 l1 true a2_0 a2_1)) = some (r1, r2) := H; have A6 := Aside0.mk A60; clear A60; by_cases c7 : tC = true
  ·subst c7; have H1 : ((spec_raUnit.f k a2_0 a2_1).bind fun tD => (spec_IsPseudoOrbit.j0 k l0 l1 (!tD) a2_0 a2_1)) = some (r1, r2) := by rw [if_pos rfl] at H; exact H
   clear H; have H := H1; clear H1; replace H := Option.bind_eq_some_iff.mp H; obtain ⟨tD, A80, H⟩ := H; replace H : (spec_IsPseudoOrbit.j0 k l0 l1 (!tD) a2_0 a2_1) = some (r1, r2) := H; have A8 := Aside0.mk A80; clear A80; have H' := Aside0.mk H; clear H; go_wp2_with (first | ((with_reducible refine gate_callee (f := 30) rfl ?_); refine goesL_ (some 12) rfl rfl Try.func30 (by kernel_rfl) rfl #[.slice A0 l0.length c0, .slice A1 l1.length c1] rfl zz170 ?_; (with_reducible refine (spec_sdAsked.calls k _ _ l0 _ _ l1 true _ ?side1 ?side2 ?side3 ?side4 A6.out).mono ?_); (case side1 => repeat (first | exact (Kd.C_below HR0.out HB.out) | (with_reducible refine Kd.C_alloc ?_ _) | (with_reducible refine Kd.C_drewN ?_ _) | (with_reducible refine Kd.C_drew ?_))); (case side2 => exact HC0.out); (case side3 => repeat (first | exact (Kd.C_below HR1.out HB.out) | (with_reducible refine Kd.C_alloc ?_ _) | (with_reducible refine Kd.C_drewN ?_ _) | (with_reducible refine Kd.C_drew ?_))); (case side4 => exact HC1.out); rintro e w9 ⟨rfl, hb⟩; refine ⟨_, rfl, ?_⟩; replace BKB := blkA BKB hb; replace HB := Aside0.mk (below_step zz165 hb); (try clear hb); obtain ⟨hcz10_0, hcz10_1, hfz10_0, hfz10_1⟩ := cz2 BKB.out) | (go_at_call 39; (with_reducible refine (spec_raUnit.calls k a2_0 a2_1 tD _ A8.out).mono ?_); rintro e w11 ⟨rfl, hb⟩; replace BKB := blkA BKB hb; replace HB := Aside0.mk (below_step zz165 hb); (try clear hb)))
   go_meet
   case rel => exact ⟨_, (!tD), zz246, H', ⟨by first | omega | exact Nat.le_refl _⟩, ⟨by (with_reducible repeat (first | refine blk_drewN ?_ _ | refine blk_drew ?_ | refine blk_alloc ?_ _)); exact BKB.out⟩, ⟨by repeat (first | (with_reducible first | exact HB.out | apply below_alloc | apply pw_below_drewN | apply below_drew1 | refine below_set ?_ GEB.out) | exact HB.out)⟩⟩
  ·replace c7 := Bool.eq_false_iff.mpr c7; subst c7; have H1 : (spec_IsPseudoOrbit.j0 k l0 l1 true a2_0 a2_1) = some (r1, r2) := by rw [if_neg (show ¬ (false = true) by decide)] at H; exact H
   clear H; have H := H1; clear H1; have H' := Aside0.mk H; clear H; go_wp2_with (first | ((with_reducible refine gate_callee (f := 30) rfl ?_); refine goesL_ (some 12) rfl rfl Try.func30 (by kernel_rfl) rfl #[.slice A0 l0.length c0, .slice A1 l1.length c1] rfl zz170 ?_; (with_reducible refine (spec_sdAsked.calls k _ _ l0 _ _ l1 false _ ?side1 ?side2 ?side3 ?side4 A6.out).mono ?_); (case side1 => repeat (first | exact (Kd.C_below HR0.out HB.out) | (with_reducible refine Kd.C_alloc ?_ _) | (with_reducible refine Kd.C_drewN ?_ _) | (with_reducible refine Kd.C_drew ?_))); (case side2 => exact HC0.out); (case side3 => repeat (first | exact (Kd.C_below HR1.out HB.out) | (with_reducible refine Kd.C_alloc ?_ _) | (with_reducible refine Kd.C_drewN ?_ _) | (with_reducible refine Kd.C_drew ?_))); (case side4 => exact HC1.out); rintro e w12 ⟨rfl, hb⟩; refine ⟨_, rfl, ?_⟩; replace BKB := blkA BKB hb; replace HB := Aside0.mk (below_step zz165 hb); (try clear hb)))
   go_meet
   case rel => exact ⟨_, (true), zz246, H', ⟨by first | omega | exact Nat.le_refl _⟩, ⟨by (with_reducible repeat (first | refine blk_drewN ?_ _ | refine blk_drew ?_ | refine blk_alloc ?_ _)); exact BKB.out⟩, ⟨by repeat (first | (with_reducible first | exact HB.out | apply below_alloc | apply pw_below_drewN | apply below_drew1 | refine below_set ?_ GEB.out) | exact HB.out)⟩⟩
 case rest =>
  clear HC4; try clear c1
  try clear p2
  try clear c3
  try clear c7
  try clear hcz10_0
  try clear hcz10_1
  try clear hfz10_0
  try clear hfz10_1
  obtain ⟨kq, x18_3, rfl, HA, HJ3, BKB, HB⟩ := hcut; cases kq with
  | zero => exact absurd HA.out (by simp [spec_IsPseudoOrbit.j0])
  | succ kj3 =>
   have H := HA.out; clear HA; simp only [spec_IsPseudoOrbit.j0] at H; by_cases c13 : x18_3 = true
   ·subst c13; have H1 : (some (false, false)) = some (r1, r2) := by rw [if_pos rfl] at H; exact H
    clear H; have H := H1; clear H1; simp only [Option.some.injEq, Prod.mk.injEq] at H; obtain ⟨rfl, rfl⟩ := H; go_wp2
    go_ret2
    exact ⟨zz234, zz165⟩
   ·replace c13 := Bool.eq_false_iff.mpr c13; subst c13; have H1 : ((spec_sdJumps.f kj3 l0 l1).bind fun btE => (if btE.2 = true then ((spec_sdMost.f kj3 btE.1).bind fun btF => ((spec_raCmp.f btF.1 btF.2 a2_0 a2_1).bind fun tG => (some (decide (tG ≤ 0), true)))) else (some (false, false)))) = some (r1, r2) := by rw [if_neg (show ¬ (false = true) by decide)] at H; exact H
    clear H; have H := H1; clear H1; replace H := Option.bind_eq_some_iff.mp H; obtain ⟨⟨tE, tH⟩, AI, H⟩ := H; replace H : (if tH = true then ((spec_sdMost.f kj3 tE).bind fun btF => ((spec_raCmp.f btF.1 btF.2 a2_0 a2_1).bind fun tG => (some (decide (tG ≤ 0), true)))) else (some (false, false))) = some (r1, r2) := H; have A14 := Aside0.mk AI; clear AI; by_cases c15 : tH = true
    ·subst c15; have H1 : ((spec_sdMost.f kj3 tE).bind fun btF => ((spec_raCmp.f btF.1 btF.2 a2_0 a2_1).bind fun tG => (some (decide (tG ≤ 0), true)))) = some (r1, r2) := by rw [if_pos rfl] at H; exact H
     clear H; have H := H1; clear H1; replace H := Option.bind_eq_some_iff.mp H; obtain ⟨⟨tF, tJ⟩, AK, H⟩ := H; replace H : ((spec_raCmp.f tF tJ a2_0 a2_1).bind fun tG => (some (decide (tG ≤ 0), true))) = some (r1, r2) := H; have A16 := Aside0.mk AK; clear AK; replace H := Option.bind_eq_some_iff.mp H; obtain ⟨tG, AL, H⟩ := H; replace H : (some (decide (tG ≤ 0), true)) = some (r1, r2) := H; have A17 := Aside0.mk AL; clear AL; simp only [Option.some.injEq, Prod.mk.injEq] at H; obtain ⟨rfl, rfl⟩ := H; try go_wp2_with (first | ((with_reducible refine gate_callee (f := 31) rfl ?_); refine goesL_ (some 22) rfl rfl Try.func31 (by kernel_rfl) rfl #[.slice A0 l0.length c0, .slice A1 l1.length c1] rfl zz170 ?_; (with_reducible refine (spec_sdJumps.calls kj3 _ _ l0 _ _ l1 tE true _ ?side1 ?side2 ?side3 ?side4 A14.out).mono ?_); (case side1 => repeat (first | exact (Kd.C_below HR0.out HB.out) | (with_reducible refine Kd.C_alloc ?_ _) | (with_reducible refine Kd.C_drewN ?_ _) | (with_reducible refine Kd.C_drew ?_))); (case side2 => exact HC0.out); (case side3 => repeat (first | exact (Kd.C_below HR1.out HB.out) | (with_reducible refine Kd.C_alloc ?_ _) | (with_reducible refine Kd.C_drewN ?_ _) | (with_reducible refine Kd.C_drew ?_))); (case side4 => exact HC1.out); rintro e w18 ⟨vM, rfl, ho0, hb⟩; refine ⟨_, rfl, ?_⟩; have HOA := Aside0.mk (Kd.R_lower (Kd.R_newB ho0 (g := gbB) (o := .cells #[.int .i64 a2_0, .int .i64 a2_1] 27 (0, 0)) zz217) (below_size zz165)); replace BKB := blkA BKB hb; replace HB := Aside0.mk (below_step zz165 hb); (try clear hb); (try clear ho0)))
     replace HOA := Aside0.mk (Kd.R_drew HOA.out); replace BKB := Aside0.mk (blk_drew BKB.out); replace HB := Aside0.mk (below_drew1 HB.out); obtain ⟨Ao20, co20, eo20⟩ := Kd.R_slice HOA.out; (first | subst eo20 | (injection eo20 with f1_ f2_ f3_; have f4_ := f1_.symm; have f5_ := f3_.symm; clear f1_ f2_ f3_; subst f4_; subst f5_))
     refine start_ (n := 7) (S := fun w' => w'.cell? ⟨gbB, 0, none⟩ = some (.int .i64 a2_0) ∧ w'.cell? ⟨gbB, 1, none⟩ = some (.int .i64 a2_1)) (ds := []) (.replicate 7 fF) (by kernel_rfl) rfl rfl ⟨bcA BKB 0, bcA BKB 1⟩ (fun hHeld => ?_); generalize w18.drew = w19 at HOA BKB HB hHeld ⊢; refine pure_ (i := 0) (N := some 27) (v := ?_) (a' := ?_) (bB 7 1) rfl rfl (by kernel_rfl) (fun _ _ _ h => h) (Or.inl ⟨by rfl, ?_⟩) ?_ ?_; rotate_left
     ·intro w'; go_simp
      with_reducible rfl
     rotate_left
     ·simp only [Act.put, List.setIfInBounds_toArray, List.set_cons_zero, List.set_cons_succ, i64_w, i32_w]; rfl
     refine take_ (i := 2) (N := some 29) (v := ?_) (a' := ?_) (bB 7 5) rfl rfl (by kernel_rfl) (fun _ _ _ h => h) (Or.inl ⟨by rfl, ?_⟩) hHeld ?_ ?_; rotate_left
     ·rintro w' ⟨s0, s1⟩; go_simp
      with_reducible rfl
     rotate_left
     ·simp only [Act.put, List.setIfInBounds_toArray, List.set_cons_zero, List.set_cons_succ, i64_w, i32_w]; rfl
     refine one_ (i := 1) (N := some 28) (bB 7 7) rfl rfl (by kernel_rfl) (by decide) (fun K hK => ?_); refine goes_ Try.func32 (by kernel_rfl) rfl #[.slice Ao20 tE.length co20] (by rfl) rfl rfl zz170 ?_; with_reducible refine (spec_sdMost.calls kj3 _ _ tE tF tJ _ ?side1 ?side2 A16.out).mono ?_
     (case side1 => repeat (first | exact (Kd.R_reads' HOA.out).2.2 | (with_reducible refine Kd.C_alloc ?_ _) | (with_reducible refine Kd.C_drewN ?_ _) | (with_reducible refine Kd.C_drew ?_))); (case side2 => exact (Kd.R_reads' HOA.out).2.1); rintro e w21 ⟨rfl, hb⟩; refine ⟨_, rfl, ?_⟩; replace HOA := Aside0.mk (Kd.R_below zz221 hb); replace BKB := blkA BKB hb; replace HB := Aside0.mk (below_step zz165 hb); (try clear hb); refine hK.out _ _ ⟨bcA BKB 0, bcA BKB 1⟩ (fun hHeld => ?_); clear hK K; refine normA (some 28) ?_; refine one_ (i := 3) (N := some 30) (bB 7 15) rfl rfl (by kernel_rfl) (by decide) (fun K hK => ?_); refine goes_ Try.func40 (by kernel_rfl) rfl #[.agg #[.int .i64 tF, .int .i64 tJ], .agg #[.int .i64 a2_0, .int .i64 a2_1]] (by rfl) rfl rfl zz170 ?_; with_reducible refine (spec_raCmp.calls tF tJ a2_0 a2_1 tG _ A17.out).mono ?_
     rintro e w22 ⟨rfl, hb⟩; refine ⟨_, rfl, ?_⟩; replace HOA := Aside0.mk (Kd.R_below zz221 hb); replace BKB := blkA BKB hb; replace HB := Aside0.mk (below_step zz165 hb); (try clear hb); refine hK.out _ _ ⟨bcA BKB 0, bcA BKB 1⟩ (fun hHeld => ?_); clear hK K; refine normA (some 30) ?_; refine pure_ (i := 4) (N := some 31) (v := ?_) (a' := ?_) (bB 7 31) rfl rfl (by kernel_rfl) (fun _ _ _ h => h) (Or.inl ⟨by rfl, ?_⟩) ?_ ?_; rotate_left
     ·intro w'; go_simp
      with_reducible rfl
     rotate_left
     ·simp only [Act.put, List.setIfInBounds_toArray, List.set_cons_zero, List.set_cons_succ, i64_w, i32_w]; rfl
     refine pure_ (i := 5) (N := some 6) (v := ?_) (a' := ?_) (bB 7 63) rfl rfl (by kernel_rfl) (fun _ _ _ h => h) (Or.inl ⟨by rfl, ?_⟩) ?_ ?_; rotate_left
     ·intro w'; go_simp
      with_reducible rfl
     rotate_left
     ·simp only [Act.put, List.setIfInBounds_toArray, List.set_cons_zero, List.set_cons_succ, i64_w, i32_w]; rfl
     refine pure_ (i := 6) (N := some 7) (v := ?_) (a' := ?_) (bB 7 127) rfl rfl (by kernel_rfl) (fun _ _ _ h => h) (Or.inl ⟨by rfl, ?_⟩) ?_ ?_; rotate_left
     ·intro w'; go_simp
      with_reducible rfl
     rotate_left
     ·simp only [Act.put, List.setIfInBounds_toArray, List.set_cons_zero, List.set_cons_succ, i64_w, i32_w]; rfl
     refine done_ (by kernel_rfl) ?_; try go_wp2
     go_ret2
     exact ⟨zz234, zz165⟩
    ·replace c15 := Bool.eq_false_iff.mpr c15; subst c15; have H1 : (some (false, false)) = some (r1, r2) := by rw [if_neg (show ¬ (false = true) by decide)] at H; exact H
     clear H; have H := H1; clear H1; simp only [Option.some.injEq, Prod.mk.injEq] at H; obtain ⟨rfl, rfl⟩ := H; go_wp2_with (first | ((with_reducible refine gate_callee (f := 31) rfl ?_); refine goesL_ (some 22) rfl rfl Try.func31 (by kernel_rfl) rfl #[.slice A0 l0.length c0, .slice A1 l1.length c1] rfl zz170 ?_; (with_reducible refine (spec_sdJumps.calls kj3 _ _ l0 _ _ l1 tE false _ ?side1 ?side2 ?side3 ?side4 A14.out).mono ?_); (case side1 => repeat (first | exact (Kd.C_below HR0.out HB.out) | (with_reducible refine Kd.C_alloc ?_ _) | (with_reducible refine Kd.C_drewN ?_ _) | (with_reducible refine Kd.C_drew ?_))); (case side2 => exact HC0.out); (case side3 => repeat (first | exact (Kd.C_below HR1.out HB.out) | (with_reducible refine Kd.C_alloc ?_ _) | (with_reducible refine Kd.C_drewN ?_ _) | (with_reducible refine Kd.C_drew ?_))); (case side4 => exact HC1.out); rintro e w23 ⟨vM, rfl, ho0, hb⟩; refine ⟨_, rfl, ?_⟩; have HOA := Aside0.mk (Kd.R_lower (Kd.R_newB ho0 (g := gbB) (o := .cells #[.int .i64 a2_0, .int .i64 a2_1] 27 (0, 0)) zz217) (below_size zz165)); replace BKB := blkA BKB hb; replace HB := Aside0.mk (below_step zz165 hb); (try clear hb); (try clear ho0)))
     go_ret2
     exact ⟨zz234, zz165⟩
def impl_IsPseudoOrbit.f (k : Nat) (l0 : List (S57)) (l1 : List (S27)) (a2_0 : Int) (a2_1 : Int) : Option (Bool × Bool) := (impl_WorstJump.f k l0 l1).bind fun btA => (if btA.2.2 = true then ((impl_isUnit.f k a2_0 a2_1).bind fun tB => (if tB = true then ((impl_less.f a2_0 a2_1 btA.1 btA.2.1).bind fun tC => (some (!tC, true))) else (some (false, false)))) else (some (false, false)))
theorem zz166 {p : Prop} (h : p := by repeat (first | (with_reducible first | exact HB.out | apply below_alloc | apply pw_below_drewN | apply below_drew1 | refine below_set ?_ GEA.out) | exact HB.out)) : p := h
theorem zz106 {p : Prop} (h : p := by repeat (first | (with_reducible first | exact HB.out | apply below_alloc | apply pw_below_drewN | apply below_drew1 | refine below_set ?_ GEA.out | refine below_set ?_ GEB.out) | exact HB.out)) : p := h
theorem zz27 {p : Prop} (h : p := by (with_reducible repeat (first | refine blk_drewN ?_ _ | refine blk_drew ?_ | refine blk_alloc ?_ _)); refine blk_far ?_ NBA_B.out _; (with_reducible repeat (first | refine blk_drewN ?_ _ | refine blk_drew ?_ | refine blk_alloc ?_ _)); refine blk_far ?_ NBA_B.out _; (with_reducible repeat (first | refine blk_drewN ?_ _ | refine blk_drew ?_ | refine blk_alloc ?_ _)); exact BKA.out) : p := h
theorem zz18 {p : Prop} (h : p := by (with_reducible repeat (first | refine blk_drewN ?_ _ | refine blk_drew ?_ | refine blk_alloc ?_ _)); refine blk_put (cs := #[.int .i64 tC, .int .i64 0]) ?_ 1 _ rfl; (with_reducible repeat (first | refine blk_drewN ?_ _ | refine blk_drew ?_ | refine blk_alloc ?_ _)); refine blk_put (cs := #[.int .i64 0, .int .i64 0]) ?_ 0 _ rfl; (with_reducible repeat (first | refine blk_drewN ?_ _ | refine blk_drew ?_ | refine blk_alloc ?_ _)); exact BKB.out) : p := h
set_option maxHeartbeats 8000000 in
set_option maxRecDepth 100000 in
theorem impl_IsPseudoOrbit.calls (k : Nat) (A0 : Option Addr) (c0 : Nat) (l0 : List (S57)) (A1 : Option Addr) (c1 : Nat) (l1 : List (S27)) (a2_0 : Int) (a2_1 : Int) (r1 : Bool) (r2 : Bool) (w : World) (hr0 : Kd.C k57 w A0 l0.length l0) (hc0 : l0.length ≤ c0) (hr1 : Kd.C k27 w A1 l1.length l1) (hc1 : l1.length ≤ c1) (h : impl_IsPseudoOrbit.f k l0 l1 a2_0 a2_1 = some (r1, r2)) :
  Calls Try.prog 19 #[.slice A0 l0.length c0, .slice A1 l1.length c1, .agg #[.int .i64 a2_0, .int .i64 a2_1]] w fun e w' => e = .returned (.tuple #[.bool r1, .bool r2]) ∧ Below w.heap.size w w' := by
 have hu27 := Try.underlying27; have HR0 := Aside0.mk hr0; have HC0 := Aside0.mk hc0; clear hr0 hc0; have HR1 := Aside0.mk hr1; have HC1 := Aside0.mk hc1; clear hr1 hc1; have HB := Aside0.mk (Below.refl w.heap.size w); have H : ((impl_WorstJump.f k l0 l1).bind fun btC => (if btC.2.2 = true then ((impl_isUnit.f k a2_0 a2_1).bind fun tD => (if tD = true then ((impl_less.f a2_0 a2_1 btC.1 btC.2.1).bind fun tE => (some (!tE, true))) else (some (false, false)))) else (some (false, false)))) = some (r1, r2) := h; clear h; replace H := Option.bind_eq_some_iff.mp H; obtain ⟨⟨tC, tF, tG⟩, A40, H⟩ := H; replace H : (if tG = true then ((impl_isUnit.f k a2_0 a2_1).bind fun tD => (if tD = true then ((impl_less.f a2_0 a2_1 tC tF).bind fun tE => (some (!tE, true))) else (some (false, false)))) else (some (false, false))) = some (r1, r2) := H; have A4 := Aside0.mk A40; clear A40; by_cases c5 : tG = true
 ·subst c5; have H1 : ((impl_isUnit.f k a2_0 a2_1).bind fun tD => (if tD = true then ((impl_less.f a2_0 a2_1 tC tF).bind fun tE => (some (!tE, true))) else (some (false, false)))) = some (r1, r2) := by rw [if_pos rfl] at H; exact H
  clear H; have H := H1; clear H1; replace H := Option.bind_eq_some_iff.mp H; obtain ⟨tD, A60, H⟩ := H; replace H : (if tD = true then ((impl_less.f a2_0 a2_1 tC tF).bind fun tE => (some (!tE, true))) else (some (false, false))) = some (r1, r2) := H; have A6 := Aside0.mk A60; clear A60; by_cases c7 : tD = true
  ·subst c7; have H1 : ((impl_less.f a2_0 a2_1 tC tF).bind fun tE => (some (!tE, true))) = some (r1, r2) := by rw [if_pos rfl] at H; exact H
   clear H; have H := H1; clear H1; replace H := Option.bind_eq_some_iff.mp H; obtain ⟨tE, A80, H⟩ := H; replace H : (some (!tE, true)) = some (r1, r2) := H; have A8 := Aside0.mk A80; clear A80; simp only [Option.some.injEq, Prod.mk.injEq] at H; obtain ⟨rfl, rfl⟩ := H; go_enter Try.func19, Try.ntmps19
   go_wp2_with (first | ((with_reducible refine gate_dst (N := 5) rfl ?_); refine boxE 5 #[.int .i64 a2_0, .int .i64 a2_1] 27 ?_; intro gbA hg w9 hbox hb; have GWA := gwA (below_size zz171) hg; have GEA := GWA; have BKA := Aside0.mk (hbox); replace HB := Aside0.mk (below_step zz171 hb); clear hb hbox hg) | ((with_reducible refine gate_callee (f := 13) rfl ?_); refine goesL_ (some 13) rfl rfl Try.func13 (by kernel_rfl) rfl #[.slice A0 l0.length c0, .slice A1 l1.length c1] rfl zz170 ?_; (with_reducible refine (impl_WorstJump.calls k _ _ l0 _ _ l1 tC tF true _ ?side1 ?side2 ?side3 ?side4 A4.out).mono ?_); (case side1 => repeat (first | exact (Kd.C_below HR0.out HB.out) | (with_reducible refine Kd.C_alloc ?_ _) | (with_reducible refine Kd.C_drewN ?_ _) | (with_reducible refine Kd.C_drew ?_))); (case side2 => exact HC0.out); (case side3 => repeat (first | exact (Kd.C_below HR1.out HB.out) | (with_reducible refine Kd.C_alloc ?_ _) | (with_reducible refine Kd.C_drewN ?_ _) | (with_reducible refine Kd.C_drew ?_))); (case side4 => exact HC1.out); rintro e w10 ⟨rfl, hb⟩; refine ⟨_, rfl, ?_⟩; replace BKA := blkA BKA hb; replace HB := Aside0.mk (below_step zz166 hb); (try clear hb)) | ((with_reducible refine gate_dst (N := 8) rfl ?_); refine boxE 8 #[.int .i64 0, .int .i64 0] 27 ?_; intro gbB hg w11 hbox hb; have GWB := gwA (below_size zz166) hg; have GEB := GWB; have NBA_B := nltA BKA hg; have NBB_A := ngtA BKA hg; replace BKA := blkA BKA hb; have BKB := Aside0.mk (hbox); replace HB := Aside0.mk (below_step zz166 hb); clear hb hbox hg; have hnb12 := NBB_A.out; have hnc12 := NBA_B.out; obtain ⟨hcz13_0, hcz13_1, hfz13_0, hfz13_1⟩ := cz2 BKB.out; obtain ⟨hcz14_0, hcz14_1, hfz14_0, hfz14_1⟩ := cz2 BKA.out) | (go_at_call 41; (with_reducible refine (impl_isUnit.calls k a2_0 a2_1 true _ A6.out).mono ?_); rintro e w15 ⟨rfl, hb⟩; replace BKA := Aside0.mk (blk_below (g := gbA) (o := .cells #[.int .i64 a2_0, .int .i64 a2_1] 27 (0, 0)) zz27 hb); replace BKB := Aside0.mk (blk_below (g := gbB) (o := .cells #[.int .i64 tC, .int .i64 tF] 27 (0, 0)) zz18 hb); replace HB := Aside0.mk (below_step zz106 hb); (try clear hb); obtain ⟨hcz16_0, hcz16_1, hfz16_0, hfz16_1⟩ := cz2 BKA.out; obtain ⟨hcz17_0, hcz17_1, hfz17_0, hfz17_1⟩ := cz2 BKB.out) | ((with_reducible refine gate_callee (f := 42) rfl ?_); refine goesL_ (some 25) rfl rfl Try.func42 (by kernel_rfl) rfl #[.agg #[.int .i64 a2_0, .int .i64 a2_1], .agg #[.int .i64 tC, .int .i64 tF]] rfl zz170 ?_; (with_reducible refine (impl_less.calls a2_0 a2_1 tC tF tE _ A8.out).mono ?_); rintro e w18 ⟨rfl, hb⟩; refine ⟨_, rfl, ?_⟩; replace BKA := blkA BKA hb; replace BKB := blkA BKB hb; replace HB := Aside0.mk (below_step zz106 hb); (try clear hb)))
   go_ret2
   exact ⟨zz234, zz106⟩
  ·replace c7 := Bool.eq_false_iff.mpr c7; subst c7; have H1 : (some (false, false)) = some (r1, r2) := by rw [if_neg (show ¬ (false = true) by decide)] at H; exact H
   clear H; have H := H1; clear H1; simp only [Option.some.injEq, Prod.mk.injEq] at H; obtain ⟨rfl, rfl⟩ := H; go_enter Try.func19, Try.ntmps19
   go_wp2_with (first | ((with_reducible refine gate_dst (N := 5) rfl ?_); refine boxE 5 #[.int .i64 a2_0, .int .i64 a2_1] 27 ?_; intro gbA hg w19 hbox hb; have GWA := gwA (below_size zz171) hg; have GEA := GWA; have BKA := Aside0.mk (hbox); replace HB := Aside0.mk (below_step zz171 hb); clear hb hbox hg) | ((with_reducible refine gate_callee (f := 13) rfl ?_); refine goesL_ (some 13) rfl rfl Try.func13 (by kernel_rfl) rfl #[.slice A0 l0.length c0, .slice A1 l1.length c1] rfl zz170 ?_; (with_reducible refine (impl_WorstJump.calls k _ _ l0 _ _ l1 tC tF true _ ?side1 ?side2 ?side3 ?side4 A4.out).mono ?_); (case side1 => repeat (first | exact (Kd.C_below HR0.out HB.out) | (with_reducible refine Kd.C_alloc ?_ _) | (with_reducible refine Kd.C_drewN ?_ _) | (with_reducible refine Kd.C_drew ?_))); (case side2 => exact HC0.out); (case side3 => repeat (first | exact (Kd.C_below HR1.out HB.out) | (with_reducible refine Kd.C_alloc ?_ _) | (with_reducible refine Kd.C_drewN ?_ _) | (with_reducible refine Kd.C_drew ?_))); (case side4 => exact HC1.out); rintro e w20 ⟨rfl, hb⟩; refine ⟨_, rfl, ?_⟩; replace BKA := blkA BKA hb; replace HB := Aside0.mk (below_step zz166 hb); (try clear hb)) | ((with_reducible refine gate_dst (N := 8) rfl ?_); refine boxE 8 #[.int .i64 0, .int .i64 0] 27 ?_; intro gbB hg w21 hbox hb; have GWB := gwA (below_size zz166) hg; have GEB := GWB; have NBA_B := nltA BKA hg; have NBB_A := ngtA BKA hg; replace BKA := blkA BKA hb; have BKB := Aside0.mk (hbox); replace HB := Aside0.mk (below_step zz166 hb); clear hb hbox hg; have hnb22 := NBB_A.out; have hnc22 := NBA_B.out; obtain ⟨hcz23_0, hcz23_1, hfz23_0, hfz23_1⟩ := cz2 BKB.out; obtain ⟨hcz24_0, hcz24_1, hfz24_0, hfz24_1⟩ := cz2 BKA.out) | (go_at_call 41; (with_reducible refine (impl_isUnit.calls k a2_0 a2_1 false _ A6.out).mono ?_); rintro e w25 ⟨rfl, hb⟩; replace BKA := Aside0.mk (blk_below (g := gbA) (o := .cells #[.int .i64 a2_0, .int .i64 a2_1] 27 (0, 0)) zz27 hb); replace BKB := Aside0.mk (blk_below (g := gbB) (o := .cells #[.int .i64 tC, .int .i64 tF] 27 (0, 0)) zz18 hb); replace HB := Aside0.mk (below_step zz106 hb); (try clear hb)))
   go_ret2
   exact ⟨zz234, zz106⟩
 ·replace c5 := Bool.eq_false_iff.mpr c5; subst c5; have H1 : (some (false, false)) = some (r1, r2) := by rw [if_neg (show ¬ (false = true) by decide)] at H; exact H
  clear H; have H := H1; clear H1; simp only [Option.some.injEq, Prod.mk.injEq] at H; obtain ⟨rfl, rfl⟩ := H; go_enter Try.func19, Try.ntmps19
  go_wp2_with (first | ((with_reducible refine gate_dst (N := 5) rfl ?_); refine boxE 5 #[.int .i64 a2_0, .int .i64 a2_1] 27 ?_; intro gbA hg w26 hbox hb; have GWA := gwA (below_size zz171) hg; have GEA := GWA; have BKA := Aside0.mk (hbox); replace HB := Aside0.mk (below_step zz171 hb); clear hb hbox hg) | ((with_reducible refine gate_callee (f := 13) rfl ?_); refine goesL_ (some 13) rfl rfl Try.func13 (by kernel_rfl) rfl #[.slice A0 l0.length c0, .slice A1 l1.length c1] rfl zz170 ?_; (with_reducible refine (impl_WorstJump.calls k _ _ l0 _ _ l1 tC tF false _ ?side1 ?side2 ?side3 ?side4 A4.out).mono ?_); (case side1 => repeat (first | exact (Kd.C_below HR0.out HB.out) | (with_reducible refine Kd.C_alloc ?_ _) | (with_reducible refine Kd.C_drewN ?_ _) | (with_reducible refine Kd.C_drew ?_))); (case side2 => exact HC0.out); (case side3 => repeat (first | exact (Kd.C_below HR1.out HB.out) | (with_reducible refine Kd.C_alloc ?_ _) | (with_reducible refine Kd.C_drewN ?_ _) | (with_reducible refine Kd.C_drew ?_))); (case side4 => exact HC1.out); rintro e w27 ⟨rfl, hb⟩; refine ⟨_, rfl, ?_⟩; replace BKA := blkA BKA hb; replace HB := Aside0.mk (below_step zz166 hb); (try clear hb)) | ((with_reducible refine gate_dst (N := 8) rfl ?_); refine boxE 8 #[.int .i64 0, .int .i64 0] 27 ?_; intro gbB hg w28 hbox hb; have GWB := gwA (below_size zz166) hg; have GEB := GWB; have NBA_B := nltA BKA hg; have NBB_A := ngtA BKA hg; replace BKA := blkA BKA hb; have BKB := Aside0.mk (hbox); replace HB := Aside0.mk (below_step zz166 hb); clear hb hbox hg; have hnb29 := NBB_A.out; have hnc29 := NBA_B.out; obtain ⟨hcz30_0, hcz30_1, hfz30_0, hfz30_1⟩ := cz2 BKB.out))
  go_ret2
  exact ⟨zz234, zz106⟩
end Go.Proofs.Ytlggehdfigkliaa.Q
namespace Go.Proofs.Ytlggehdfigkliaa.Q
open Go.RowKit Go.Proofs.YtlggehdfigkliaaW.PrintWords Go.Proofs.YtlggehdfigkliaaW.PrintLast Go.Proofs.YtlggehdfigkliaaW.PrintMore
attribute [local go_sem] max2_int min2_int max_two min_two max_three min_three max_four min_four   -- for this text's walks alone
set_option linter.unusedVariables false
set_option linter.unusedSimpArgs false
def laws_FnExactIsPseudoOrbit.j0 : Nat → List (S60) → List (S38) → List (S57) → List (S27) → Bool → Option (Bool)
 | 0, _, _, _, _, _ => none
 | k + 1, x0, x1, x10, x11, x53 => if x53 = true then (some false) else ((laws_toPointS.f k x0).bind fun tA => ((laws_eqPointS.f k x10 tA).bind fun tB => (if tB = true then ((laws_toRatS.f k x1).bind fun tC => ((laws_eqRatS.f k x11 tC).bind fun tD => (if tD = true then (some true) else (some false)))) else (some false))))
def laws_FnExactIsPseudoOrbit.f (k : Nat) (l0 : List (S60)) (l1 : List (S38)) (a2_0 : Int) (a2_1 : Int) : Option (Bool) := (laws_szPointS.f l0 1048576).bind fun tA => (if tA < 0 then (some true) else ((laws_szRatS.f l1 tA).bind fun tB => (if tB < 0 then (some true) else ((laws_toPointS.f k l0).bind fun tC => ((laws_toRatS.f k l1).bind fun tD => ((laws_toRat.f a2_0 a2_1).bind fun btE => ((spec_IsPseudoOrbit.f k tC tD btE.1 btE.2).bind fun btF => ((laws_toPointS.f k l0).bind fun tG => ((laws_toRatS.f k l1).bind fun tH => ((laws_toRat.f a2_0 a2_1).bind fun btI => ((impl_IsPseudoOrbit.f k tG tH btI.1 btI.2).bind fun btJ => (if (btJ.1 != btF.1) = true then (laws_FnExactIsPseudoOrbit.j0 k l0 l1 tG tH true) else (laws_FnExactIsPseudoOrbit.j0 k l0 l1 tG tH (btJ.2 != btF.2))))))))))))))
def laws_FnExactIsPseudoOrbit.T8 : Bool × List (List Nat × List Nat) := (true, [([], []), ([0], [0]), ([], []), ([2, 1], [2]), ([], []), ([4, 3], [4]), ([1, 3, 5, 5], [1, 3, 5]), ([6], [6]), ([7], [7]), ([7], [7]), ([8, 6, 0, 1, 2, 3, 4, 5, 6, 7, 8], [8]), ([9, 10, 0, 1, 2, 3, 4, 5, 6, 7, 8, 9, 10], [9])])
def laws_FnExactIsPseudoOrbit.B8 : List Nat := [0, 1, 0, 7, 0, 31, 63, 127, 255, 255, 511, 2047]
theorem laws_FnExactIsPseudoOrbit.tab8 : rtab .any (opsOf Try.f4 8) = laws_FnExactIsPseudoOrbit.T8 := by kernel_rfl
theorem laws_FnExactIsPseudoOrbit.bits8 : waitsOk laws_FnExactIsPseudoOrbit.T8.2 laws_FnExactIsPseudoOrbit.B8 = true := by kernel_rfl
theorem zz229 {p : Prop} (h : p := by (with_reducible repeat (first | apply Kd.R_alloc | apply Kd.R_drewN | apply Kd.R_drew)); exact HOA.out) : p := h
theorem zz228 {p : Prop} (h : p := by (with_reducible repeat (first | apply Kd.R_alloc | apply Kd.R_drewN | apply Kd.R_drew)); exact HOC.out) : p := h
theorem zz227 {p : Prop} (h : p := by (with_reducible repeat (first | apply Kd.R_alloc | apply Kd.R_drewN | apply Kd.R_drew)); exact HO_11.out) : p := h
theorem zz226 {p : Prop} (h : p := by (with_reducible repeat (first | apply Kd.R_alloc | apply Kd.R_drewN | apply Kd.R_drew)); exact HO_10.out) : p := h
theorem zz225 {p : Prop} (h : p := by (with_reducible repeat (first | apply Kd.R_alloc | apply Kd.R_drewN | apply Kd.R_drew)); exact HOD.out) : p := h
theorem zz224 {p : Prop} (h : p := by (with_reducible repeat (first | apply Kd.R_alloc | apply Kd.R_drewN | apply Kd.R_drew)); exact HOE.out) : p := h
theorem zz223 {p : Prop} (h : p := by (with_reducible repeat (first | apply Kd.R_alloc | apply Kd.R_drewN | apply Kd.R_drew)); exact HOG.out) : p := h
theorem zz222 {p : Prop} (h : p := by (with_reducible repeat (first | apply Kd.R_alloc | apply Kd.R_drewN | apply Kd.R_drew)); exact HOH.out) : p := h
theorem zz167 {p : Prop} (h : p := by repeat (first | (with_reducible first | exact HB.out | apply below_alloc | apply pw_below_drewN | apply below_drew1 | refine below_set ?_ GEI.out) | exact HB.out)) : p := h
set_option maxHeartbeats 8000000 in
set_option maxRecDepth 100000 in
theorem laws_FnExactIsPseudoOrbit.calls (k : Nat) (A0 : Option Addr) (c0 : Nat) (l0 : List (S60)) (A1 : Option Addr) (c1 : Nat) (l1 : List (S38)) (a2_0 : Int) (a2_1 : Int) (r : Bool) (w : World) (hr0 : Kd.C k60 w A0 l0.length l0) (hc0 : l0.length ≤ c0) (hr1 : Kd.C k38 w A1 l1.length l1) (hc1 : l1.length ≤ c1) (h : laws_FnExactIsPseudoOrbit.f k l0 l1 a2_0 a2_1 = some r) :
  Calls Try.prog 4 #[.slice A0 l0.length c0, .slice A1 l1.length c1, .agg #[.int .i64 a2_0, .int .i64 a2_1]] w fun e w' => e = .returned (.bool r) ∧ Below w.heap.size w w' := by
 have hu38 := Try.underlying38; have HR0 := Aside0.mk hr0; have HC0 := Aside0.mk hc0; clear hr0 hc0; have HR1 := Aside0.mk hr1; have HC1 := Aside0.mk hc1; clear hr1 hc1; have HB := Aside0.mk (Below.refl w.heap.size w); have H : ((laws_szPointS.f l0 1048576).bind fun tJ => (if tJ < 0 then (some true) else ((laws_szRatS.f l1 tJ).bind fun tK => (if tK < 0 then (some true) else ((laws_toPointS.f k l0).bind fun tM => ((laws_toRatS.f k l1).bind fun tN => ((laws_toRat.f a2_0 a2_1).bind fun btO => ((spec_IsPseudoOrbit.f k tM tN btO.1 btO.2).bind fun btP => ((laws_toPointS.f k l0).bind fun tQ => ((laws_toRatS.f k l1).bind fun tR => ((laws_toRat.f a2_0 a2_1).bind fun btS => ((impl_IsPseudoOrbit.f k tQ tR btS.1 btS.2).bind fun btU => (if (btU.1 != btP.1) = true then (laws_FnExactIsPseudoOrbit.j0 k l0 l1 tQ tR true) else (laws_FnExactIsPseudoOrbit.j0 k l0 l1 tQ tR (btU.2 != btP.2))))))))))))))) = some r := h; clear h; replace H := Option.bind_eq_some_iff.mp H; obtain ⟨tJ, A40, H⟩ := H; replace H : (if tJ < 0 then (some true) else ((laws_szRatS.f l1 tJ).bind fun tK => (if tK < 0 then (some true) else ((laws_toPointS.f k l0).bind fun tM => ((laws_toRatS.f k l1).bind fun tN => ((laws_toRat.f a2_0 a2_1).bind fun btO => ((spec_IsPseudoOrbit.f k tM tN btO.1 btO.2).bind fun btP => ((laws_toPointS.f k l0).bind fun tQ => ((laws_toRatS.f k l1).bind fun tR => ((laws_toRat.f a2_0 a2_1).bind fun btS => ((impl_IsPseudoOrbit.f k tQ tR btS.1 btS.2).bind fun btU => (if (btU.1 != btP.1) = true then (laws_FnExactIsPseudoOrbit.j0 k l0 l1 tQ tR true) else (laws_FnExactIsPseudoOrbit.j0 k l0 l1 tQ tR (btU.2 != btP.2)))))))))))))) = some r := H; have A4 := Aside0.mk A40; clear A40; by_cases c5 : tJ < 0
 ·rw [if_pos c5] at H; have c5b0 : decide (tJ < 0) = true := decide_eq_true c5; clear c5; obtain rfl := Option.some.inj H; go_enter Try.func4, Try.ntmps4
  go_wp2_with (first | ((with_reducible refine gate_dst (N := 5) rfl ?_); refine boxE 5 #[.int .i64 a2_0, .int .i64 a2_1] 38 ?_; intro gbI hg w6 hbox hb; have GWI := gwA (below_size zz171) hg; have GEI := GWI; have BKI := Aside0.mk (hbox); replace HB := Aside0.mk (below_step zz171 hb); clear hb hbox hg) | ((with_reducible refine gate_callee (f := 8) rfl ?_); refine goesL_ (some 16) rfl rfl Try.func8 (by kernel_rfl) rfl #[.slice A0 l0.length c0, .int .i64 1048576] rfl zz170 ?_; (with_reducible refine (laws_szPointS.calls _ _ l0 1048576 tJ _ ?side1 ?side2 A4.out).mono ?_); (case side1 => repeat (first | exact (Kd.C_below HR0.out HB.out) | (with_reducible refine Kd.C_alloc ?_ _) | (with_reducible refine Kd.C_drewN ?_ _) | (with_reducible refine Kd.C_drew ?_))); (case side2 => exact HC0.out); rintro e w' ⟨rfl, ⟨nd, rfl⟩⟩; refine ⟨_, rfl, ?_⟩))
  go_ret
  exact ⟨zz234, zz167⟩
 ·rw [if_neg c5] at H; have c5b0 : decide (tJ < 0) = false := decide_eq_false c5; clear c5; replace H := Option.bind_eq_some_iff.mp H; obtain ⟨tK, A70, H⟩ := H; replace H : (if tK < 0 then (some true) else ((laws_toPointS.f k l0).bind fun tM => ((laws_toRatS.f k l1).bind fun tN => ((laws_toRat.f a2_0 a2_1).bind fun btO => ((spec_IsPseudoOrbit.f k tM tN btO.1 btO.2).bind fun btP => ((laws_toPointS.f k l0).bind fun tQ => ((laws_toRatS.f k l1).bind fun tR => ((laws_toRat.f a2_0 a2_1).bind fun btS => ((impl_IsPseudoOrbit.f k tQ tR btS.1 btS.2).bind fun btU => (if (btU.1 != btP.1) = true then (laws_FnExactIsPseudoOrbit.j0 k l0 l1 tQ tR true) else (laws_FnExactIsPseudoOrbit.j0 k l0 l1 tQ tR (btU.2 != btP.2)))))))))))) = some r := H; have A7 := Aside0.mk A70; clear A70; by_cases c8 : tK < 0
  ·rw [if_pos c8] at H; have c8b0 : decide (tK < 0) = true := decide_eq_true c8; clear c8; obtain rfl := Option.some.inj H; go_enter Try.func4, Try.ntmps4
   go_wp2_with (first | ((with_reducible refine gate_dst (N := 5) rfl ?_); refine boxE 5 #[.int .i64 a2_0, .int .i64 a2_1] 38 ?_; intro gbI hg w9 hbox hb; have GWI := gwA (below_size zz171) hg; have GEI := GWI; have BKI := Aside0.mk (hbox); replace HB := Aside0.mk (below_step zz171 hb); clear hb hbox hg) | ((with_reducible refine gate_callee (f := 8) rfl ?_); refine goesL_ (some 16) rfl rfl Try.func8 (by kernel_rfl) rfl #[.slice A0 l0.length c0, .int .i64 1048576] rfl zz170 ?_; (with_reducible refine (laws_szPointS.calls _ _ l0 1048576 tJ _ ?side1 ?side2 A4.out).mono ?_); (case side1 => repeat (first | exact (Kd.C_below HR0.out HB.out) | (with_reducible refine Kd.C_alloc ?_ _) | (with_reducible refine Kd.C_drewN ?_ _) | (with_reducible refine Kd.C_drew ?_))); (case side2 => exact HC0.out); rintro e w' ⟨rfl, ⟨nd, rfl⟩⟩; refine ⟨_, rfl, ?_⟩) | ((with_reducible refine gate_callee (f := 9) rfl ?_); refine goesL_ (some 21) rfl rfl Try.func9 (by kernel_rfl) rfl #[.slice A1 l1.length c1, .int .i64 tJ] rfl zz170 ?_; (with_reducible refine (laws_szRatS.calls _ _ l1 tJ tK _ ?side1 ?side2 A7.out).mono ?_); (case side1 => repeat (first | exact (Kd.C_below HR1.out zz167) | (with_reducible refine Kd.C_alloc ?_ _) | (with_reducible refine Kd.C_drewN ?_ _) | (with_reducible refine Kd.C_drew ?_))); (case side2 => exact HC1.out); rintro e w' ⟨rfl, ⟨nd, rfl⟩⟩; refine ⟨_, rfl, ?_⟩))
   go_ret
   exact ⟨zz234, zz167⟩
  ·rw [if_neg c8] at H; have c8b0 : decide (tK < 0) = false := decide_eq_false c8; clear c8; replace H := Option.bind_eq_some_iff.mp H; obtain ⟨tM, AV, H⟩ := H; replace H : ((laws_toRatS.f k l1).bind fun tN => ((laws_toRat.f a2_0 a2_1).bind fun btO => ((spec_IsPseudoOrbit.f k tM tN btO.1 btO.2).bind fun btP => ((laws_toPointS.f k l0).bind fun tQ => ((laws_toRatS.f k l1).bind fun tR => ((laws_toRat.f a2_0 a2_1).bind fun btS => ((impl_IsPseudoOrbit.f k tQ tR btS.1 btS.2).bind fun btU => (if (btU.1 != btP.1) = true then (laws_FnExactIsPseudoOrbit.j0 k l0 l1 tQ tR true) else (laws_FnExactIsPseudoOrbit.j0 k l0 l1 tQ tR (btU.2 != btP.2)))))))))) = some r := H; have A10 := Aside0.mk AV; clear AV; replace H := Option.bind_eq_some_iff.mp H; obtain ⟨tN, AW, H⟩ := H; replace H : ((laws_toRat.f a2_0 a2_1).bind fun btO => ((spec_IsPseudoOrbit.f k tM tN btO.1 btO.2).bind fun btP => ((laws_toPointS.f k l0).bind fun tQ => ((laws_toRatS.f k l1).bind fun tR => ((laws_toRat.f a2_0 a2_1).bind fun btS => ((impl_IsPseudoOrbit.f k tQ tR btS.1 btS.2).bind fun btU => (if (btU.1 != btP.1) = true then (laws_FnExactIsPseudoOrbit.j0 k l0 l1 tQ tR true) else (laws_FnExactIsPseudoOrbit.j0 k l0 l1 tQ tR (btU.2 != btP.2))))))))) = some r := H; have A11 := Aside0.mk AW; clear AW; replace H := Option.bind_eq_some_iff.mp H; obtain ⟨⟨tO, tX⟩, AY, H⟩ := H; replace H : ((spec_IsPseudoOrbit.f k tM tN tO tX).bind fun btP => ((laws_toPointS.f k l0).bind fun tQ => ((laws_toRatS.f k l1).bind fun tR => ((laws_toRat.f a2_0 a2_1).bind fun btS => ((impl_IsPseudoOrbit.f k tQ tR btS.1 btS.2).bind fun btU => (if (btU.1 != btP.1) = true then (laws_FnExactIsPseudoOrbit.j0 k l0 l1 tQ tR true) else (laws_FnExactIsPseudoOrbit.j0 k l0 l1 tQ tR (btU.2 != btP.2)))))))) = some r := H; have A12 := Aside0.mk AY; clear AY; replace H := Option.bind_eq_some_iff.mp H; obtain ⟨⟨tP, tZ⟩, AAA, H⟩ := H; replace H : ((laws_toPointS.f k l0).bind fun tQ => ((laws_toRatS.f k l1).bind fun tR => ((laws_toRat.f a2_0 a2_1).bind fun btS => ((impl_IsPseudoOrbit.f k tQ tR btS.1 btS.2).bind fun btU => (if (btU.1 != tP) = true then (laws_FnExactIsPseudoOrbit.j0 k l0 l1 tQ tR true) else (laws_FnExactIsPseudoOrbit.j0 k l0 l1 tQ tR (btU.2 != tZ))))))) = some r := H; have A13 := Aside0.mk AAA; clear AAA; replace H := Option.bind_eq_some_iff.mp H; obtain ⟨tQ, AAB, H⟩ := H; replace H : ((laws_toRatS.f k l1).bind fun tR => ((laws_toRat.f a2_0 a2_1).bind fun btS => ((impl_IsPseudoOrbit.f k tQ tR btS.1 btS.2).bind fun btU => (if (btU.1 != tP) = true then (laws_FnExactIsPseudoOrbit.j0 k l0 l1 tQ tR true) else (laws_FnExactIsPseudoOrbit.j0 k l0 l1 tQ tR (btU.2 != tZ)))))) = some r := H; have A14 := Aside0.mk AAB; clear AAB; replace H := Option.bind_eq_some_iff.mp H; obtain ⟨tR, AAC, H⟩ := H; replace H : ((laws_toRat.f a2_0 a2_1).bind fun btS => ((impl_IsPseudoOrbit.f k tQ tR btS.1 btS.2).bind fun btU => (if (btU.1 != tP) = true then (laws_FnExactIsPseudoOrbit.j0 k l0 l1 tQ tR true) else (laws_FnExactIsPseudoOrbit.j0 k l0 l1 tQ tR (btU.2 != tZ))))) = some r := H; have A15 := Aside0.mk AAC; clear AAC; replace H := Option.bind_eq_some_iff.mp H; obtain ⟨⟨tS, tAD⟩, AAE, H⟩ := H; replace H : ((impl_IsPseudoOrbit.f k tQ tR tS tAD).bind fun btU => (if (btU.1 != tP) = true then (laws_FnExactIsPseudoOrbit.j0 k l0 l1 tQ tR true) else (laws_FnExactIsPseudoOrbit.j0 k l0 l1 tQ tR (btU.2 != tZ)))) = some r := H; have A16 := Aside0.mk AAE; clear AAE; replace H := Option.bind_eq_some_iff.mp H; obtain ⟨⟨tU, tAF⟩, AAG, H⟩ := H; replace H : (if (tU != tP) = true then (laws_FnExactIsPseudoOrbit.j0 k l0 l1 tQ tR true) else (laws_FnExactIsPseudoOrbit.j0 k l0 l1 tQ tR (tAF != tZ))) = some r := H; have A17 := Aside0.mk AAG; clear AAG; have HC18 := Aside0.mk H; clear H; go_enter Try.func4, Try.ntmps4
   try go_wp2_with (first | ((with_reducible refine gate_dst (N := 5) rfl ?_); refine boxE 5 #[.int .i64 a2_0, .int .i64 a2_1] 38 ?_; intro gbI hg w19 hbox hb; have GWI := gwA (below_size zz171) hg; have GEI := GWI; have BKI := Aside0.mk (hbox); replace HB := Aside0.mk (below_step zz171 hb); clear hb hbox hg) | ((with_reducible refine gate_callee (f := 8) rfl ?_); refine goesL_ (some 16) rfl rfl Try.func8 (by kernel_rfl) rfl #[.slice A0 l0.length c0, .int .i64 1048576] rfl zz170 ?_; (with_reducible refine (laws_szPointS.calls _ _ l0 1048576 tJ _ ?side1 ?side2 A4.out).mono ?_); (case side1 => repeat (first | exact (Kd.C_below HR0.out HB.out) | (with_reducible refine Kd.C_alloc ?_ _) | (with_reducible refine Kd.C_drewN ?_ _) | (with_reducible refine Kd.C_drew ?_))); (case side2 => exact HC0.out); rintro e w' ⟨rfl, ⟨nd, rfl⟩⟩; refine ⟨_, rfl, ?_⟩) | ((with_reducible refine gate_callee (f := 9) rfl ?_); refine goesL_ (some 21) rfl rfl Try.func9 (by kernel_rfl) rfl #[.slice A1 l1.length c1, .int .i64 tJ] rfl zz170 ?_; (with_reducible refine (laws_szRatS.calls _ _ l1 tJ tK _ ?side1 ?side2 A7.out).mono ?_); (case side1 => repeat (first | exact (Kd.C_below HR1.out zz167) | (with_reducible refine Kd.C_alloc ?_ _) | (with_reducible refine Kd.C_drewN ?_ _) | (with_reducible refine Kd.C_drew ?_))); (case side2 => exact HC1.out); rintro e w' ⟨rfl, ⟨nd, rfl⟩⟩; refine ⟨_, rfl, ?_⟩))
   (try (rw [drewN_self w19]; generalize hq_ : World.drewN w19 _ = w19; have n0_ : Aside0 (w19.heap[gbI]? = some (.cells #[.int .i64 a2_0, .int .i64 a2_1] 38 (0, 0))) := ⟨by rw [← hq_]; exact (by (with_reducible repeat (first | refine blk_drewN ?_ _ | refine blk_drew ?_ | refine blk_alloc ?_ _)); exact BKI.out)⟩; have n1_ : Aside0 (Below w.heap.size w w19) := ⟨by rw [← hq_]; exact zz167⟩; clear BKI HB hq_; have BKI := n0_; have HB := n1_; clear n0_ n1_)); replace BKI := Aside0.mk (blk_drew BKI.out); replace HB := Aside0.mk (below_drew1 HB.out); refine start_ (n := 12) (S := fun w' => w'.cell? ⟨gbI, 0, none⟩ = some (.int .i64 a2_0) ∧ w'.cell? ⟨gbI, 1, none⟩ = some (.int .i64 a2_1)) (ds := []) (.replicate 12 fF) (by kernel_rfl) rfl rfl ⟨bcA BKI 0, bcA BKI 1⟩ (fun hHeld => ?_); refine with_tabW laws_FnExactIsPseudoOrbit.tab8 laws_FnExactIsPseudoOrbit.bits8 (fun HT_ HW_ => ?_); generalize w19.drew = w20 at BKI HB hHeld ⊢; refine pureA 0 (some 25) (bB 12 1) HT_ ?_; refine pureA 2 (some 27) (bB 12 5) HT_ ?_; refine takeA5 4 (some 29) (bB 12 21) HT_ HW_ hHeld ?_; refine one_ (i := 1) (N := some 26) (bB 12 23) rfl rfl (one_of HT_.out (by kernel_rfl)) (by decide) (fun K hK => ?_); refine goes_ Try.func11 (by kernel_rfl) rfl #[.slice A0 l0.length c0] (by rfl) rfl rfl zz170 ?_; with_reducible refine (laws_toPointS.calls k _ _ l0 tM _ ?side1 ?side2 A10.out).mono ?_
   (case side1 => repeat (first | exact (Kd.C_below HR0.out HB.out) | (with_reducible refine Kd.C_alloc ?_ _) | (with_reducible refine Kd.C_drewN ?_ _) | (with_reducible refine Kd.C_drew ?_))); (case side2 => exact HC0.out); rintro e w21 ⟨vAH, rfl, ho0, hb⟩; refine ⟨_, rfl, ?_⟩; have HOH := Aside0.mk (Kd.R_lower ho0 (below_size zz167)); replace BKI := blkA BKI hb; replace HB := Aside0.mk (below_step zz167 hb); (try clear hb); (try clear ho0); refine hK.out _ _ ⟨bcA BKI 0, bcA BKI 1⟩ (fun hHeld => ?_); clear hK K; refine normA (some 26) ?_; refine one_ (i := 3) (N := some 28) (bB 12 31) rfl rfl (one_of HT_.out (by kernel_rfl)) (by decide) (fun K hK => ?_); refine goes_ Try.func12 (by kernel_rfl) rfl #[.slice A1 l1.length c1] (by rfl) rfl rfl zz170 ?_; with_reducible refine (laws_toRatS.calls k _ _ l1 tN _ ?side1 ?side2 A11.out).mono ?_
   (case side1 => repeat (first | exact (Kd.C_below HR1.out HB.out) | (with_reducible refine Kd.C_alloc ?_ _) | (with_reducible refine Kd.C_drewN ?_ _) | (with_reducible refine Kd.C_drew ?_))); (case side2 => exact HC1.out); rintro e w22 ⟨vAI, rfl, ho0, hb⟩; refine ⟨_, rfl, ?_⟩; replace HOH := Aside0.mk (Kd.R_below zz222 hb); have HOG := Aside0.mk (Kd.R_lower ho0 (below_size zz167)); replace BKI := blkA BKI hb; replace HB := Aside0.mk (below_step zz167 hb); (try clear hb); (try clear ho0); refine hK.out _ _ ⟨bcA BKI 0, bcA BKI 1⟩ (fun hHeld => ?_); clear hK K; refine normA (some 28) ?_; refine one_ (i := 5) (N := some 30) (bB 12 63) rfl rfl (one_of HT_.out (by kernel_rfl)) (by decide) (fun K hK => ?_); refine goes_ Try.func18 (by kernel_rfl) rfl #[.agg #[.int .i64 a2_0, .int .i64 a2_1]] (by rfl) rfl rfl zz170 ?_; with_reducible refine (laws_toRat.calls a2_0 a2_1 tO tX _ A12.out).mono ?_
   rintro e w23 ⟨rfl, hb⟩; refine ⟨_, rfl, ?_⟩; replace HOH := Aside0.mk (Kd.R_below zz222 hb); replace HOG := Aside0.mk (Kd.R_below zz223 hb); replace BKI := blkA BKI hb; replace HB := Aside0.mk (below_step zz167 hb); (try clear hb); obtain ⟨Ao24, co24, eo24⟩ := Kd.R_slice HOH.out; (first | subst eo24 | (injection eo24 with f1_ f2_ f3_; have f4_ := f1_.symm; have f5_ := f3_.symm; clear f1_ f2_ f3_; subst f4_; subst f5_))
   obtain ⟨Ao25, co25, eo25⟩ := Kd.R_slice HOG.out; (first | subst eo25 | (injection eo25 with f1_ f2_ f3_; have f4_ := f1_.symm; have f5_ := f3_.symm; clear f1_ f2_ f3_; subst f4_; subst f5_))
   refine hK.out _ _ ⟨bcA BKI 0, bcA BKI 1⟩ (fun hHeld => ?_); clear hK K; refine normA (some 30) ?_; refine one_ (i := 6) (N := some 31) (bB 12 127) rfl rfl (one_of HT_.out (by kernel_rfl)) (by decide) (fun K hK => ?_); refine goes_ Try.func17 (by kernel_rfl) rfl #[.slice Ao24 tM.length co24, .slice Ao25 tN.length co25, .agg #[.int .i64 tO, .int .i64 tX]] (by rfl) rfl rfl zz170 ?_; with_reducible refine (spec_IsPseudoOrbit.calls k _ _ tM _ _ tN tO tX tP tZ _ ?side1 ?side2 ?side3 ?side4 A13.out).mono ?_
   (case side1 => repeat (first | exact (Kd.R_reads' HOH.out).2.2 | (with_reducible refine Kd.C_alloc ?_ _) | (with_reducible refine Kd.C_drewN ?_ _) | (with_reducible refine Kd.C_drew ?_))); (case side2 => exact (Kd.R_reads' HOH.out).2.1); (case side3 => repeat (first | exact (Kd.R_reads' HOG.out).2.2 | (with_reducible refine Kd.C_alloc ?_ _) | (with_reducible refine Kd.C_drewN ?_ _) | (with_reducible refine Kd.C_drew ?_))); (case side4 => exact (Kd.R_reads' HOG.out).2.1); rintro e w26 ⟨rfl, hb⟩; refine ⟨_, rfl, ?_⟩; replace HOH := Aside0.mk (Kd.R_below zz222 hb); replace HOG := Aside0.mk (Kd.R_below zz223 hb); replace BKI := blkA BKI hb; replace HB := Aside0.mk (below_step zz167 hb); (try clear hb); refine hK.out _ _ ⟨bcA BKI 0, bcA BKI 1⟩ (fun hHeld => ?_); clear hK K; refine normA (some 31) ?_; refine pureA 7 (some 24) (bB 12 255) HT_ ?_; refine pureA 8 (some 32) (bB 12 511) HT_ ?_; refine pureA 9 (some 33) (bB 12 1023) HT_ ?_; refine pureA 10 (some 8) (bB 12 2047) HT_ ?_; refine pureA 11 (some 9) (bB 12 4095) HT_ ?_; refine done_ (done_of HT_.out (by kernel_rfl)) ?_; go_upto_region 12 with (first | ((with_reducible refine gate_callee (f := 11) rfl ?_); refine goesL_ (some 35) rfl rfl Try.func11 (by kernel_rfl) rfl #[.slice A0 l0.length c0] rfl zz170 ?_; (with_reducible refine (laws_toPointS.calls k _ _ l0 tQ _ ?side1 ?side2 A14.out).mono ?_); (case side1 => repeat (first | exact (Kd.C_below HR0.out HB.out) | (with_reducible refine Kd.C_alloc ?_ _) | (with_reducible refine Kd.C_drewN ?_ _) | (with_reducible refine Kd.C_drew ?_))); (case side2 => exact HC0.out); rintro e w27 ⟨vAJ, rfl, ho0, hb⟩; refine ⟨_, rfl, ?_⟩; have n0_ := Aside0.mk (Kd.R_elder' zz222 (Kd.R_base ho0) hb); replace HOG := Aside0.mk (Kd.R_below zz223 hb); have HOE := Aside0.mk (Kd.R_lower (Kd.R_new' ho0 (Kd.R_lt zz222)) (below_size zz167)); clear HOH; have HOH := n0_; clear n0_; replace BKI := blkA BKI hb; replace HB := Aside0.mk (below_step zz167 hb); (try clear hb); (try clear ho0)) | ((with_reducible refine gate_callee (f := 12) rfl ?_); refine goesL_ (some 37) rfl rfl Try.func12 (by kernel_rfl) rfl #[.slice A1 l1.length c1] rfl zz170 ?_; (with_reducible refine (laws_toRatS.calls k _ _ l1 tR _ ?side1 ?side2 A15.out).mono ?_); (case side1 => repeat (first | exact (Kd.C_below HR1.out HB.out) | (with_reducible refine Kd.C_alloc ?_ _) | (with_reducible refine Kd.C_drewN ?_ _) | (with_reducible refine Kd.C_drew ?_))); (case side2 => exact HC1.out); rintro e w28 ⟨vAK, rfl, ho0, hb⟩; refine ⟨_, rfl, ?_⟩; replace HOH := Aside0.mk (Kd.R_below zz222 hb); have n1_ := Aside0.mk (Kd.R_elder' zz223 (Kd.R_base ho0) hb); replace HOE := Aside0.mk (Kd.R_below zz224 hb); have HOD := Aside0.mk (Kd.R_lower (Kd.R_new' ho0 (Kd.R_lt zz223)) (below_size zz167)); clear HOG; have HOG := n1_; clear n1_; replace BKI := blkA BKI hb; replace HB := Aside0.mk (below_step zz167 hb); (try clear hb); (try clear ho0); obtain ⟨hcz29_0, hcz29_1, hfz29_0, hfz29_1⟩ := cz2 BKI.out) | ((with_reducible refine gate_callee (f := 18) rfl ?_); refine goesL_ (some 42) rfl rfl Try.func18 (by kernel_rfl) rfl #[.agg #[.int .i64 a2_0, .int .i64 a2_1]] rfl zz170 ?_; (with_reducible refine (laws_toRat.calls a2_0 a2_1 tS tAD _ A16.out).mono ?_); rintro e w30 ⟨rfl, hb⟩; refine ⟨_, rfl, ?_⟩; replace HOH := Aside0.mk (Kd.R_below zz222 hb); replace HOG := Aside0.mk (Kd.R_below zz223 hb); replace HOE := Aside0.mk (Kd.R_below zz224 hb); replace HOD := Aside0.mk (Kd.R_below zz225 hb); replace BKI := blkA BKI hb; replace HB := Aside0.mk (below_step zz167 hb); (try clear hb); obtain ⟨Ao31, co31, eo31⟩ := Kd.R_slice HOE.out; subst eo31; obtain ⟨Ao32, co32, eo32⟩ := Kd.R_slice HOD.out; subst eo32) | ((with_reducible refine gate_callee (f := 19) rfl ?_); refine goesL_ (some 43) rfl rfl Try.func19 (by kernel_rfl) rfl #[.slice Ao31 tQ.length co31, .slice Ao32 tR.length co32, .agg #[.int .i64 tS, .int .i64 tAD]] rfl zz170 ?_; (with_reducible refine (impl_IsPseudoOrbit.calls k _ _ tQ _ _ tR tS tAD tU tAF _ ?side1 ?side2 ?side3 ?side4 A17.out).mono ?_); (case side1 => repeat (first | exact (Kd.R_reads' HOE.out).2.2 | (with_reducible refine Kd.C_alloc ?_ _) | (with_reducible refine Kd.C_drewN ?_ _) | (with_reducible refine Kd.C_drew ?_))); (case side2 => exact (Kd.R_reads' HOE.out).2.1); (case side3 => repeat (first | exact (Kd.R_reads' HOD.out).2.2 | (with_reducible refine Kd.C_alloc ?_ _) | (with_reducible refine Kd.C_drewN ?_ _) | (with_reducible refine Kd.C_drew ?_))); (case side4 => exact (Kd.R_reads' HOD.out).2.1); rintro e w33 ⟨rfl, hb⟩; refine ⟨_, rfl, ?_⟩; replace HOH := Aside0.mk (Kd.R_below zz222 hb); replace HOG := Aside0.mk (Kd.R_below zz223 hb); replace HOE := Aside0.mk (Kd.R_below zz224 hb); replace HOD := Aside0.mk (Kd.R_below zz225 hb); replace BKI := blkA BKI hb; replace HB := Aside0.mk (below_step zz167 hb); (try clear hb)))
   (try simp only [Act.put, List.setIfInBounds_toArray, List.set_cons_zero, List.set_cons_succ]); go_cut [53] (fun v53 wc => ∃ (kq : Nat) (x53_17 : Bool), v53 = .bool x53_17 ∧ Aside0 (laws_FnExactIsPseudoOrbit.j0 kq l0 l1 tQ tR x53_17 = some r) ∧ Aside0 (kq ≤ k) ∧ Aside0 (Kd.R k57 57 wc w.heap.size (fun _ => True) (.slice Ao31 tQ.length co31) tQ) ∧ Aside0 (Kd.R k27 27 wc w.heap.size (fun _ => True) (.slice Ao32 tR.length co32) tR) ∧ Aside0 (wc.heap[gbI]? = some (.cells #[.int .i64 a2_0, .int .i64 a2_1] 38 (0, 0))) ∧ Aside0 (Below w.heap.size w wc))
   case first =>
    have H := HC18.out; clear HC18; by_cases c34 : (tU != tP) = true
    ·rw [if_pos c34] at H; have c34b0 : (tU != tP) = true := c34; (try (have c34b1 : decide (tU = tP) = false := by simpa using c34)); (try (have c34b2 : (tU == tP) = false := by simpa using c34)); (try (have c34b3 : ¬ (tU = tP) := by simpa using c34)); clear c34; (first | rw [c34b0] | (simp only [i64_w, i32_w]; rw [c34b0]) | skip)
     have H' := Aside0.mk H; clear H; go_wp2
     go_meet
     case rel => exact ⟨_, (true), zz246, H', ⟨by first | omega | exact Nat.le_refl _⟩, ⟨by (with_reducible repeat (first | apply Kd.R_alloc | apply Kd.R_drewN | apply Kd.R_drew)); exact Kd.R_mono HOE.out (fun _ hk => trivial)⟩, ⟨by (with_reducible repeat (first | apply Kd.R_alloc | apply Kd.R_drewN | apply Kd.R_drew)); exact Kd.R_mono HOD.out (fun _ hk => trivial)⟩, ⟨by (with_reducible repeat (first | refine blk_drewN ?_ _ | refine blk_drew ?_ | refine blk_alloc ?_ _)); exact BKI.out⟩, ⟨by repeat (first | (with_reducible first | exact HB.out | apply below_alloc | apply pw_below_drewN | apply below_drew1 | refine below_set ?_ GEI.out) | exact HB.out)⟩⟩
    ·rw [if_neg c34] at H; have c34b0 : (tU != tP) = false := by simpa using c34
     (try (have c34b1 : decide (tU = tP) = true := by simpa using c34)); (try (have c34b2 : (tU == tP) = true := by simpa using c34)); clear c34; (first | rw [c34b0] | (simp only [i64_w, i32_w]; rw [c34b0]) | skip)
     have H' := Aside0.mk H; clear H; go_wp2
     go_meet
     case rel => exact ⟨_, ((tAF != tZ)), zz246, H', ⟨by first | omega | exact Nat.le_refl _⟩, ⟨by (with_reducible repeat (first | apply Kd.R_alloc | apply Kd.R_drewN | apply Kd.R_drew)); exact Kd.R_mono HOE.out (fun _ hk => trivial)⟩, ⟨by (with_reducible repeat (first | apply Kd.R_alloc | apply Kd.R_drewN | apply Kd.R_drew)); exact Kd.R_mono HOD.out (fun _ hk => trivial)⟩, ⟨by (with_reducible repeat (first | refine blk_drewN ?_ _ | refine blk_drew ?_ | refine blk_alloc ?_ _)); exact BKI.out⟩, ⟨by repeat (first | (with_reducible first | exact HB.out | apply below_alloc | apply pw_below_drewN | apply below_drew1 | refine below_set ?_ GEI.out) | exact HB.out)⟩⟩
   case rest =>
    clear HC18; try clear c1
    try clear p2
    try clear c3
    try clear c4
    try clear c5
    try clear c5b0
    try clear c8
    try clear c8b0
    try clear c9
    try clear c11
    try clear c12
    try clear c17
    try clear c18
    try clear c19
    try clear c34
    try clear c34b0
    try clear c34b1
    try clear c34b2
    try clear hcz29_0
    try clear hcz29_1
    try clear hfz29_0
    try clear hfz29_1
    obtain ⟨kq, x53_17, rfl, HA, HJ17, HO_10, HO_11, BKI, HB⟩ := hcut; cases kq with
    | zero => exact absurd HA.out (by simp [laws_FnExactIsPseudoOrbit.j0])
    | succ kj17 =>
     have H := HA.out; clear HA; simp only [laws_FnExactIsPseudoOrbit.j0] at H; by_cases c35 : x53_17 = true
     ·subst c35; have H1 : (some false) = some r := by rw [if_pos rfl] at H; exact H
      clear H; have H := H1; clear H1; obtain rfl := Option.some.inj H; go_wp2
      go_ret
      exact ⟨zz234, zz167⟩
     ·replace c35 := Bool.eq_false_iff.mpr c35; subst c35; have H1 : ((laws_toPointS.f kj17 l0).bind fun tAL => ((laws_eqPointS.f kj17 tQ tAL).bind fun tAM => (if tAM = true then ((laws_toRatS.f kj17 l1).bind fun tAN => ((laws_eqRatS.f kj17 tR tAN).bind fun tAO => (if tAO = true then (some true) else (some false)))) else (some false)))) = some r := by rw [if_neg (show ¬ (false = true) by decide)] at H; exact H
      clear H; have H := H1; clear H1; replace H := Option.bind_eq_some_iff.mp H; obtain ⟨tAL, AAP, H⟩ := H; replace H : ((laws_eqPointS.f kj17 tQ tAL).bind fun tAM => (if tAM = true then ((laws_toRatS.f kj17 l1).bind fun tAN => ((laws_eqRatS.f kj17 tR tAN).bind fun tAO => (if tAO = true then (some true) else (some false)))) else (some false))) = some r := H; have A36 := Aside0.mk AAP; clear AAP; replace H := Option.bind_eq_some_iff.mp H; obtain ⟨tAM, AAQ, H⟩ := H; replace H : (if tAM = true then ((laws_toRatS.f kj17 l1).bind fun tAN => ((laws_eqRatS.f kj17 tR tAN).bind fun tAO => (if tAO = true then (some true) else (some false)))) else (some false)) = some r := H; have A37 := Aside0.mk AAQ; clear AAQ; by_cases c38 : tAM = true
      ·subst c38; have H1 : ((laws_toRatS.f kj17 l1).bind fun tAN => ((laws_eqRatS.f kj17 tR tAN).bind fun tAO => (if tAO = true then (some true) else (some false)))) = some r := by rw [if_pos rfl] at H; exact H
       clear H; have H := H1; clear H1; replace H := Option.bind_eq_some_iff.mp H; obtain ⟨tAN, AAR, H⟩ := H; replace H : ((laws_eqRatS.f kj17 tR tAN).bind fun tAO => (if tAO = true then (some true) else (some false))) = some r := H; have A39 := Aside0.mk AAR; clear AAR; replace H := Option.bind_eq_some_iff.mp H; obtain ⟨tAO, AAS, H⟩ := H; replace H : (if tAO = true then (some true) else (some false)) = some r := H; have A40 := Aside0.mk AAS; clear AAS; by_cases c41 : tAO = true
       ·subst c41; have H1 : (some true) = some r := by rw [if_pos rfl] at H; exact H
        clear H; have H := H1; clear H1; obtain rfl := Option.some.inj H; go_wp2_with (first | ((with_reducible refine gate_callee (f := 11) rfl ?_); refine goesL_ (some 56) rfl rfl Try.func11 (by kernel_rfl) rfl #[.slice A0 l0.length c0] rfl zz170 ?_; (with_reducible refine (laws_toPointS.calls kj17 _ _ l0 tAL _ ?side1 ?side2 A36.out).mono ?_); (case side1 => repeat (first | exact (Kd.C_below HR0.out HB.out) | (with_reducible refine Kd.C_alloc ?_ _) | (with_reducible refine Kd.C_drewN ?_ _) | (with_reducible refine Kd.C_drew ?_))); (case side2 => exact HC0.out); rintro e w42 ⟨vAT, rfl, ho0, hb⟩; refine ⟨_, rfl, ?_⟩; have n0_ := Aside0.mk (Kd.R_elder' zz226 (Kd.R_base ho0) hb); replace HO_11 := Aside0.mk (Kd.R_below zz227 hb); have HOC := Aside0.mk (Kd.R_lower (Kd.R_new' ho0 (Kd.R_lt zz226)) (below_size zz167)); clear HO_10; have HO_10 := n0_; clear n0_; replace BKI := blkA BKI hb; replace HB := Aside0.mk (below_step zz167 hb); (try clear hb); (try clear ho0); obtain ⟨Ao43, co43, eo43⟩ := Kd.R_slice HOC.out; subst eo43) | ((with_reducible refine gate_callee (f := 15) rfl ?_); refine goesL_ (some 57) rfl rfl Try.func15 (by kernel_rfl) rfl #[.slice Ao31 tQ.length co31, .slice Ao43 tAL.length co43] rfl zz170 ?_; (with_reducible refine (laws_eqPointS.calls kj17 _ _ tQ _ _ tAL true _ ?side1 ?side2 ?side3 ?side4 A37.out).mono ?_); (case side1 => repeat (first | exact (Kd.R_reads' HO_10.out).2.2 | (with_reducible refine Kd.C_alloc ?_ _) | (with_reducible refine Kd.C_drewN ?_ _) | (with_reducible refine Kd.C_drew ?_))); (case side2 => exact (Kd.R_reads' HO_10.out).2.1); (case side3 => repeat (first | exact (Kd.R_reads' HOC.out).2.2 | (with_reducible refine Kd.C_alloc ?_ _) | (with_reducible refine Kd.C_drewN ?_ _) | (with_reducible refine Kd.C_drew ?_))); (case side4 => exact (Kd.R_reads' HOC.out).2.1); rintro e w44 ⟨rfl, hb⟩; refine ⟨_, rfl, ?_⟩; replace HO_10 := Aside0.mk (Kd.R_below zz226 hb); replace HO_11 := Aside0.mk (Kd.R_below zz227 hb); replace HOC := Aside0.mk (Kd.R_below zz228 hb); replace BKI := blkA BKI hb; replace HB := Aside0.mk (below_step zz167 hb); (try clear hb)) | ((with_reducible refine gate_callee (f := 12) rfl ?_); refine goesL_ (some 61) rfl rfl Try.func12 (by kernel_rfl) rfl #[.slice A1 l1.length c1] rfl zz170 ?_; (with_reducible refine (laws_toRatS.calls kj17 _ _ l1 tAN _ ?side1 ?side2 A39.out).mono ?_); (case side1 => repeat (first | exact (Kd.C_below HR1.out HB.out) | (with_reducible refine Kd.C_alloc ?_ _) | (with_reducible refine Kd.C_drewN ?_ _) | (with_reducible refine Kd.C_drew ?_))); (case side2 => exact HC1.out); rintro e w45 ⟨vAU, rfl, ho0, hb⟩; refine ⟨_, rfl, ?_⟩; replace HO_10 := Aside0.mk (Kd.R_below zz226 hb); have n1_ := Aside0.mk (Kd.R_elder' zz227 (Kd.R_base ho0) hb); replace HOC := Aside0.mk (Kd.R_below zz228 hb); have HOA := Aside0.mk (Kd.R_lower (Kd.R_new' ho0 (Kd.R_lt zz227)) (below_size zz167)); clear HO_11; have HO_11 := n1_; clear n1_; replace BKI := blkA BKI hb; replace HB := Aside0.mk (below_step zz167 hb); (try clear hb); (try clear ho0); obtain ⟨Ao46, co46, eo46⟩ := Kd.R_slice HOA.out; subst eo46) | ((with_reducible refine gate_callee (f := 16) rfl ?_); refine goesL_ (some 62) rfl rfl Try.func16 (by kernel_rfl) rfl #[.slice Ao32 tR.length co32, .slice Ao46 tAN.length co46] rfl zz170 ?_; (with_reducible refine (laws_eqRatS.calls kj17 _ _ tR _ _ tAN true _ ?side1 ?side2 ?side3 ?side4 A40.out).mono ?_); (case side1 => repeat (first | exact (Kd.R_reads' HO_11.out).2.2 | (with_reducible refine Kd.C_alloc ?_ _) | (with_reducible refine Kd.C_drewN ?_ _) | (with_reducible refine Kd.C_drew ?_))); (case side2 => exact (Kd.R_reads' HO_11.out).2.1); (case side3 => repeat (first | exact (Kd.R_reads' HOA.out).2.2 | (with_reducible refine Kd.C_alloc ?_ _) | (with_reducible refine Kd.C_drewN ?_ _) | (with_reducible refine Kd.C_drew ?_))); (case side4 => exact (Kd.R_reads' HOA.out).2.1); rintro e w47 ⟨rfl, hb⟩; refine ⟨_, rfl, ?_⟩; replace HO_10 := Aside0.mk (Kd.R_below zz226 hb); replace HO_11 := Aside0.mk (Kd.R_below zz227 hb); replace HOC := Aside0.mk (Kd.R_below zz228 hb); replace HOA := Aside0.mk (Kd.R_below zz229 hb); replace BKI := blkA BKI hb; replace HB := Aside0.mk (below_step zz167 hb); (try clear hb)))
        go_ret
        exact ⟨zz234, zz167⟩
       ·replace c41 := Bool.eq_false_iff.mpr c41; subst c41; have H1 : (some false) = some r := by rw [if_neg (show ¬ (false = true) by decide)] at H; exact H
        clear H; have H := H1; clear H1; obtain rfl := Option.some.inj H; go_wp2_with (first | ((with_reducible refine gate_callee (f := 11) rfl ?_); refine goesL_ (some 56) rfl rfl Try.func11 (by kernel_rfl) rfl #[.slice A0 l0.length c0] rfl zz170 ?_; (with_reducible refine (laws_toPointS.calls kj17 _ _ l0 tAL _ ?side1 ?side2 A36.out).mono ?_); (case side1 => repeat (first | exact (Kd.C_below HR0.out HB.out) | (with_reducible refine Kd.C_alloc ?_ _) | (with_reducible refine Kd.C_drewN ?_ _) | (with_reducible refine Kd.C_drew ?_))); (case side2 => exact HC0.out); rintro e w48 ⟨vAT, rfl, ho0, hb⟩; refine ⟨_, rfl, ?_⟩; have n0_ := Aside0.mk (Kd.R_elder' zz226 (Kd.R_base ho0) hb); replace HO_11 := Aside0.mk (Kd.R_below zz227 hb); have HOC := Aside0.mk (Kd.R_lower (Kd.R_new' ho0 (Kd.R_lt zz226)) (below_size zz167)); clear HO_10; have HO_10 := n0_; clear n0_; replace BKI := blkA BKI hb; replace HB := Aside0.mk (below_step zz167 hb); (try clear hb); (try clear ho0); obtain ⟨Ao49, co49, eo49⟩ := Kd.R_slice HOC.out; subst eo49) | ((with_reducible refine gate_callee (f := 15) rfl ?_); refine goesL_ (some 57) rfl rfl Try.func15 (by kernel_rfl) rfl #[.slice Ao31 tQ.length co31, .slice Ao49 tAL.length co49] rfl zz170 ?_; (with_reducible refine (laws_eqPointS.calls kj17 _ _ tQ _ _ tAL true _ ?side1 ?side2 ?side3 ?side4 A37.out).mono ?_); (case side1 => repeat (first | exact (Kd.R_reads' HO_10.out).2.2 | (with_reducible refine Kd.C_alloc ?_ _) | (with_reducible refine Kd.C_drewN ?_ _) | (with_reducible refine Kd.C_drew ?_))); (case side2 => exact (Kd.R_reads' HO_10.out).2.1); (case side3 => repeat (first | exact (Kd.R_reads' HOC.out).2.2 | (with_reducible refine Kd.C_alloc ?_ _) | (with_reducible refine Kd.C_drewN ?_ _) | (with_reducible refine Kd.C_drew ?_))); (case side4 => exact (Kd.R_reads' HOC.out).2.1); rintro e w50 ⟨rfl, hb⟩; refine ⟨_, rfl, ?_⟩; replace HO_10 := Aside0.mk (Kd.R_below zz226 hb); replace HO_11 := Aside0.mk (Kd.R_below zz227 hb); replace HOC := Aside0.mk (Kd.R_below zz228 hb); replace BKI := blkA BKI hb; replace HB := Aside0.mk (below_step zz167 hb); (try clear hb)) | ((with_reducible refine gate_callee (f := 12) rfl ?_); refine goesL_ (some 61) rfl rfl Try.func12 (by kernel_rfl) rfl #[.slice A1 l1.length c1] rfl zz170 ?_; (with_reducible refine (laws_toRatS.calls kj17 _ _ l1 tAN _ ?side1 ?side2 A39.out).mono ?_); (case side1 => repeat (first | exact (Kd.C_below HR1.out HB.out) | (with_reducible refine Kd.C_alloc ?_ _) | (with_reducible refine Kd.C_drewN ?_ _) | (with_reducible refine Kd.C_drew ?_))); (case side2 => exact HC1.out); rintro e w51 ⟨vAU, rfl, ho0, hb⟩; refine ⟨_, rfl, ?_⟩; replace HO_10 := Aside0.mk (Kd.R_below zz226 hb); have n1_ := Aside0.mk (Kd.R_elder' zz227 (Kd.R_base ho0) hb); replace HOC := Aside0.mk (Kd.R_below zz228 hb); have HOA := Aside0.mk (Kd.R_lower (Kd.R_new' ho0 (Kd.R_lt zz227)) (below_size zz167)); clear HO_11; have HO_11 := n1_; clear n1_; replace BKI := blkA BKI hb; replace HB := Aside0.mk (below_step zz167 hb); (try clear hb); (try clear ho0); obtain ⟨Ao52, co52, eo52⟩ := Kd.R_slice HOA.out; subst eo52) | ((with_reducible refine gate_callee (f := 16) rfl ?_); refine goesL_ (some 62) rfl rfl Try.func16 (by kernel_rfl) rfl #[.slice Ao32 tR.length co32, .slice Ao52 tAN.length co52] rfl zz170 ?_; (with_reducible refine (laws_eqRatS.calls kj17 _ _ tR _ _ tAN false _ ?side1 ?side2 ?side3 ?side4 A40.out).mono ?_); (case side1 => repeat (first | exact (Kd.R_reads' HO_11.out).2.2 | (with_reducible refine Kd.C_alloc ?_ _) | (with_reducible refine Kd.C_drewN ?_ _) | (with_reducible refine Kd.C_drew ?_))); (case side2 => exact (Kd.R_reads' HO_11.out).2.1); (case side3 => repeat (first | exact (Kd.R_reads' HOA.out).2.2 | (with_reducible refine Kd.C_alloc ?_ _) | (with_reducible refine Kd.C_drewN ?_ _) | (with_reducible refine Kd.C_drew ?_))); (case side4 => exact (Kd.R_reads' HOA.out).2.1); rintro e w53 ⟨rfl, hb⟩; refine ⟨_, rfl, ?_⟩; replace HO_10 := Aside0.mk (Kd.R_below zz226 hb); replace HO_11 := Aside0.mk (Kd.R_below zz227 hb); replace HOC := Aside0.mk (Kd.R_below zz228 hb); replace HOA := Aside0.mk (Kd.R_below zz229 hb); replace BKI := blkA BKI hb; replace HB := Aside0.mk (below_step zz167 hb); (try clear hb)))
        go_ret
        exact ⟨zz234, zz167⟩
      ·replace c38 := Bool.eq_false_iff.mpr c38; subst c38; have H1 : (some false) = some r := by rw [if_neg (show ¬ (false = true) by decide)] at H; exact H
       clear H; have H := H1; clear H1; obtain rfl := Option.some.inj H; go_wp2_with (first | ((with_reducible refine gate_callee (f := 11) rfl ?_); refine goesL_ (some 56) rfl rfl Try.func11 (by kernel_rfl) rfl #[.slice A0 l0.length c0] rfl zz170 ?_; (with_reducible refine (laws_toPointS.calls kj17 _ _ l0 tAL _ ?side1 ?side2 A36.out).mono ?_); (case side1 => repeat (first | exact (Kd.C_below HR0.out HB.out) | (with_reducible refine Kd.C_alloc ?_ _) | (with_reducible refine Kd.C_drewN ?_ _) | (with_reducible refine Kd.C_drew ?_))); (case side2 => exact HC0.out); rintro e w54 ⟨vAT, rfl, ho0, hb⟩; refine ⟨_, rfl, ?_⟩; have n0_ := Aside0.mk (Kd.R_elder' zz226 (Kd.R_base ho0) hb); replace HO_11 := Aside0.mk (Kd.R_below zz227 hb); have HOC := Aside0.mk (Kd.R_lower (Kd.R_new' ho0 (Kd.R_lt zz226)) (below_size zz167)); clear HO_10; have HO_10 := n0_; clear n0_; replace BKI := blkA BKI hb; replace HB := Aside0.mk (below_step zz167 hb); (try clear hb); (try clear ho0); obtain ⟨Ao55, co55, eo55⟩ := Kd.R_slice HOC.out; subst eo55) | ((with_reducible refine gate_callee (f := 15) rfl ?_); refine goesL_ (some 57) rfl rfl Try.func15 (by kernel_rfl) rfl #[.slice Ao31 tQ.length co31, .slice Ao55 tAL.length co55] rfl zz170 ?_; (with_reducible refine (laws_eqPointS.calls kj17 _ _ tQ _ _ tAL false _ ?side1 ?side2 ?side3 ?side4 A37.out).mono ?_); (case side1 => repeat (first | exact (Kd.R_reads' HO_10.out).2.2 | (with_reducible refine Kd.C_alloc ?_ _) | (with_reducible refine Kd.C_drewN ?_ _) | (with_reducible refine Kd.C_drew ?_))); (case side2 => exact (Kd.R_reads' HO_10.out).2.1); (case side3 => repeat (first | exact (Kd.R_reads' HOC.out).2.2 | (with_reducible refine Kd.C_alloc ?_ _) | (with_reducible refine Kd.C_drewN ?_ _) | (with_reducible refine Kd.C_drew ?_))); (case side4 => exact (Kd.R_reads' HOC.out).2.1); rintro e w56 ⟨rfl, hb⟩; refine ⟨_, rfl, ?_⟩; replace HO_10 := Aside0.mk (Kd.R_below zz226 hb); replace HO_11 := Aside0.mk (Kd.R_below zz227 hb); replace HOC := Aside0.mk (Kd.R_below zz228 hb); replace BKI := blkA BKI hb; replace HB := Aside0.mk (below_step zz167 hb); (try clear hb)))
       go_ret
       exact ⟨zz234, zz167⟩
def laws_FnExactIsPseudoOrbit.Pure : Prop := ∀ (l0 : List (S60)) (l1 : List (S38)) (a2_0 : Int) (a2_1 : Int), l0.length ≤ maxLen → (∀ x ∈ l0, (((Lit.int .i64 x.f0.f0).wf = true ∧ (Lit.int .i64 x.f0.f1).wf = true) ∧ ((Lit.int .i64 x.f1.f0).wf = true ∧ (Lit.int .i64 x.f1.f1).wf = true))) → l1.length ≤ maxLen → (∀ x ∈ l1, ((Lit.int .i64 x.f0).wf = true ∧ (Lit.int .i64 x.f1).wf = true)) → (Lit.int .i64 a2_0).wf = true → (Lit.int .i64 a2_1).wf = true → ∃ k, laws_FnExactIsPseudoOrbit.f k l0 l1 a2_0 a2_1 = some true
end Go.Proofs.Ytlggehdfigkliaa.Q
set_option linter.unusedVariables false
set_option linter.unusedSimpArgs false
namespace Go.Proofs.Ytlggehdfigkliaa.Pu
open Go.RowKit Go.Proofs.Ytlggehdfigkliaa.Q Go.Proofs.YtlggehdfigkliaaW.PrintWords Go.Proofs.YtlggehdfigkliaaW.PrintLast Go.Proofs.YtlggehdfigkliaaW.PrintMore
theorem wr (x : Int) (h : -9223372036854775808 ≤ x ∧ x ≤ 9223372036854775807) : wrap64 x = x := by unfold wrap64; omega
theorem drop_getD {α : Type} (l : List α) (i : Nat) (d : α) (h : i < l.length) : l.drop i = l.getD i d :: l.drop (i + 1) := by
  rw [List.drop_eq_getElem_cons h, List.getD_eq_getElem?_getD, List.getElem?_eq_getElem h]
  rfl
theorem getD_setG {α : Type} (l : List α) (i j : Nat) (v d : α) (hi : i < l.length) : (l.set i v).getD j d = if i = j then v else l.getD j d := by
  simp only [List.getD_eq_getElem?_getD, List.getElem?_set]
  by_cases e : i = j
  · subst e; simp [hi]
  · simp [e]
theorem ext_getDG {α : Type} (d : α) (a b : List α) (hl : a.length = b.length) (h : ∀ j, j < a.length → a.getD j d = b.getD j d) : a = b := by
  apply List.ext_getElem hl
  intro j h1 h2
  have := h j h1
  simpa [List.getD_eq_getElem?_getD, h1, h2] using this
theorem half_lt (b r n : Nat) (hb : b < 2 ^ (n + 1)) (hr : r < b) (h0 : 0 < r) : b % r < 2 ^ n := by
  have h1 : b % r < r := Nat.mod_lt _ h0
  have h2 := Nat.div_add_mod b r
  have h3 : 1 ≤ b / r := (Nat.one_le_div_iff h0).2 (Nat.le_of_lt hr)
  have h4 : r * 1 ≤ r * (b / r) := Nat.mul_le_mul_left r h3
  have h5 : 2 ^ (n + 1) = 2 * 2 ^ n := by rw [Nat.pow_succ]; omega
  omega
theorem gcd_l : ∀ (n k a b : Nat), b < 2 ^ n → 2 * n + 1 < k → impl_greatestDivisor.l0 k (a : Int) (b : Int) = some ((Nat.gcd a b : Nat) : Int) := by
  intro n
  induction n with
  | zero =>
    intro k a b hb hk
    obtain ⟨k, rfl⟩ : ∃ m, k = m + 1 := ⟨k - 1, by omega⟩
    have : b = 0 := by simpa using hb
    subst this
    simp [impl_greatestDivisor.l0]
  | succ n ih =>
    intro k a b hb hk
    obtain ⟨k, rfl⟩ : ∃ m, k = m + 2 := ⟨k - 2, by omega⟩
    simp only [impl_greatestDivisor.l0]
    by_cases h0 : b = 0
    · subst h0; simp
    · rw [if_neg (by omega), ← Int.ofNat_tmod]
      by_cases h1 : a % b = 0
      · rw [h1, if_pos (by rfl), Nat.gcd_comm, Nat.gcd_rec, h1, Nat.gcd_zero_left]
      · rw [if_neg (by omega), ← Int.ofNat_tmod, ih k _ _ (half_lt b (a % b) n hb (Nat.mod_lt _ (by omega)) (by omega)) (by omega)]
        congr 2
        rw [Nat.gcd_comm a b, Nat.gcd_rec b a, Nat.gcd_rec (a % b) b, Nat.gcd_comm]
theorem raCommon_l : ∀ (n k a b : Nat), b < 2 ^ n → 2 * n + 1 < k → spec_raCommon.l0 k (a : Int) (b : Int) = some ((Nat.gcd a b : Nat) : Int) := by
  intro n
  induction n with
  | zero =>
    intro k a b hb hk
    obtain ⟨k, rfl⟩ : ∃ m, k = m + 1 := ⟨k - 1, by omega⟩
    have : b = 0 := by simpa using hb
    subst this
    simp [spec_raCommon.l0]
  | succ n ih =>
    intro k a b hb hk
    obtain ⟨k, rfl⟩ : ∃ m, k = m + 2 := ⟨k - 2, by omega⟩
    simp only [spec_raCommon.l0]
    by_cases h0 : b = 0
    · subst h0; simp
    · rw [if_pos (by omega), if_neg (by omega), ← Int.ofNat_tmod]
      by_cases h1 : a % b = 0
      · rw [h1, if_neg (by simp), Nat.gcd_comm, Nat.gcd_rec, h1, Nat.gcd_zero_left]
      · rw [if_pos (by omega), if_neg (by omega), ← Int.ofNat_tmod, ih k _ _ (half_lt b (a % b) n hb (Nat.mod_lt _ (by omega)) (by omega)) (by omega)]
        congr 2
        rw [Nat.gcd_comm a b, Nat.gcd_rec b a, Nat.gcd_rec (a % b) b, Nat.gcd_comm]
theorem abs_eq (a : Int) (h : -9223372036854775807 ≤ a ∧ a ≤ 9223372036854775807) : impl_abs.f a = some (a.natAbs : Int) := by
  unfold impl_abs.f
  split
  · rw [wr _ (by omega)]; congr 1; omega
  · congr 1; omega
theorem l1Abs_eq (a : Int) (h : -9223372036854775807 ≤ a ∧ a ≤ 9223372036854775807) : spec_l1Abs.f a = some (a.natAbs : Int) := by
  unfold spec_l1Abs.f spec_l1Most.f
  rw [wr _ (by omega)]
  split
  · simp only [Option.bind_some]; congr 1; omega
  · simp only [Option.bind_some]; congr 1; omega
theorem gcd_eq (a b : Int) (ha : -9223372036854775807 ≤ a ∧ a ≤ 9223372036854775807) (hb : -9223372036854775807 ≤ b ∧ b ≤ 9223372036854775807) (k : Nat) (hk : 200 ≤ k) : impl_greatestDivisor.f k a b = some ((Int.gcd a b : Nat) : Int) := by
  unfold impl_greatestDivisor.f
  rw [abs_eq a ha, abs_eq b hb]
  simp only [Option.bind_some]
  rw [gcd_l 64 k _ _ (by omega) (by omega)]
  rfl
def OkR (n d : Int) : Prop := 1 ≤ d ∧ d ≤ 1000000000 ∧ -1000000000 ≤ n ∧ n ≤ 1000000000 ∧ Int.gcd n d = 1
instance (n d : Int) : Decidable (OkR n d) := by unfold OkR; infer_instance
theorem isRat_eq (n d : Int) (k : Nat) (hk : 200 ≤ k) : impl_isRat.f k n d = some (decide (OkR n d)) := by
  unfold impl_isRat.f impl_within.f OkR
  by_cases h1 : 1 ≤ d
  · rw [if_pos h1]
    simp only [Option.bind_some]
    by_cases h2 : d ≤ 1000000000
    · rw [if_pos (by simpa using h2)]
      by_cases h3 : -1000000000 ≤ n
      · rw [if_pos h3]
        simp only [Option.bind_some]
        by_cases h4 : n ≤ 1000000000
        · rw [if_pos (by simpa using h4), gcd_eq n d (by omega) (by omega) k hk]
          simp only [Option.bind_some]
          congr 1
          simp only [h1, h2, h3, h4, true_and]
          rw [Bool.eq_iff_iff]
          simp only [beq_iff_eq, decide_eq_true_eq]
          omega
        · rw [if_neg (by simpa using h4)]; simp [h4]
      · rw [if_neg h3]; simp [h3]
    · rw [if_neg (by simpa using h2)]; simp [h2]
  · rw [if_neg h1]; simp [h1]
theorem raGood_eq (n d : Int) (k : Nat) (hk : 200 ≤ k) : spec_raGood.f k n d = some (decide (OkR n d)) := by
  unfold spec_raGood.f spec_l1In.f OkR
  by_cases h1 : 1 ≤ d
  · rw [if_pos h1]
    simp only [Option.bind_some]
    by_cases h2 : d ≤ 1000000000
    · rw [if_pos (by simpa using h2)]
      by_cases h3 : -1000000000 ≤ n
      · rw [if_pos h3]
        simp only [Option.bind_some]
        by_cases h4 : n ≤ 1000000000
        · rw [if_pos (by simpa using h4), l1Abs_eq n (by omega)]
          simp only [Option.bind_some]
          unfold spec_raCommon.f
          have := raCommon_l 64 k n.natAbs d.natAbs (by omega) (by omega)
          rw [show (d.natAbs : Int) = d by omega] at this
          rw [this]
          simp only [Option.bind_some]
          congr 1
          simp only [h1, h2, h3, h4, true_and]
          rw [Bool.eq_iff_iff, Int.gcd_eq_natAbs_gcd_natAbs]
          simp only [beq_iff_eq, decide_eq_true_eq]
          omega
        · rw [if_neg (by simpa using h4)]; simp [h4]
      · rw [if_neg h3]; simp [h3]
    · rw [if_neg (by simpa using h2)]; simp [h2]
  · rw [if_neg h1]; simp [h1]
def sg (n d : Int) : Int := if d < 0 then -(Int.gcd n d : Int) else (Int.gcd n d : Int)
def mk (n d : Int) : Int × Int × Bool := if OkR (n.tdiv (sg n d)) (d.tdiv (sg n d)) then (n.tdiv (sg n d), d.tdiv (sg n d), true) else (0, 0, false)
theorem tdiv_bd (n q : Int) (h : -9223372036854775807 ≤ n ∧ n ≤ 9223372036854775807) : -9223372036854775808 ≤ n.tdiv q ∧ n.tdiv q ≤ 9223372036854775807 := by
  have h1 := Int.natAbs_tdiv n q
  have h2 : n.natAbs.div q.natAbs ≤ n.natAbs := Nat.div_le_self _ _
  omega
theorem gcd_pos (n d : Int) (hd : d ≠ 0) : 0 < Int.gcd n d := by
  rw [Int.gcd_eq_natAbs_gcd_natAbs]
  exact Nat.gcd_pos_of_pos_right _ (by omega)
theorem gcd_le (n d : Int) (hd : d ≠ 0) : Int.gcd n d ≤ d.natAbs := by
  rw [Int.gcd_eq_natAbs_gcd_natAbs]
  exact Nat.gcd_le_right _ (by omega)
theorem lowest_eq (n d : Int) (hd : d ≠ 0) (hn : -9223372036854775807 ≤ n ∧ n ≤ 9223372036854775807) (hd2 : -9223372036854775807 ≤ d ∧ d ≤ 9223372036854775807) (k : Nat) (hk : 200 ≤ k) : impl_lowest.f k n d = some (mk n d) := by
  unfold impl_lowest.f mk
  have h1 := gcd_pos n d hd
  have h2 := gcd_le n d hd
  rw [gcd_eq n d hn hd2 k hk]
  simp only [Option.bind_some]
  unfold sg
  split
  · rw [wr (-(Int.gcd n d : Int)) (by omega), if_neg (by omega), wr _ (tdiv_bd _ _ hn), wr _ (tdiv_bd _ _ hd2), isRat_eq _ _ k hk]
    simp only [Option.bind_some, decide_eq_true_eq]
    split <;> rfl
  · rw [if_neg (by omega), wr _ (tdiv_bd _ _ hn), wr _ (tdiv_bd _ _ hd2), isRat_eq _ _ k hk]
    simp only [Option.bind_some, decide_eq_true_eq]
    split <;> rfl
theorem raMake_eq (n d : Int) (hd : d ≠ 0) (hn : -9223372036854775807 ≤ n ∧ n ≤ 9223372036854775807) (hd2 : -9223372036854775807 ≤ d ∧ d ≤ 9223372036854775807) (k : Nat) (hk : 200 ≤ k) : spec_raMake.f k n d = some (mk n d) := by
  unfold spec_raMake.f mk
  have h1 := gcd_pos n d hd
  have h2 := gcd_le n d hd
  rw [if_neg hd, l1Abs_eq n hn, l1Abs_eq d hd2]
  simp only [Option.bind_some]
  unfold spec_raCommon.f
  rw [raCommon_l 64 k _ _ (by omega) (by omega)]
  simp only [Option.bind_some]
  rw [← Int.gcd_eq_natAbs_gcd_natAbs]
  unfold sg
  split
  · rw [wr (-(Int.gcd n d : Int)) (by omega), if_neg (by omega), wr _ (tdiv_bd _ _ hn), wr _ (tdiv_bd _ _ hd2), raGood_eq _ _ k hk]
    simp only [Option.bind_some, decide_eq_true_eq]
    split <;> rfl
  · rw [if_neg (by omega), wr _ (tdiv_bd _ _ hn), wr _ (tdiv_bd _ _ hd2), raGood_eq _ _ k hk]
    simp only [Option.bind_some, decide_eq_true_eq]
    split <;> rfl
theorem raMake_zero (n : Int) (k : Nat) : spec_raMake.f k n 0 = some (0, 0, false) := by
  unfold spec_raMake.f
  rw [if_pos rfl]
theorem mk_ok (n d : Int) (h : (mk n d).2.2 = true) : OkR (mk n d).1 (mk n d).2.1 := by
  unfold mk at h ⊢
  split
  · rename_i h1; exact h1
  · rename_i h1; rw [if_neg h1] at h; cases h
theorem mk_bad (n d : Int) (h : (mk n d).2.2 = false) : mk n d = (0, 0, false) := by
  unfold mk at h ⊢
  split
  · rename_i h1; rw [if_pos h1] at h; cases h
  · rfl
theorem natAbs_div_le (n q : Int) : (n.tdiv q).natAbs ≤ n.natAbs := by
  rw [Int.natAbs_tdiv]
  exact Nat.div_le_self _ _
theorem mk_small (n d : Int) (hd : d ≠ 0) (hn : n.natAbs ≤ 1000000000) (hd2 : d.natAbs ≤ 1000000000) : OkR (n.tdiv (sg n d)) (d.tdiv (sg n d)) ∧ (n.tdiv (sg n d)).natAbs ≤ n.natAbs ∧ (d.tdiv (sg n d)).natAbs ≤ d.natAbs ∧ mk n d = (n.tdiv (sg n d), d.tdiv (sg n d), true) := by
  have hg := gcd_pos n d hd
  have e1 : (Int.gcd n d : Int) ∣ n := Int.gcd_dvd_left n d
  have e2 : (Int.gcd n d : Int) ∣ d := Int.gcd_dvd_right n d
  have h1 := natAbs_div_le n (sg n d)
  have h2 := natAbs_div_le d (sg n d)
  have hgo := Int.gcd_ediv_gcd_ediv_gcd hg
  have ok : OkR (n.tdiv (sg n d)) (d.tdiv (sg n d)) := by
    have hpos : 1 ≤ d.tdiv (sg n d) ∧ Int.gcd (n.tdiv (sg n d)) (d.tdiv (sg n d)) = 1 := by
      unfold sg
      split
      · rename_i hneg
        rw [Int.tdiv_neg, Int.tdiv_neg, Int.gcd_neg, Int.neg_gcd, Int.tdiv_eq_ediv_of_dvd e1, Int.tdiv_eq_ediv_of_dvd e2]
        refine ⟨?_, hgo⟩
        obtain ⟨c, hc⟩ := e2
        have : d / (Int.gcd n d : Int) = c := by
          conv => lhs; lhs; rw [hc]
          exact Int.mul_ediv_cancel_left c (by omega)
        rw [this]
        have : c < 0 := by
          rcases Int.lt_or_le c 0 with h | h
          · exact h
          · have := Int.mul_nonneg (show (0 : Int) ≤ (Int.gcd n d : Int) by omega) h
            omega
        omega
      · rename_i hpos
        rw [Int.tdiv_eq_ediv_of_dvd e1, Int.tdiv_eq_ediv_of_dvd e2]
        refine ⟨?_, hgo⟩
        obtain ⟨c, hc⟩ := e2
        have : d / (Int.gcd n d : Int) = c := by
          conv => lhs; lhs; rw [hc]
          exact Int.mul_ediv_cancel_left c (by omega)
        rw [this]
        rcases Int.lt_or_le 0 c with h | h
        · omega
        · have := Int.mul_le_mul_of_nonneg_left h (show (0 : Int) ≤ (Int.gcd n d : Int) by omega)
          rw [Int.mul_zero] at this
          omega
    exact ⟨hpos.1, by omega, by omega, by omega, hpos.2⟩
  exact ⟨ok, h1, h2, by unfold mk; rw [if_pos ok]⟩
end Go.Proofs.Ytlggehdfigkliaa.Pu
set_option linter.unusedVariables false
set_option linter.unusedSimpArgs false
namespace Go.Proofs.Ytlggehdfigkliaa.Pu
open Go.RowKit Go.Proofs.Ytlggehdfigkliaa.Q Go.Proofs.YtlggehdfigkliaaW.PrintWords Go.Proofs.YtlggehdfigkliaaW.PrintLast Go.Proofs.YtlggehdfigkliaaW.PrintMore
theorem rdRat (l : List S27) (i : Nat) : rd_T27 l (i : Int) = l.getD i z27 := by simp [rd_T27]
theorem rdlRat (l : List S38) (i : Nat) : rd_T38 l (i : Int) = l.getD i z38 := by simp [rd_T38]
def cvRat (x : S38) : S27 := ⟨x.f0, x.f1⟩
theorem cvRat_getD (l : List S38) (i : Nat) (h : i < l.length) : (l.map cvRat).getD i z27 = cvRat (l.getD i z38) := by
  simp [List.getD_eq_getElem?_getD, h]
theorem toRatS_l (x0 : List S38) (hb : x0.length ≤ 9000000000000000000) : ∀ (d k : Nat) (x3 : List S27) (i : Nat), i + d = x0.length → x3.length = x0.length → (∀ j, j < i → x3.getD j z27 = cvRat (x0.getD j z38)) → d < k → laws_toRatS.l0 k x0 x3 (i : Int) = some (x0.map cvRat) := by
  intro d
  induction d with
  | zero =>
    intro k x3 i hi hl hj hk
    obtain ⟨k, rfl⟩ : ∃ m, k = m + 1 := ⟨k - 1, by omega⟩
    simp only [laws_toRatS.l0]
    rw [if_neg (by omega), ext_getDG z27 x3 (x0.map cvRat) (by simpa using hl) (fun j h => by rw [hj j (by omega), cvRat_getD _ _ (by omega)])]
  | succ d ih =>
    intro k x3 i hi hl hj hk
    obtain ⟨k, rfl⟩ : ∃ m, k = m + 1 := ⟨k - 1, by omega⟩
    simp only [laws_toRatS.l0, laws_toRat.f, laws_toRat.f, Option.bind_some]
    rw [if_pos (by omega), if_pos (by omega), if_pos (by omega), wr _ (by omega), Int.toNat_natCast, rdlRat]
    refine ih k _ (i + 1) (by omega) (by simpa using hl) (fun j h => ?_) (by omega)
    rw [getD_setG _ _ _ _ _ (by omega)]
    split
    · rename_i e; rw [← e]; rfl
    · exact hj j (by omega)
theorem toRatS (l : List S38) (hb : l.length ≤ 1048576) (k : Nat) (hk : l.length < k) : laws_toRatS.f k l = some (l.map cvRat) := by
  unfold laws_toRatS.f
  rw [if_pos (by omega), if_pos (by omega)]
  exact toRatS_l l (by omega) l.length k _ 0 (by omega) (by simp) (fun j h => by omega) hk
theorem eqRat_self (x : S27) : laws_eqRat.f x.f0 x.f1 x.f0 x.f1 = some true := by
  simp [laws_eqRat.f, laws_eqRat.f]
theorem eqRatS_l (a : List S27) (hb : a.length ≤ 9000000000000000000) : ∀ (d k : Nat) (i : Nat), i + d = a.length → d < k → laws_eqRatS.l0 k a a (i : Int) = some true := by
  intro d
  induction d with
  | zero =>
    intro k i hi hk
    obtain ⟨k, rfl⟩ : ∃ m, k = m + 1 := ⟨k - 1, by omega⟩
    simp only [laws_eqRatS.l0]
    rw [if_neg (by omega)]
  | succ d ih =>
    intro k i hi hk
    obtain ⟨k, rfl⟩ : ∃ m, k = m + 1 := ⟨k - 1, by omega⟩
    simp only [laws_eqRatS.l0, eqRat_self, Option.bind_some]
    rw [if_pos (by omega), if_pos (by omega), if_pos (by omega), wr _ (by omega)]
    exact ih k (i + 1) (by omega) (by omega)
theorem eqRatS_self (a : List S27) (hb : a.length ≤ 9000000000000000000) (k : Nat) (hk : a.length < k) : laws_eqRatS.f k a a = some true := by
  unfold laws_eqRatS.f
  rw [if_pos rfl]
  exact eqRatS_l a hb a.length k 0 (by omega) hk
end Go.Proofs.Ytlggehdfigkliaa.Pu
set_option linter.unusedVariables false
set_option linter.unusedSimpArgs false
namespace Go.Proofs.Ytlggehdfigkliaa.Pu
open Go.RowKit Go.Proofs.Ytlggehdfigkliaa.Q Go.Proofs.YtlggehdfigkliaaW.PrintWords Go.Proofs.YtlggehdfigkliaaW.PrintLast Go.Proofs.YtlggehdfigkliaaW.PrintMore
theorem rdPoint (l : List S57) (i : Nat) : rd_T57 l (i : Int) = l.getD i z57 := by simp [rd_T57]
theorem rdlPoint (l : List S60) (i : Nat) : rd_T60 l (i : Int) = l.getD i z60 := by simp [rd_T60]
def cvPoint (x : S60) : S57 := ⟨⟨x.f0.f0, x.f0.f1⟩, ⟨x.f1.f0, x.f1.f1⟩⟩
theorem cvPoint_getD (l : List S60) (i : Nat) (h : i < l.length) : (l.map cvPoint).getD i z57 = cvPoint (l.getD i z60) := by
  simp [List.getD_eq_getElem?_getD, h]
theorem toPointS_l (x0 : List S60) (hb : x0.length ≤ 9000000000000000000) : ∀ (d k : Nat) (x3 : List S57) (i : Nat), i + d = x0.length → x3.length = x0.length → (∀ j, j < i → x3.getD j z57 = cvPoint (x0.getD j z60)) → d < k → laws_toPointS.l0 k x0 x3 (i : Int) = some (x0.map cvPoint) := by
  intro d
  induction d with
  | zero =>
    intro k x3 i hi hl hj hk
    obtain ⟨k, rfl⟩ : ∃ m, k = m + 1 := ⟨k - 1, by omega⟩
    simp only [laws_toPointS.l0]
    rw [if_neg (by omega), ext_getDG z57 x3 (x0.map cvPoint) (by simpa using hl) (fun j h => by rw [hj j (by omega), cvPoint_getD _ _ (by omega)])]
  | succ d ih =>
    intro k x3 i hi hl hj hk
    obtain ⟨k, rfl⟩ : ∃ m, k = m + 1 := ⟨k - 1, by omega⟩
    simp only [laws_toPointS.l0, laws_toPoint.f, laws_toRat.f, Option.bind_some]
    rw [if_pos (by omega), if_pos (by omega), if_pos (by omega), wr _ (by omega), Int.toNat_natCast, rdlPoint]
    refine ih k _ (i + 1) (by omega) (by simpa using hl) (fun j h => ?_) (by omega)
    rw [getD_setG _ _ _ _ _ (by omega)]
    split
    · rename_i e; rw [← e]; rfl
    · exact hj j (by omega)
theorem toPointS (l : List S60) (hb : l.length ≤ 1048576) (k : Nat) (hk : l.length < k) : laws_toPointS.f k l = some (l.map cvPoint) := by
  unfold laws_toPointS.f
  rw [if_pos (by omega), if_pos (by omega)]
  exact toPointS_l l (by omega) l.length k _ 0 (by omega) (by simp) (fun j h => by omega) hk
theorem eqPoint_self (x : S57) : laws_eqPoint.f x.f0.f0 x.f0.f1 x.f1.f0 x.f1.f1 x.f0.f0 x.f0.f1 x.f1.f0 x.f1.f1 = some true := by
  simp [laws_eqPoint.f, laws_eqRat.f]
theorem eqPointS_l (a : List S57) (hb : a.length ≤ 9000000000000000000) : ∀ (d k : Nat) (i : Nat), i + d = a.length → d < k → laws_eqPointS.l0 k a a (i : Int) = some true := by
  intro d
  induction d with
  | zero =>
    intro k i hi hk
    obtain ⟨k, rfl⟩ : ∃ m, k = m + 1 := ⟨k - 1, by omega⟩
    simp only [laws_eqPointS.l0]
    rw [if_neg (by omega)]
  | succ d ih =>
    intro k i hi hk
    obtain ⟨k, rfl⟩ : ∃ m, k = m + 1 := ⟨k - 1, by omega⟩
    simp only [laws_eqPointS.l0, eqPoint_self, Option.bind_some]
    rw [if_pos (by omega), if_pos (by omega), if_pos (by omega), wr _ (by omega)]
    exact ih k (i + 1) (by omega) (by omega)
theorem eqPointS_self (a : List S57) (hb : a.length ≤ 9000000000000000000) (k : Nat) (hk : a.length < k) : laws_eqPointS.f k a a = some true := by
  unfold laws_eqPointS.f
  rw [if_pos rfl]
  exact eqPointS_l a hb a.length k 0 (by omega) hk
end Go.Proofs.Ytlggehdfigkliaa.Pu
set_option linter.unusedVariables false
set_option linter.unusedSimpArgs false
namespace Go.Proofs.Ytlggehdfigkliaa.Pu
open Go.RowKit Go.Proofs.Ytlggehdfigkliaa.Q Go.Proofs.YtlggehdfigkliaaW.PrintWords Go.Proofs.YtlggehdfigkliaaW.PrintLast Go.Proofs.YtlggehdfigkliaaW.PrintMore
theorem mul_bd (x y : Int) (B C : Nat) (hx : x.natAbs ≤ B) (hy : y.natAbs ≤ C) : (x * y).natAbs ≤ B * C := by
  rw [Int.natAbs_mul]
  exact Nat.mul_le_mul hx hy
def Bd (n d : Int) : Prop := n.natAbs ≤ 1000000000 ∧ d.natAbs ≤ 1000000000
theorem OkR.bd {n d : Int} (h : OkR n d) : Bd n d := by
  obtain ⟨h1, h2, h3, h4, _⟩ := h
  exact ⟨by omega, by omega⟩
theorem cross_bd {a b c d : Int} (h1 : Bd a b) (h2 : Bd c d) : (a * d).natAbs ≤ 1000000000000000000 ∧ (c * b).natAbs ≤ 1000000000000000000 ∧ (b * d).natAbs ≤ 1000000000000000000 ∧ (a * c).natAbs ≤ 1000000000000000000 :=
  ⟨mul_bd a d _ _ h1.1 h2.2, mul_bd c b _ _ h2.1 h1.2, mul_bd b d _ _ h1.2 h2.2, mul_bd a c _ _ h1.1 h2.1⟩
theorem less_eq {a b c d : Int} (h1 : Bd a b) (h2 : Bd c d) : impl_less.f a b c d = some (decide (a * d < c * b)) := by
  obtain ⟨m1, m2, _⟩ := cross_bd h1 h2
  unfold impl_less.f impl_compare.f
  generalize a * d = p at *
  generalize c * b = q at *
  rw [wr p (by omega), wr q (by omega)]
  by_cases h : p < q
  · rw [if_pos h]; simp [h]
  · rw [if_neg h]
    by_cases h3 : p > q
    · rw [if_pos h3]; simp [h]
    · rw [if_neg h3]; simp [h]
theorem raCmp_eq {a b c d : Int} (h1 : Bd a b) (h2 : Bd c d) : ∃ t, spec_raCmp.f a b c d = some t ∧ (t < 0 ↔ a * d < c * b) ∧ (t = 0 ↔ a * d = c * b) := by
  obtain ⟨m1, m2, _⟩ := cross_bd h1 h2
  unfold spec_raCmp.f spec_l1Sign.f
  generalize a * d = p at *
  generalize c * b = q at *
  rw [wr p (by omega), wr q (by omega), wr (p - q) (by omega)]
  by_cases h : p - q > 0
  · rw [if_pos h]
    exact ⟨1, rfl, by omega, by omega⟩
  · rw [if_neg h]
    by_cases h3 : p - q < 0
    · rw [if_pos h3]
      exact ⟨-1, rfl, by omega, by omega⟩
    · rw [if_neg h3]
      exact ⟨0, rfl, by omega, by omega⟩
def OkU (n d : Int) : Prop := OkR n d ∧ 0 ≤ n ∧ n ≤ d
instance (n d : Int) : Decidable (OkU n d) := by unfold OkU; infer_instance
def Co (n d : Int) : Prop := OkU n d ∧ d ≤ 100
instance (n d : Int) : Decidable (Co n d) := by unfold Co; infer_instance
theorem isUnit_eq (n d : Int) (k : Nat) (hk : 200 ≤ k) : impl_isUnit.f k n d = some (decide (OkU n d)) := by
  unfold impl_isUnit.f OkU
  rw [isRat_eq n d k hk]
  simp only [Option.bind_some, decide_eq_true_eq]
  by_cases h : OkR n d
  · rw [if_pos h]
    by_cases h2 : n ≥ 0
    · rw [if_pos h2]; simp [h, h2]
    · rw [if_neg h2]; simp [h2]
  · rw [if_neg h]; simp [h]
theorem raUnit_eq (n d : Int) (k : Nat) (hk : 200 ≤ k) : spec_raUnit.f k n d = some (decide (OkU n d)) := by
  unfold spec_raUnit.f spec_l1In.f OkU
  rw [raGood_eq n d k hk]
  simp only [Option.bind_some, decide_eq_true_eq]
  by_cases h : OkR n d
  · rw [if_pos h]
    by_cases h2 : n ≥ 0
    · rw [if_pos h2]; simp [h, h2]
    · rw [if_neg h2]; simp [h2]
  · rw [if_neg h]; simp [h]
theorem isCoord_eq (n d : Int) (k : Nat) (hk : 200 ≤ k) : impl_isCoord.f k n d = some (decide (Co n d)) := by
  unfold impl_isCoord.f Co
  rw [isUnit_eq n d k hk]
  simp only [Option.bind_some, decide_eq_true_eq]
  by_cases h : OkU n d
  · rw [if_pos h]; simp [h]
  · rw [if_neg h]; simp [h]
theorem imCoord_eq (n d : Int) (k : Nat) (hk : 200 ≤ k) : spec_imCoord.f k n d = some (decide (Co n d)) := by
  unfold spec_imCoord.f Co
  rw [raUnit_eq n d k hk]
  simp only [Option.bind_some, decide_eq_true_eq]
  by_cases h : OkU n d
  · rw [if_pos h]; simp [h]
  · rw [if_neg h]; simp [h]
abbrev Ra := S27
abbrev Pt := S57
def nr (l : List Ra) (i : Nat) : Ra := l.getD i z27
def np (l : List Pt) (i : Nat) : Pt := l.getD i z57
theorem rd_nr (l : List Ra) (i : Nat) : rd_T27 l (i : Int) = nr l i := rdRat l i
theorem rd_np (l : List Pt) (i : Nat) : rd_T57 l (i : Int) = np l i := rdPoint l i
theorem rd_nr0 (l : List Ra) : rd_T27 l 0 = nr l 0 := rdRat l 0
theorem rd_np0 (l : List Pt) : rd_T57 l 0 = np l 0 := rdPoint l 0
theorem nr_mem (l : List Ra) (i : Nat) (h : i < l.length) : nr l i ∈ l := getD_mem l i _ h
theorem np_mem (l : List Pt) (i : Nat) (h : i < l.length) : np l i ∈ l := getD_mem l i _ h
theorem mem_nr (l : List Ra) (x : Ra) (h : x ∈ l) : ∃ i, i < l.length ∧ nr l i = x := by
  obtain ⟨i, hi, e⟩ := List.mem_iff_getElem.1 h
  exact ⟨i, hi, by simp [nr, List.getD_eq_getElem?_getD, hi, e]⟩
theorem mem_np (l : List Pt) (x : Pt) (h : x ∈ l) : ∃ i, i < l.length ∧ np l i = x := by
  obtain ⟨i, hi, e⟩ := List.mem_iff_getElem.1 h
  exact ⟨i, hi, by simp [np, List.getD_eq_getElem?_getD, hi, e]⟩
def Lt (a b : Ra) : Prop := a.f0 * b.f1 < b.f0 * a.f1
instance (a b : Ra) : Decidable (Lt a b) := by unfold Lt; infer_instance
def BdR (a : Ra) : Prop := Bd a.f0 a.f1
theorem rising_l (l : List Ra) (hl : l.length ≤ 1048576) (hb : ∀ x ∈ l, BdR x) : ∀ (d k i : Nat), 1 ≤ i → i + d = l.length ∨ d = 0 ∧ l.length ≤ i ∧ i ≤ 1048577 → d < k →
    ∃ b, impl_isRising.l0 k l (i : Int) = some b ∧ (b = true ↔ ∀ j, i ≤ j → j < l.length → Lt (nr l (j - 1)) (nr l j)) := by
  intro d
  induction d with
  | zero =>
    intro k i h1 hi hk
    obtain ⟨k, rfl⟩ : ∃ m, k = m + 1 := ⟨k - 1, by omega⟩
    simp only [impl_isRising.l0]
    rw [if_neg (by omega)]
    exact ⟨true, rfl, by simp; intro j _ _; omega⟩
  | succ d ih =>
    intro k i h1 hi hk
    obtain ⟨k, rfl⟩ : ∃ m, k = m + 1 := ⟨k - 1, by omega⟩
    simp only [impl_isRising.l0]
    rw [wr (_ - 1) (by omega), wr (_ + 1) (by omega), if_pos (by omega), if_pos (by omega), if_pos (by omega), if_pos (by omega),
      show (i : Int) - 1 = ((i - 1 : Nat) : Int) by omega, show (i : Int) + 1 = ((i + 1 : Nat) : Int) by omega, rd_nr, rd_nr, less_eq (hb _ (nr_mem l _ (by omega))) (hb _ (nr_mem l _ (by omega)))]
    simp only [Option.bind_some, decide_eq_true_eq]
    by_cases h : Lt (nr l (i - 1)) (nr l i)
    · rw [if_pos (show (nr l (i - 1)).f0 * (nr l i).f1 < (nr l i).f0 * (nr l (i - 1)).f1 from h)]
      obtain ⟨b, e, hb2⟩ := ih k (i + 1) (by omega) (by omega) (by omega)
      refine ⟨b, e, hb2.trans ⟨fun hh j hj hl2 => ?_, fun hh j hj hl2 => hh j (by omega) hl2⟩⟩
      by_cases ej : j = i
      · subst ej; exact h
      · exact hh j (by omega) hl2
    · rw [if_neg (show ¬ (nr l (i - 1)).f0 * (nr l i).f1 < (nr l i).f0 * (nr l (i - 1)).f1 from h)]
      exact ⟨false, rfl, by simp; exact ⟨i, Nat.le_refl _, by omega, h⟩⟩
def Rising (l : List Ra) : Prop := ∀ j, 1 ≤ j → j < l.length → Lt (nr l (j - 1)) (nr l j)
theorem rising_eq (l : List Ra) (hl : l.length ≤ 1048576) (hb : ∀ x ∈ l, BdR x) (k : Nat) (hk : l.length < k) : ∃ b, impl_isRising.f k l = some b ∧ (b = true ↔ Rising l) := by
  unfold impl_isRising.f
  exact rising_l l hl hb (l.length - 1) k 1 (by omega) (by omega) (by omega)
theorem xsOf_l (l : List Pt) (hl : l.length ≤ 1048576) : ∀ (d k i : Nat) (out : List Ra), i + d = l.length → out.length ≤ i → d < k → impl_xsOf.l0 k out l (l.length : Int) (i : Int) = some (out ++ (l.drop i).map fun p => p.f0) := by
  intro d
  induction d with
  | zero =>
    intro k i out hi ho hk
    obtain ⟨k, rfl⟩ : ∃ m, k = m + 1 := ⟨k - 1, by omega⟩
    simp only [impl_xsOf.l0]
    rw [if_neg (by omega), List.drop_of_length_le (by omega)]
    simp
  | succ d ih =>
    intro k i out hi ho hk
    obtain ⟨k, rfl⟩ : ∃ m, k = m + 1 := ⟨k - 1, by omega⟩
    simp only [impl_xsOf.l0]
    rw [wr (_ + 1) (by omega), if_pos (by omega), if_pos (by omega), if_pos (by omega), if_pos (by omega), show (i : Int) + 1 = ((i + 1 : Nat) : Int) by omega, rd_np, ih k (i + 1) _ (by omega) (by simp; omega) (by omega),
      drop_getD l i z57 (by omega)]
    simp [np]
theorem xsOf_eq (l : List Pt) (hl : l.length ≤ 1048576) (k : Nat) (hk : l.length < k) : impl_xsOf.f k l = some (l.map fun p => p.f0) := by
  unfold impl_xsOf.f
  have := xsOf_l l hl l.length k 0 [] (by omega) (by simp) hk
  simpa using this
theorem nr_xs (l : List Pt) (i : Nat) (h : i < l.length) : nr (l.map fun p => p.f0) i = (np l i).f0 := by
  simp [nr, np, List.getD_eq_getElem?_getD, h]
def CoP (p : Pt) : Prop := Co p.f0.f0 p.f0.f1 ∧ Co p.f1.f0 p.f1.f1
instance (p : Pt) : Decidable (CoP p) := by unfold CoP; infer_instance
structure IsMap (l : List Pt) : Prop where
  two : 2 ≤ l.length
  most : l.length ≤ 12
  co : ∀ i, i < l.length → CoP (np l i)
  up : ∀ i, 1 ≤ i → i < l.length → Lt (np l (i - 1)).f0 (np l i).f0
  first : (np l 0).f0 = ⟨0, 1⟩
  last : (np l (l.length - 1)).f0 = ⟨1, 1⟩
theorem CoP.bx {p : Pt} (h : CoP p) : BdR p.f0 := h.1.1.1.bd
theorem CoP.by {p : Pt} (h : CoP p) : BdR p.f1 := h.2.1.1.bd
theorem rat_ext {a : Ra} {n d : Int} (h0 : a.f0 = n) (h1 : a.f1 = d) : a = ⟨n, d⟩ := by cases a; simp_all
theorem isMap_eq (l : List Pt) (hl : l.length ≤ 1048576) (k : Nat) (hk : 1000 ≤ k) : ∃ b, impl_isMap.f k l = some b ∧ (b = true ↔ IsMap l) := by
  unfold impl_isMap.f impl_within.f
  obtain ⟨k, rfl⟩ : ∃ m, k = m + 1 := ⟨k - 1, by omega⟩
  by_cases h2 : (2 : Int) ≤ (l.length : Int)
  · rw [if_pos h2]
    simp only [Option.bind_some]
    by_cases h12 : (l.length : Int) ≤ 12
    · rw [if_pos (by simpa using h12)]
      have hc : ContainsFunc_impl_isMap_1.f (k + 1) l = some (l.any fun p => !decide (CoP p)) := by
        unfold ContainsFunc_impl_isMap_1.f
        apply anyS_of
        intro x _
        unfold impl_isMap_1.f
        rw [isCoord_eq _ _ _ (by omega), isCoord_eq _ _ _ (by omega)]
        simp only [Option.bind_some, decide_eq_true_eq]
        by_cases h : Co x.f0.f0 x.f0.f1
        · rw [if_pos h]; simp [CoP, h]
        · rw [if_neg h]; simp [CoP, h]
      rw [hc]
      simp only [Option.bind_some, impl_isMap.j0]
      by_cases ha : (l.any fun p => !decide (CoP p)) = true
      · rw [if_pos ha]
        refine ⟨false, rfl, ⟨fun h => (by cases h), fun hm => ?_⟩⟩
        obtain ⟨x, hx, hn⟩ := List.any_eq_true.1 ha
        obtain ⟨i, hi, e⟩ := mem_np l x hx
        have := hm.co i hi
        rw [e] at this
        simp [this] at hn
      · rw [if_neg ha]
        have hco : ∀ x ∈ l, CoP x := fun x hx => by
          have : ¬ ((!decide (CoP x)) = true) := fun hh => ha (List.any_eq_true.2 ⟨x, hx, hh⟩)
          simpa using this
        rw [if_pos (by omega)]
        unfold impl_zero.f impl_oneRat.f
        simp only [Option.bind_some]
        rw [wr (_ - 1) (by omega), rd_np0, show (l.length : Int) - 1 = ((l.length - 1 : Nat) : Int) by omega, rd_np]
        by_cases hf : ((np l 0).f0.f0 == 0 && (np l 0).f0.f1 == 1) = true
        · rw [if_pos hf, if_pos (by omega), if_pos (by omega)]
          have hf' : (np l 0).f0 = ⟨0, 1⟩ := by
            simp only [Bool.and_eq_true, beq_iff_eq] at hf
            exact rat_ext hf.1 hf.2
          by_cases hg : ((np l (l.length - 1)).f0.f0 == 1 && (np l (l.length - 1)).f0.f1 == 1) = true
          · rw [if_pos hg]
            have hg' : (np l (l.length - 1)).f0 = ⟨1, 1⟩ := by
              simp only [Bool.and_eq_true, beq_iff_eq] at hg
              exact rat_ext hg.1 hg.2
            rw [xsOf_eq l (by omega) _ (by omega)]
            simp only [Option.bind_some]
            obtain ⟨b, e, hb⟩ := rising_eq (l.map fun p => p.f0) (by simp; omega) (fun x hx => by
              obtain ⟨p, hp, rfl⟩ := List.mem_map.1 hx
              exact (hco p hp).bx) k (by simp; omega)
            rw [e]
            refine ⟨b, rfl, hb.trans ⟨fun hr => ⟨by omega, by omega, fun i hi => hco _ (np_mem l i hi), fun i h1 hi => ?_, hf', hg'⟩, fun hm j h1 hj => ?_⟩⟩
            · have := hr i h1 (by simpa using hi)
              rwa [nr_xs _ _ (by omega), nr_xs _ _ hi] at this
            · rw [nr_xs _ _ (by simp at hj; omega), nr_xs _ _ (by simpa using hj)]
              exact hm.up j h1 (by simpa using hj)
          · rw [if_neg hg]
            exact ⟨false, rfl, by simp; intro hm; exact hg (by rw [hm.last]; rfl)⟩
        · rw [if_neg hf]
          exact ⟨false, rfl, by simp; intro hm; exact hf (by rw [hm.first]; rfl)⟩
    · rw [if_neg (by simpa using h12)]
      simp only [impl_isMap.j0, if_true]
      exact ⟨false, rfl, by simp; intro hm; have := hm.most; omega⟩
  · rw [if_neg h2]
    simp only [Option.bind_some, impl_isMap.j0, if_true]
    exact ⟨false, rfl, by simp; intro hm; have := hm.two; omega⟩
theorem imGood_l (l : List Pt) (h2 : 2 ≤ l.length) (h12 : l.length ≤ 12) : ∀ (d k i : Nat), i + d = l.length → (∀ j, j < i → CoP (np l j)) → (∀ j, 1 ≤ j → j < i → Lt (np l (j - 1)).f0 (np l j).f0) → 500 + d < k →
    ∃ b, spec_imGood.l0 k l l (l.length : Int) (i : Int) = some b ∧ (b = true ↔ IsMap l) := by
  intro d
  induction d with
  | zero =>
    intro k i hi hco hup hk
    obtain ⟨k, rfl⟩ : ∃ m, k = m + 1 := ⟨k - 1, by omega⟩
    simp only [spec_imGood.l0, spec_raInt.f, Option.bind_some]
    rw [if_neg (by omega), if_pos (by omega), rd_np0, wr (_ - 1) (by omega), show (l.length : Int) - 1 = ((l.length - 1 : Nat) : Int) by omega, rd_np]
    obtain ⟨t, e, _, h0⟩ := raCmp_eq (hco 0 (by omega)).bx (show Bd 0 1 by unfold Bd; omega)
    obtain ⟨t2, e2, _, h02⟩ := raCmp_eq (hco (l.length - 1) (by omega)).bx (show Bd 1 1 by unfold Bd; omega)
    rw [e, e2]
    simp only [Option.bind_some]
    have c0 := (hco 0 (by omega)).1.1
    have c1 := (hco (l.length - 1) (by omega)).1.1
    by_cases ht : t = 0
    · rw [if_pos ht, if_pos (by omega), if_pos (by omega)]
      refine ⟨_, rfl, ?_⟩
      have hz := h0.1 ht
      have hz0 : (np l 0).f0.f0 = 0 := by omega
      have hf' : (np l 0).f0 = ⟨0, 1⟩ := by
        refine rat_ext hz0 ?_
        have hg := c0.1.2.2.2.2
        have hp := c0.1.1
        rw [hz0, Int.gcd_zero_left] at hg
        omega
      simp only [beq_iff_eq]
      rw [h02]
      constructor
      · intro hh
        have hz1 : (np l (l.length - 1)).f0.f0 = (np l (l.length - 1)).f0.f1 := by omega
        have hg' : (np l (l.length - 1)).f0 = ⟨1, 1⟩ := by
          have hg := c1.1.2.2.2.2
          have hp := c1.1.1
          rw [hz1, Int.gcd_self] at hg
          exact rat_ext (by omega) (by omega)
        exact ⟨by omega, by omega, fun j hj => hco j (by omega), fun j h1 hj => hup j h1 (by omega), hf', hg'⟩
      · intro hm
        rw [hm.last]
    · rw [if_neg ht]
      refine ⟨false, rfl, ⟨fun h => (by cases h), fun hm => absurd (h0.2 (by rw [hm.first])) ht⟩⟩
  | succ d ih =>
    intro k i hi hco hup hk
    obtain ⟨k, rfl⟩ : ∃ m, k = m + 1 := ⟨k - 1, by omega⟩
    simp only [spec_imGood.l0]
    rw [if_pos (by omega), if_pos (by omega), if_pos (by omega), rd_np, imCoord_eq _ _ k (by omega), imCoord_eq _ _ k (by omega)]
    simp only [Option.bind_some, decide_eq_true_eq]
    by_cases hx : Co (np l i).f0.f0 (np l i).f0.f1
    · rw [if_pos hx]
      by_cases hy : Co (np l i).f1.f0 (np l i).f1.f1
      · rw [if_pos hy, wr (_ + 1) (by omega), show (i : Int) + 1 = ((i + 1 : Nat) : Int) by omega]
        have hci : CoP (np l i) := ⟨hx, hy⟩
        have hco' : ∀ j, j < i + 1 → CoP (np l j) := fun j hj => by
          by_cases ej : j = i
          · subst ej; exact hci
          · exact hco j (by omega)
        by_cases h0 : (i : Int) > 0
        · rw [if_pos h0, wr (_ - 1) (by omega), if_pos (by omega), if_pos (by omega), show (i : Int) - 1 = ((i - 1 : Nat) : Int) by omega, rd_np]
          obtain ⟨t, e, hlt, _⟩ := raCmp_eq (hco (i - 1) (by omega)).bx hci.bx
          rw [e]
          simp only [Option.bind_some]
          by_cases ht : t ≥ 0
          · rw [if_pos ht]
            refine ⟨false, rfl, ⟨fun h => (by cases h), fun hm => ?_⟩⟩
            have := hm.up i (by omega) (by omega)
            have := hlt.2 this
            omega
          · rw [if_neg ht]
            refine ih k (i + 1) (by omega) hco' (fun j h1 hj => ?_) (by omega)
            by_cases ej : j = i
            · subst ej; exact hlt.1 (by omega)
            · exact hup j h1 (by omega)
        · rw [if_neg h0]
          exact ih k (i + 1) (by omega) hco' (fun j h1 hj => by omega) (by omega)
      · rw [if_neg hy]
        exact ⟨false, rfl, by simp; intro hm; exact hy (hm.co i (by omega)).2⟩
    · rw [if_neg hx]
      exact ⟨false, rfl, by simp; intro hm; exact hx (hm.co i (by omega)).1⟩
theorem imGood_eq (l : List Pt) (hl : l.length ≤ 1048576) (k : Nat) (hk : 1000 ≤ k) : ∃ b, spec_imGood.f k l = some b ∧ (b = true ↔ IsMap l) := by
  unfold spec_imGood.f spec_l1In.f
  by_cases h2 : (l.length : Int) ≥ 2
  · rw [if_pos h2]
    simp only [Option.bind_some]
    by_cases h12 : (l.length : Int) ≤ 12
    · rw [if_pos (by simpa using h12)]
      exact imGood_l l (by omega) (by omega) l.length k 0 (by omega) (fun j hj => by omega) (fun j _ hj => by omega) (by omega)
    · rw [if_neg (by simpa using h12)]
      exact ⟨false, rfl, by simp; intro hm; have := hm.most; omega⟩
  · rw [if_neg h2]
    simp only [Option.bind_some]
    exact ⟨false, rfl, by simp; intro hm; have := hm.two; omega⟩
open Classical in
noncomputable def mapB (l : List Pt) : Bool := decide (IsMap l)
theorem mapB_iff (l : List Pt) : mapB l = true ↔ IsMap l := by unfold mapB; simp
theorem isMapB (l : List Pt) (hl : l.length ≤ 1048576) (k : Nat) (hk : 1000 ≤ k) : impl_isMap.f k l = some (mapB l) := by
  obtain ⟨b, e, h⟩ := isMap_eq l hl k hk
  rw [e]
  congr 1
  rw [Bool.eq_iff_iff, h, mapB_iff]
theorem imGoodB (l : List Pt) (hl : l.length ≤ 1048576) (k : Nat) (hk : 1000 ≤ k) : spec_imGood.f k l = some (mapB l) := by
  obtain ⟨b, e, h⟩ := imGood_eq l hl k hk
  rw [e]
  congr 1
  rw [Bool.eq_iff_iff, h, mapB_iff]
end Go.Proofs.Ytlggehdfigkliaa.Pu
set_option linter.unusedVariables false
set_option linter.unusedSimpArgs false
namespace Go.Proofs.Ytlggehdfigkliaa.Pu
open Go.RowKit Go.Proofs.Ytlggehdfigkliaa.Q Go.Proofs.YtlggehdfigkliaaW.PrintWords Go.Proofs.YtlggehdfigkliaaW.PrintLast Go.Proofs.YtlggehdfigkliaaW.PrintMore
abbrev Tri := Int × Int × Bool
def kp (s : Bool) (m : Tri) : Tri := if m.2.2 = true then (m.1, m.2.1, s) else (0, 1, true)
theorem keep_eq (s : Bool) (m : Tri) : impl_calc_keep.f s m.1 m.2.1 m.2.2 = some (kp s m) := by
  unfold impl_calc_keep.f kp impl_zero.f
  split <;> rfl
theorem ok_zero : OkR 0 1 := by unfold OkR; decide
theorem kp_ok {s : Bool} {m : Tri} (h : m.2.2 = true → OkR m.1 m.2.1) : OkR (kp s m).1 (kp s m).2.1 := by
  unfold kp
  split
  · rename_i h1; exact h h1
  · exact ok_zero
theorem kp_bad (s : Bool) (m : Tri) : (kp s m).2.2 = (s || !m.2.2) := by
  unfold kp
  cases m.2.2 <;> simp
theorem kp_val {s : Bool} {m : Tri} (h : m.2.2 = true) : kp s m = (m.1, m.2.1, s) := by
  unfold kp
  rw [if_pos h]
theorem areRats2 (a b : Ra) (k : Nat) (hk : 300 ≤ k) : impl_areRats.f k [a, b] = some (decide (OkR a.f0 a.f1) && decide (OkR b.f0 b.f1)) := by
  unfold impl_areRats.f
  obtain ⟨k, rfl⟩ : ∃ m, k = m + 3 := ⟨k - 3, by omega⟩
  have r0 : rd_T27 [a, b] 0 = a := rfl
  have r1 : rd_T27 [a, b] 1 = b := rfl
  simp only [impl_areRats.l0, List.length_cons, List.length_nil]
  rw [if_pos (by decide), if_pos (by decide), if_pos (by decide), r0, isRat_eq _ _ _ (by omega)]
  simp only [Option.bind_some, decide_eq_true_eq]
  by_cases h : OkR a.f0 a.f1
  · rw [if_pos h]
    have e1 : wrap64 (0 + 1) = 1 := wr _ (by decide)
    have e2 : wrap64 (1 + 1) = 2 := wr _ (by decide)
    rw [e1, if_pos (by decide), if_pos (by decide), if_pos (by decide), r1, isRat_eq _ _ _ (by omega)]
    simp only [Option.bind_some, decide_eq_true_eq]
    by_cases h2 : OkR b.f0 b.f1
    · rw [if_pos h2, e2, if_neg (by decide)]
      simp [h, h2]
    · rw [if_neg h2]; simp [h2]
  · rw [if_neg h]; simp [h]
def addT (a b c d : Int) : Tri := mk (a * d + c * b) (b * d)
def subT (a b c d : Int) : Tri := mk (a * d - c * b) (b * d)
def mulT (a b c d : Int) : Tri := mk (a * c) (b * d)
def divT (a b c d : Int) : Tri := if c = 0 then (0, 0, false) else mk (a * d) (b * c)
theorem addT_ok (a b c d : Int) (h : (addT a b c d).2.2 = true) : OkR (addT a b c d).1 (addT a b c d).2.1 := mk_ok _ _ h
theorem subT_ok (a b c d : Int) (h : (subT a b c d).2.2 = true) : OkR (subT a b c d).1 (subT a b c d).2.1 := mk_ok _ _ h
theorem mulT_ok (a b c d : Int) (h : (mulT a b c d).2.2 = true) : OkR (mulT a b c d).1 (mulT a b c d).2.1 := mk_ok _ _ h
theorem den_pos {a b c d : Int} (h1 : OkR a b) (h2 : OkR c d) : b * d ≠ 0 := by
  have := Int.mul_pos (show 0 < b by have := h1.1; omega) (show 0 < d by have := h2.1; omega)
  omega
section
variable {a b c d : Int} (h1 : OkR a b) (h2 : OkR c d) (k : Nat)
include h1 h2
theorem addRats_eq (hk : 300 ≤ k) : impl_AddRats.f k a b c d = some (addT a b c d) := by
  unfold impl_AddRats.f
  rw [areRats2 _ _ k hk, decide_eq_true h1, decide_eq_true h2]
  simp only [Option.bind_some, Bool.and_true, if_true]
  obtain ⟨m1, m2, m3, _⟩ := cross_bd h1.bd h2.bd
  have hd := den_pos h1 h2
  rw [wr (a * d) (by omega), wr (c * b) (by omega), wr (b * d) (by omega), wr _ (by omega), lowest_eq _ _ hd (by omega) (by omega) k (by omega)]
  rfl
theorem raAdd_eq (hk : 300 ≤ k) : spec_raAdd.f k a b c d = some (addT a b c d) := by
  unfold spec_raAdd.f
  obtain ⟨m1, m2, m3, _⟩ := cross_bd h1.bd h2.bd
  have hd := den_pos h1 h2
  rw [wr (a * d) (by omega), wr (c * b) (by omega), wr (b * d) (by omega), wr _ (by omega), raMake_eq _ _ hd (by omega) (by omega) k (by omega)]
  rfl
theorem raSub_eq (hk : 300 ≤ k) : spec_raSub.f k a b c d = some (subT a b c d) := by
  unfold spec_raSub.f
  obtain ⟨m1, m2, m3, _⟩ := cross_bd h1.bd h2.bd
  have hd := den_pos h1 h2
  rw [wr (a * d) (by omega), wr (c * b) (by omega), wr (b * d) (by omega), wr _ (by omega), raMake_eq _ _ hd (by omega) (by omega) k (by omega)]
  rfl
theorem raMul_eq (hk : 300 ≤ k) : spec_raMul.f k a b c d = some (mulT a b c d) := by
  unfold spec_raMul.f
  obtain ⟨m1, m2, m3, m4⟩ := cross_bd h1.bd h2.bd
  have hd := den_pos h1 h2
  rw [wr (a * c) (by omega), wr (b * d) (by omega), raMake_eq _ _ hd (by omega) (by omega) k (by omega)]
  rfl
theorem raDiv_eq (hk : 300 ≤ k) : spec_raDiv.f k a b c d = some (divT a b c d) := by
  unfold spec_raDiv.f divT
  obtain ⟨m1, m2, m3, m4⟩ := cross_bd h1.bd h2.bd
  split
  · rfl
  · rename_i hc
    have hd : b * c ≠ 0 := Int.mul_ne_zero (by have := h1.1; omega) hc
    have m5 := mul_bd b c _ _ h1.bd.2 h2.bd.1
    rw [wr (a * d) (by omega), wr (b * c) (by omega), raMake_eq _ _ hd (by omega) (by omega) k (by omega)]
    rfl
omit h1 in
theorem negated_ok : OkR (-c) d := by
  obtain ⟨e1, e2, e3, e4, e5⟩ := h2
  exact ⟨e1, e2, by omega, by omega, by rw [Int.neg_gcd]; exact e5⟩
theorem subRats_eq (hk : 300 ≤ k) : impl_SubtractRats.f k a b c d = some (subT a b c d) := by
  unfold impl_SubtractRats.f impl_negated.f
  have hb := h2.bd
  simp only [Option.bind_some]
  rw [wr (-c) (by unfold Bd at hb; omega), addRats_eq h1 (negated_ok h2) k hk]
  simp only [Option.bind_some]
  unfold addT subT
  rw [Int.neg_mul]
  rfl
theorem mulRats_eq (hk : 300 ≤ k) : impl_MultiplyRats.f k a b c d = some (mulT a b c d) := by
  unfold impl_MultiplyRats.f
  rw [areRats2 _ _ k hk, decide_eq_true h1, decide_eq_true h2]
  simp only [Option.bind_some, Bool.and_true, if_true]
  obtain ⟨m1, m2, m3, m4⟩ := cross_bd h1.bd h2.bd
  have hd := den_pos h1 h2
  rw [wr (a * c) (by omega), wr (b * d) (by omega), lowest_eq _ _ hd (by omega) (by omega) k (by omega)]
  rfl
theorem divRats_eq (hk : 300 ≤ k) : impl_DivideRats.f k a b c d = some (divT a b c d) := by
  unfold impl_DivideRats.f divT
  rw [areRats2 _ _ k hk, decide_eq_true h1, decide_eq_true h2]
  simp only [Option.bind_some, Bool.and_true, if_true]
  obtain ⟨m1, m2, m3, m4⟩ := cross_bd h1.bd h2.bd
  split
  · rfl
  · rename_i hc
    have hd : b * c ≠ 0 := Int.mul_ne_zero (by have := h1.1; omega) hc
    have m5 := mul_bd b c _ _ h1.bd.2 h2.bd.1
    rw [wr (a * d) (by omega), wr (b * c) (by omega), lowest_eq _ _ hd (by omega) (by omega) k (by omega)]
    rfl
theorem calc_add (s : Bool) (hk : 300 ≤ k) : impl_calc_add.f k s a b c d = some (kp s (addT a b c d)) := by
  unfold impl_calc_add.f
  rw [addRats_eq h1 h2 k hk, Option.bind_some, keep_eq, Option.bind_some]
theorem calc_sub (s : Bool) (hk : 300 ≤ k) : impl_calc_sub.f k s a b c d = some (kp s (subT a b c d)) := by
  unfold impl_calc_sub.f
  rw [subRats_eq h1 h2 k hk, Option.bind_some, keep_eq, Option.bind_some]
theorem calc_mul (s : Bool) (hk : 300 ≤ k) : impl_calc_mul.f k s a b c d = some (kp s (mulT a b c d)) := by
  unfold impl_calc_mul.f
  rw [mulRats_eq h1 h2 k hk, Option.bind_some, keep_eq, Option.bind_some]
theorem calc_div (s : Bool) (hk : 300 ≤ k) : impl_calc_div.f k s a b c d = some (kp s (divT a b c d)) := by
  unfold impl_calc_div.f
  rw [divRats_eq h1 h2 k hk, Option.bind_some, keep_eq, Option.bind_some]
end
def slT (p q : Pt) : Tri := divT (subT q.f1.f0 q.f1.f1 p.f1.f0 p.f1.f1).1 (subT q.f1.f0 q.f1.f1 p.f1.f0 p.f1.f1).2.1 (subT q.f0.f0 q.f0.f1 p.f0.f0 p.f0.f1).1 (subT q.f0.f0 q.f0.f1 p.f0.f0 p.f0.f1).2.1
theorem co_sub {a b c d : Int} (h1 : Co a b) (h2 : Co c d) : (subT a b c d).2.2 = true ∧ OkR (subT a b c d).1 (subT a b c d).2.1 ∧ (subT a b c d).1.natAbs ≤ 10000 ∧ (subT a b c d).2.1.natAbs ≤ 10000 := by
  obtain ⟨⟨⟨b1, b2, _, _, _⟩, b3, b4⟩, b5⟩ := h1
  obtain ⟨⟨⟨d1, d2, _, _, _⟩, d3, d4⟩, d5⟩ := h2
  have m1 := mul_bd a d 100 100 (by omega) (by omega)
  have m2 := mul_bd c b 100 100 (by omega) (by omega)
  have m3 := mul_bd b d 100 100 (by omega) (by omega)
  have n1 := Int.mul_nonneg b3 (show (0 : Int) ≤ d by omega)
  have n2 := Int.mul_nonneg d3 (show (0 : Int) ≤ b by omega)
  have n3 := Int.mul_pos (show (0 : Int) < b by omega) (show (0 : Int) < d by omega)
  unfold subT
  generalize a * d = x at *
  generalize c * b = y at *
  generalize b * d = z at *
  obtain ⟨e1, e2, e3, e4⟩ := mk_small (x - y) z (by omega) (by omega) (by omega)
  rw [e4]
  exact ⟨rfl, e1, by show (Int.tdiv _ _).natAbs ≤ _; omega, by show (Int.tdiv _ _).natAbs ≤ _; omega⟩
theorem sub_ne {a b c d : Int} (h1 : OkR a b) (h2 : OkR c d) (hlt : c * b < a * d) (hok : (subT a b c d).2.2 = true) : (subT a b c d).1 ≠ 0 := by
  have hd := den_pos h1 h2
  unfold subT mk at hok ⊢
  split at hok
  · rename_i h
    rw [if_pos h]
    intro h0
    have h0' : (a * d - c * b).tdiv (sg (a * d - c * b) (b * d)) = 0 := h0
    have hdv : (sg (a * d - c * b) (b * d)) ∣ (a * d - c * b) := by
      unfold sg
      split
      · exact Int.neg_dvd.2 (Int.gcd_dvd_left _ _)
      · exact Int.gcd_dvd_left _ _
    obtain ⟨t, ht⟩ := hdv
    have hs : sg (a * d - c * b) (b * d) ≠ 0 := by
      have := gcd_pos (a * d - c * b) (b * d) hd
      unfold sg
      split <;> omega
    have : (sg (a * d - c * b) (b * d) * t).tdiv (sg (a * d - c * b) (b * d)) = t := Int.mul_tdiv_cancel_left _ hs
    generalize hg : sg (a * d - c * b) (b * d) = g at *
    rw [ht, this] at h0'
    rw [h0', Int.mul_zero] at ht
    omega
  · cases hok
structure Seg (p q : Pt) : Prop where
  cp : CoP p
  cq : CoP q
  lt : Lt p.f0 q.f0
theorem IsMap.seg {l : List Pt} (h : IsMap l) (i : Nat) (hi : i + 1 < l.length) : Seg (np l i) (np l (i + 1)) :=
  ⟨h.co i (by omega), h.co (i + 1) hi, by have := h.up (i + 1) (by omega) hi; rwa [Nat.add_sub_cancel] at this⟩
theorem seg_slope {p q : Pt} (h : Seg p q) : (slT p q).2.2 = true ∧ OkR (slT p q).1 (slT p q).2.1 := by
  obtain ⟨u1, u2, u3, u4⟩ := co_sub h.cq.2 h.cp.2
  obtain ⟨v1, v2, v3, v4⟩ := co_sub h.cq.1 h.cp.1
  have v5 := sub_ne h.cq.1.1.1 h.cp.1.1.1 h.lt v1
  unfold slT
  generalize hx : subT q.f1.f0 q.f1.f1 p.f1.f0 p.f1.f1 = x at *
  generalize hy : subT q.f0.f0 q.f0.f1 p.f0.f0 p.f0.f1 = y at *
  unfold divT
  rw [if_neg v5]
  have m1 := mul_bd x.1 y.2.1 10000 10000 u3 v4
  have m2 := mul_bd x.2.1 y.1 10000 10000 u4 v3
  have hd : x.2.1 * y.1 ≠ 0 := Int.mul_ne_zero (by have := u2.1; omega) v5
  obtain ⟨e1, e2, e3, e4⟩ := mk_small (x.1 * y.2.1) (x.2.1 * y.1) hd (by omega) (by omega)
  rw [e4]
  exact ⟨rfl, e1⟩
theorem slope_eq {p q : Pt} (h : Seg p q) (s : Bool) (k : Nat) (hk : 300 ≤ k) : impl_calc_slope.f k s p.f0.f0 p.f0.f1 p.f1.f0 p.f1.f1 q.f0.f0 q.f0.f1 q.f1.f0 q.f1.f1 = some ((slT p q).1, (slT p q).2.1, s) := by
  obtain ⟨u1, u2, u3, u4⟩ := co_sub h.cq.2 h.cp.2
  obtain ⟨v1, v2, v3, v4⟩ := co_sub h.cq.1 h.cp.1
  unfold impl_calc_slope.f
  rw [calc_sub h.cq.2.1.1 h.cp.2.1.1 k s hk, kp_val u1, Option.bind_some, calc_sub h.cq.1.1.1 h.cp.1.1.1 k s hk, kp_val v1, Option.bind_some, calc_div u2 v2 k s hk, Option.bind_some]
  have := kp_val (s := s) (seg_slope h).1
  unfold slT at this ⊢
  rw [this]
theorem imSlope_eq {p q : Pt} (h : Seg p q) (k : Nat) (hk : 300 ≤ k) : spec_imSlope.f k p.f0.f0 p.f0.f1 p.f1.f0 p.f1.f1 q.f0.f0 q.f0.f1 q.f1.f0 q.f1.f1 = some ((slT p q).1, (slT p q).2.1) := by
  obtain ⟨u1, u2, u3, u4⟩ := co_sub h.cq.2 h.cp.2
  obtain ⟨v1, v2, v3, v4⟩ := co_sub h.cq.1 h.cp.1
  unfold spec_imSlope.f
  rw [raSub_eq h.cq.2.1.1 h.cp.2.1.1 k hk, Option.bind_some, raSub_eq h.cq.1.1.1 h.cp.1.1.1 k hk, Option.bind_some, raDiv_eq u2 v2 k hk, Option.bind_some]
  rfl
end Go.Proofs.Ytlggehdfigkliaa.Pu
set_option linter.unusedVariables false
set_option linter.unusedSimpArgs false
namespace Go.Proofs.Ytlggehdfigkliaa.Pu
open Go.RowKit Go.Proofs.Ytlggehdfigkliaa.Q Go.Proofs.YtlggehdfigkliaaW.PrintWords Go.Proofs.YtlggehdfigkliaaW.PrintLast Go.Proofs.YtlggehdfigkliaaW.PrintMore
structure Rel (s : Bool) (v m : Tri) : Prop where
  ok : OkR v.1 v.2.1
  bad : v.2.2 = (s || !m.2.2)
  val : m.2.2 = true → v.1 = m.1 ∧ v.2.1 = m.2.1
theorem rel_kp {s : Bool} {m : Tri} (h : m.2.2 = true → OkR m.1 m.2.1) : Rel s (kp s m) m :=
  ⟨kp_ok h, kp_bad s m, fun hm => by rw [kp_val hm]; exact ⟨rfl, rfl⟩⟩
def pcq (x0 x1 : Int) (p : Pt) : Bool := !decide (p.f0.f0 * x1 < x0 * p.f0.f1)
def pc (l : List Pt) (x0 x1 : Int) : Nat := (idxOf (pcq x0 x1) l - 1).toNat
theorem imPiece_l (l : List Pt) (x0 x1 : Int) (hm : IsMap l) (hx : OkR x0 x1) (j : Nat) (hj : j < l.length) (h1 : 1 ≤ j) (hq : ¬ (np l j).f0.f0 * x1 < x0 * (np l j).f0.f1) (hlt : ∀ m, m < j → (np l m).f0.f0 * x1 < x0 * (np l m).f0.f1) :
    ∀ (d k i : Nat), i + d = j - 1 → d < k → spec_imPiece.l0 k l (i : Int) x0 x1 = some ((j - 1 : Nat) : Int) := by
  have hmost := hm.most
  intro d
  induction d with
  | zero =>
    intro k i hi hk
    obtain ⟨k, rfl⟩ : ∃ m, k = m + 1 := ⟨k - 1, by omega⟩
    simp only [spec_imPiece.l0]
    rw [wr (_ + 2) (by omega), wr (_ + 1) (by omega)]
    by_cases h2 : (i : Int) + 2 < (l.length : Int)
    · rw [if_pos h2, if_pos (by omega), if_pos (by omega), show (i : Int) + 1 = ((i + 1 : Nat) : Int) by omega, rd_np]
      obtain ⟨t, e, ht, _⟩ := raCmp_eq (hm.co (i + 1) (by omega)).bx hx.bd
      rw [e, Option.bind_some]
      have ej : i + 1 = j := by omega
      rw [ej] at ht
      rw [if_neg (fun h => hq (ht.1 h))]
      congr 1
      omega
    · rw [if_neg h2]
      congr 1
      omega
  | succ d ih =>
    intro k i hi hk
    obtain ⟨k, rfl⟩ : ∃ m, k = m + 1 := ⟨k - 1, by omega⟩
    simp only [spec_imPiece.l0]
    rw [wr (_ + 2) (by omega), wr (_ + 1) (by omega), if_pos (by omega), if_pos (by omega), if_pos (by omega), show (i : Int) + 1 = ((i + 1 : Nat) : Int) by omega, rd_np]
    obtain ⟨t, e, ht, _⟩ := raCmp_eq (hm.co (i + 1) (by omega)).bx hx.bd
    rw [e, Option.bind_some, if_pos (ht.2 (hlt (i + 1) (by omega)))]
    exact ih k (i + 1) (by omega) (by omega)
theorem piece_eq (l : List Pt) (x0 x1 : Int) (hm : IsMap l) (hx : OkU x0 x1) : pc l x0 x1 + 1 < l.length ∧ impl_pieceAt.f l x0 x1 = some (pc l x0 x1 : Int) ∧ (∀ k, 100 ≤ k → spec_imPiece.f k l x0 x1 = some (pc l x0 x1 : Int)) ∧
    (np l (pc l x0 x1)).f0.f0 * x1 ≤ x0 * (np l (pc l x0 x1)).f0.f1 ∧ x0 * (np l (pc l x0 x1 + 1)).f0.f1 ≤ (np l (pc l x0 x1 + 1)).f0.f0 * x1 := by
  have h2 := hm.two
  have hmost := hm.most
  have hne : idxOf (pcq x0 x1) l ≠ -1 := fun h => by
    have := idxOf_neg _ _ h (np l (l.length - 1)) (np_mem l _ (by omega))
    unfold pcq at this
    rw [hm.last] at this
    have h3 := hx.2.2
    simp at this
    omega
  obtain ⟨j, ej, hj, hq, hlt⟩ := idxOf_pos _ _ z57 hne
  have hqj : ¬ (np l j).f0.f0 * x1 < x0 * (np l j).f0.f1 := by
    have : pcq x0 x1 (np l j) = true := hq
    unfold pcq at this
    simpa using this
  have hltj : ∀ m, m < j → (np l m).f0.f0 * x1 < x0 * (np l m).f0.f1 := fun m hmj => by
    have : pcq x0 x1 (np l m) = false := hlt m hmj
    unfold pcq at this
    simpa using this
  have himpl : impl_pieceAt.f l x0 x1 = some (if (j : Int) ≤ 1 then 0 else (j : Int) - 1) := by
    unfold impl_pieceAt.f
    rw [idxS_of (p := pcq x0 x1) (fun p hp => by
      obtain ⟨i, hi, e⟩ := mem_np l p hp
      have hb := (hm.co i hi).bx
      rw [e] at hb
      rw [less_eq hb hx.1.bd]
      rfl)]
    rw [Option.bind_some, ej]
  have hpc : pc l x0 x1 = j - 1 := by
    unfold pc
    rw [ej]
    omega
  rw [hpc]
  rcases Nat.eq_zero_or_pos j with h0 | hpos
  · subst h0
    rw [hm.first] at hqj
    simp at hqj
    have hx0 : x0 = 0 := by have := hx.2.1; omega
    subst hx0
    have hx1 := hx.1.1
    refine ⟨by omega, himpl, fun k hk => ?_, by simp [hm.first], ?_⟩
    · obtain ⟨k, rfl⟩ : ∃ m, k = m + 1 := ⟨k - 1, by omega⟩
      unfold spec_imPiece.f
      simp only [spec_imPiece.l0]
      rw [wr (0 + 2) (by omega), wr (0 + 1) (by omega)]
      by_cases h3 : (0 : Int) + 2 < (l.length : Int)
      · rw [if_pos h3, if_pos (by omega), if_pos (by omega), show (0 : Int) + 1 = ((1 : Nat) : Int) by omega, rd_np]
        obtain ⟨t, e, ht, _⟩ := raCmp_eq (hm.co 1 (by omega)).bx hx.1.bd
        rw [e, Option.bind_some, if_neg (fun h => by
          have h4 := ht.1 h
          have h5 := Int.mul_nonneg (hm.co 1 (by omega)).1.1.2.1 (show (0 : Int) ≤ x1 by omega)
          omega)]
        rfl
      · rw [if_neg h3]; rfl
    · have h5 := Int.mul_nonneg (hm.co (0 - 1 + 1) (by omega)).1.1.2.1 (show (0 : Int) ≤ x1 by omega)
      omega
  · have e1 : j - 1 + 1 = j := by omega
    refine ⟨by omega, ?_, fun k hk => ?_, ?_, ?_⟩
    · rw [himpl]
      congr 1
      split <;> omega
    · unfold spec_imPiece.f
      exact imPiece_l l x0 x1 hm hx.1 j hj hpos hqj hltj (j - 1) k 0 (by omega) (by omega)
    · exact Int.le_of_lt (hltj (j - 1) (by omega))
    · rw [e1]
      omega
def onT (p q : Pt) (x0 x1 : Int) : Tri :=
  if (subT x0 x1 p.f0.f0 p.f0.f1).2.2 = true then
    if (mulT (subT x0 x1 p.f0.f0 p.f0.f1).1 (subT x0 x1 p.f0.f0 p.f0.f1).2.1 (slT p q).1 (slT p q).2.1).2.2 = true then
      addT p.f1.f0 p.f1.f1 (mulT (subT x0 x1 p.f0.f0 p.f0.f1).1 (subT x0 x1 p.f0.f0 p.f0.f1).2.1 (slT p q).1 (slT p q).2.1).1 (mulT (subT x0 x1 p.f0.f0 p.f0.f1).1 (subT x0 x1 p.f0.f0 p.f0.f1).2.1 (slT p q).1 (slT p q).2.1).2.1
    else (0, 0, false)
  else (0, 0, false)
theorem onT_ok {p q : Pt} {x0 x1 : Int} (h : (onT p q x0 x1).2.2 = true) : OkR (onT p q x0 x1).1 (onT p q x0 x1).2.1 := by
  unfold onT at h ⊢
  split at h
  · rename_i h1
    rw [if_pos h1]
    split at h
    · rename_i h2
      rw [if_pos h2]
      exact addT_ok _ _ _ _ h
    · cases h
  · cases h
theorem imOn_eq {p q : Pt} (h : Seg p q) {x0 x1 : Int} (hx : OkR x0 x1) (k : Nat) (hk : 300 ≤ k) : spec_imOn.f k p.f0.f0 p.f0.f1 p.f1.f0 p.f1.f1 q.f0.f0 q.f0.f1 q.f1.f0 q.f1.f1 x0 x1 = some (onT p q x0 x1) := by
  unfold spec_imOn.f onT
  rw [raSub_eq hx h.cp.1.1.1 k hk, Option.bind_some, imSlope_eq h k hk, Option.bind_some]
  have hsl := (seg_slope h).2
  cases hf : (subT x0 x1 p.f0.f0 p.f0.f1).2.2 with
  | true =>
    have hfo := subT_ok _ _ _ _ hf
    rw [raMul_eq hfo hsl k hk, Option.bind_some, if_pos rfl, if_pos rfl]
    cases hu : (mulT (subT x0 x1 p.f0.f0 p.f0.f1).1 (subT x0 x1 p.f0.f0 p.f0.f1).2.1 (slT p q).1 (slT p q).2.1).2.2 with
    | true =>
      rw [if_pos rfl, if_pos rfl, raAdd_eq h.cp.2.1.1 (mulT_ok _ _ _ _ hu) k hk, Option.bind_some]
    | false => rw [if_neg (by decide), if_neg (by decide)]
  | false =>
    have e : subT x0 x1 p.f0.f0 p.f0.f1 = (0, 0, false) := mk_bad _ _ hf
    rw [e]
    unfold spec_raMul.f
    rw [Int.zero_mul, Int.zero_mul, wr 0 (by omega), raMake_zero]
    rfl
theorem line_eq {p q : Pt} (h : Seg p q) {x0 x1 : Int} (hx : OkR x0 x1) (s : Bool) (k : Nat) (hk : 300 ≤ k) : ∃ v, impl_calc_line.f k s p.f0.f0 p.f0.f1 p.f1.f0 p.f1.f1 (slT p q).1 (slT p q).2.1 x0 x1 = some v ∧ Rel s v (onT p q x0 x1) := by
  unfold impl_calc_line.f onT
  have hsl := (seg_slope h).2
  have r1 : Rel s (kp s (subT x0 x1 p.f0.f0 p.f0.f1)) (subT x0 x1 p.f0.f0 p.f0.f1) := rel_kp (subT_ok _ _ _ _)
  rw [calc_sub hx h.cp.1.1.1 k s hk, Option.bind_some]
  generalize kp s (subT x0 x1 p.f0.f0 p.f0.f1) = v1 at r1 ⊢
  generalize subT x0 x1 p.f0.f0 p.f0.f1 = m1 at r1 ⊢
  rw [calc_mul hsl r1.ok k v1.2.2 hk, Option.bind_some]
  have r2 : Rel v1.2.2 (kp v1.2.2 (mulT (slT p q).1 (slT p q).2.1 v1.1 v1.2.1)) (mulT (slT p q).1 (slT p q).2.1 v1.1 v1.2.1) := rel_kp (mulT_ok _ _ _ _)
  have ec : mulT (slT p q).1 (slT p q).2.1 v1.1 v1.2.1 = mulT v1.1 v1.2.1 (slT p q).1 (slT p q).2.1 := by
    unfold mulT
    rw [Int.mul_comm (slT p q).1, Int.mul_comm (slT p q).2.1]
  generalize kp v1.2.2 (mulT (slT p q).1 (slT p q).2.1 v1.1 v1.2.1) = v2 at r2 ⊢
  rw [ec] at r2
  rw [calc_add h.cp.2.1.1 r2.ok k v2.2.2 hk, Option.bind_some]
  have r3 : Rel v2.2.2 (kp v2.2.2 (addT p.f1.f0 p.f1.f1 v2.1 v2.2.1)) (addT p.f1.f0 p.f1.f1 v2.1 v2.2.1) := rel_kp (addT_ok _ _ _ _)
  generalize kp v2.2.2 (addT p.f1.f0 p.f1.f1 v2.1 v2.2.1) = v3 at r3 ⊢
  refine ⟨_, rfl, r3.ok, ?_, ?_⟩
  · show v3.2.2 = _
    rw [r3.bad, r2.bad, r1.bad]
    cases hm1 : m1.2.2 with
    | false => simp
    | true =>
      obtain ⟨e1, e2⟩ := r1.val hm1
      rw [if_pos rfl, e1, e2]
      rw [e1, e2] at r2
      cases hm2 : (mulT m1.1 m1.2.1 (slT p q).1 (slT p q).2.1).2.2 with
      | false => simp
      | true =>
        obtain ⟨e3, e4⟩ := r2.val hm2
        rw [if_pos rfl, e3, e4]
        simp
  · intro hok
    show v3.1 = _ ∧ v3.2.1 = _
    split at hok
    · rename_i hm1
      obtain ⟨e1, e2⟩ := r1.val hm1
      rw [e1, e2] at r2
      rw [if_pos hm1]
      split at hok
      · rename_i hm2
        obtain ⟨e3, e4⟩ := r2.val hm2
        rw [e3, e4] at r3
        rw [if_pos hm2]
        exact r3.val hok
      · cases hok
    · cases hok
def atT (l : List Pt) (x0 x1 : Int) : Tri := onT (np l (pc l x0 x1)) (np l (pc l x0 x1 + 1)) x0 x1
theorem atT_ok {l : List Pt} {x0 x1 : Int} (h : (atT l x0 x1).2.2 = true) : OkR (atT l x0 x1).1 (atT l x0 x1).2.1 := onT_ok h
theorem imAt_eq {l : List Pt} (hm : IsMap l) {x0 x1 : Int} (hx : OkU x0 x1) (k : Nat) (hk : 300 ≤ k) : spec_imAt.f k l x0 x1 = some (atT l x0 x1) := by
  obtain ⟨h1, _, h3, _⟩ := piece_eq l x0 x1 hm hx
  have hmost := hm.most
  unfold spec_imAt.f atT
  rw [h3 k (by omega), Option.bind_some, wr (_ + 1) (by omega), if_pos (by omega), if_pos (by omega), if_pos (by omega), if_pos (by omega), show ((pc l x0 x1 : Nat) : Int) + 1 = ((pc l x0 x1 + 1 : Nat) : Int) by omega, rd_np, rd_np, imOn_eq (hm.seg _ h1) hx.1 k hk, Option.bind_some]
theorem value_eq {l : List Pt} (hm : IsMap l) {x0 x1 : Int} (hx : OkU x0 x1) (s : Bool) (k : Nat) (hk : 300 ≤ k) : ∃ v, impl_calc_value.f k s l x0 x1 = some v ∧ Rel s v (atT l x0 x1) := by
  obtain ⟨h1, h2, _, _⟩ := piece_eq l x0 x1 hm hx
  have hmost := hm.most
  unfold impl_calc_value.f atT
  rw [h2, Option.bind_some, wr (_ + 1) (by omega), if_pos (by omega), if_pos (by omega), if_pos (by omega), if_pos (by omega), show ((pc l x0 x1 : Nat) : Int) + 1 = ((pc l x0 x1 + 1 : Nat) : Int) by omega, rd_np, rd_np, slope_eq (hm.seg _ h1) s k hk, Option.bind_some]
  obtain ⟨v, e, r⟩ := line_eq (hm.seg _ h1) hx.1 s k hk
  exact ⟨v, by rw [e]; rfl, r⟩
theorem distance_eq {a b c d : Int} (h1 : OkR a b) (h2 : OkR c d) (s : Bool) (k : Nat) (hk : 300 ≤ k) : impl_calc_distance.f k s a b c d = some (kp s (if a * d < c * b then subT c d a b else subT a b c d)) := by
  unfold impl_calc_distance.f
  rw [less_eq h1.bd h2.bd, Option.bind_some]
  by_cases h : a * d < c * b
  · rw [if_pos (decide_eq_true h), if_pos h, calc_sub h2 h1 k s hk]; rfl
  · rw [if_neg (by simpa using h), if_neg h, calc_sub h1 h2 k s hk]; rfl
theorem apart_eq {a b c d : Int} (h1 : OkR a b) (h2 : OkR c d) (k : Nat) (hk : 300 ≤ k) : spec_orApart.f k a b c d = some (if a * d < c * b then subT c d a b else subT a b c d) := by
  unfold spec_orApart.f
  obtain ⟨t, e, ht, _⟩ := raCmp_eq h1.bd h2.bd
  rw [e, Option.bind_some]
  by_cases h : a * d < c * b
  · rw [if_pos (ht.2 h), if_pos h, raSub_eq h2 h1 k hk]; rfl
  · rw [if_neg (fun h3 => h (ht.1 h3)), if_neg h, raSub_eq h1 h2 k hk]; rfl
def dsT (a b c d : Int) : Tri := if a * d < c * b then subT c d a b else subT a b c d
theorem dsT_ok (a b c d : Int) (h : (dsT a b c d).2.2 = true) : OkR (dsT a b c d).1 (dsT a b c d).2.1 := by
  unfold dsT at h ⊢
  split
  · rename_i h1; rw [if_pos h1] at h; exact subT_ok _ _ _ _ h
  · rename_i h1; rw [if_neg h1] at h; exact subT_ok _ _ _ _ h
def Units (l : List Ra) : Prop := ∀ x ∈ l, OkU x.f0 x.f1
instance (l : List Ra) : Decidable (Units l) := by unfold Units; infer_instance
theorem areUnits_eq (l : List Ra) (k : Nat) (hk : 300 ≤ k) : impl_areUnits.f k l = some (decide (Units l)) := by
  unfold impl_areUnits.f ContainsFunc_impl_areUnits_1.f
  rw [anyS_of (p := fun x => !decide (OkU x.f0 x.f1)) (fun x _ => by
    unfold impl_areUnits_1.f
    rw [isUnit_eq _ _ k (by omega)]
    rfl), Option.bind_some]
  congr 1
  rw [Bool.eq_iff_iff]
  rw [Bool.not_eq_true', decide_eq_true_eq, ← Bool.not_eq_true, List.any_eq_true]
  constructor
  · intro h x hx
    by_cases hu : OkU x.f0 x.f1
    · exact hu
    · exact absurd ⟨x, hx, by simp [hu]⟩ h
  · rintro h ⟨x, hx, hn⟩
    simp [h x hx] at hn
def Pseudo (l : List Ra) : Prop := 1 ≤ l.length ∧ l.length ≤ 20 ∧ Units l
instance (l : List Ra) : Decidable (Pseudo l) := by unfold Pseudo; infer_instance
theorem isPseudo_eq (l : List Ra) (k : Nat) (hk : 300 ≤ k) : impl_isPseudo.f k l = some (decide (Pseudo l)) := by
  unfold impl_isPseudo.f impl_within.f
  by_cases h1 : (1 : Int) ≤ (l.length : Int)
  · rw [if_pos h1, Option.bind_some]
    by_cases h2 : (l.length : Int) ≤ 20
    · rw [if_pos (by simpa using h2), areUnits_eq l k hk, Option.bind_some]
      congr 1
      rw [Bool.eq_iff_iff, decide_eq_true_eq, decide_eq_true_eq]
      exact ⟨fun h => ⟨by omega, by omega, h⟩, fun h => h.2.2⟩
    · rw [if_neg (by simpa using h2), decide_eq_false (fun h : Pseudo l => h2 (by have := h.2.1; omega))]
  · rw [if_neg h1, Option.bind_some, if_neg (by decide), decide_eq_false (fun h : Pseudo l => h1 (by have := h.1; omega))]
theorem sdGood_l (l : List Ra) (hl : l.length ≤ 1048576) : ∀ (d k i : Nat), i + d = l.length → (∀ j, j < i → OkU (nr l j).f0 (nr l j).f1) → 300 + d < k → spec_sdGood.l0 k l l (l.length : Int) (i : Int) = some (decide (Pseudo l)) := by
  intro d
  induction d with
  | zero =>
    intro k i hi hj hk
    obtain ⟨k, rfl⟩ : ∃ m, k = m + 1 := ⟨k - 1, by omega⟩
    simp only [spec_sdGood.l0, spec_l1In.f]
    rw [if_neg (by omega)]
    have hu : Units l := fun x hx => by
      obtain ⟨i, hi, rfl⟩ := mem_nr l x hx
      exact hj i (by omega)
    by_cases h1 : (l.length : Int) ≥ 1
    · rw [if_pos h1, Option.bind_some]
      congr 1
      rw [Bool.eq_iff_iff, decide_eq_true_eq, decide_eq_true_eq]
      exact ⟨fun h => ⟨by omega, by omega, hu⟩, fun h => by have := h.2.1; omega⟩
    · rw [if_neg h1, Option.bind_some, decide_eq_false (fun h : Pseudo l => h1 (by have := h.1; omega))]
  | succ d ih =>
    intro k i hi hj hk
    obtain ⟨k, rfl⟩ : ∃ m, k = m + 1 := ⟨k - 1, by omega⟩
    simp only [spec_sdGood.l0]
    rw [if_pos (by omega), if_pos (by omega), if_pos (by omega), rd_nr, raUnit_eq _ _ k (by omega), Option.bind_some]
    by_cases h : OkU (nr l i).f0 (nr l i).f1
    · rw [if_pos (decide_eq_true h), wr (_ + 1) (by omega), show (i : Int) + 1 = ((i + 1 : Nat) : Int) by omega]
      refine ih k (i + 1) (by omega) (fun j hj2 => ?_) (by omega)
      by_cases e : j = i
      · subst e; exact h
      · exact hj j (by omega)
    · rw [if_neg (by simpa using h), decide_eq_false (fun hp : Pseudo l => h (hp.2.2 _ (nr_mem l i (by omega))))]
theorem sdGood_eq (l : List Ra) (hl : l.length ≤ 1048576) (k : Nat) (hk : 1048576 + 400 ≤ k) : spec_sdGood.f k l = some (decide (Pseudo l)) := by
  unfold spec_sdGood.f
  exact sdGood_l l hl l.length k 0 (by omega) (fun j hj => by omega) (by omega)
theorem sdAsked_eq (f : List Pt) (l : List Ra) (hf : f.length ≤ 1048576) (hl : l.length ≤ 1048576) (k : Nat) (hk : 1048576 + 400 ≤ k) : spec_sdAsked.f k f l = some (mapB f && decide (Pseudo l)) := by
  unfold spec_sdAsked.f
  rw [imGoodB f hf k (by omega), Option.bind_some]
  cases h : mapB f with
  | true => rw [if_pos rfl, sdGood_eq l hl k hk]; rfl
  | false => rfl
theorem Pseudo.unit {l : List Ra} (h : Pseudo l) (i : Nat) (hi : i < l.length) : OkU (nr l i).f0 (nr l i).f1 := h.2.2 _ (nr_mem l i hi)
end Go.Proofs.Ytlggehdfigkliaa.Pu
set_option linter.unusedVariables false
set_option linter.unusedSimpArgs false
namespace Go.Proofs.Ytlggehdfigkliaa.Pu
open Go.RowKit Go.Proofs.Ytlggehdfigkliaa.Q Go.Proofs.YtlggehdfigkliaaW.PrintWords Go.Proofs.YtlggehdfigkliaaW.PrintLast Go.Proofs.YtlggehdfigkliaaW.PrintMore
def jumpT (f : List Pt) (l : List Ra) (i : Nat) : Tri :=
  if (atT f (nr l (i - 1)).f0 (nr l (i - 1)).f1).2.2 = true then dsT (atT f (nr l (i - 1)).f0 (nr l (i - 1)).f1).1 (atT f (nr l (i - 1)).f0 (nr l (i - 1)).f1).2.1 (nr l i).f0 (nr l i).f1 else (0, 0, false)
theorem jumpT_ok {f : List Pt} {l : List Ra} {i : Nat} (h : (jumpT f l i).2.2 = true) : OkR (jumpT f l i).1 (jumpT f l i).2.1 := by
  unfold jumpT at h ⊢
  split
  · rename_i h1; rw [if_pos h1] at h; exact dsT_ok _ _ _ _ h
  · rename_i h1; rw [if_neg h1] at h; cases h
def jumpsO (f : List Pt) (l : List Ra) : Nat → Nat → List Ra → Option (List Ra)
  | 0, _, out => some out
  | d + 1, i, out => if (jumpT f l i).2.2 = true then jumpsO f l d (i + 1) (out ++ [⟨(jumpT f l i).1, (jumpT f l i).2.1⟩]) else none
theorem jumpsO_len (f : List Pt) (l : List Ra) : ∀ d i out o, jumpsO f l d i out = some o → o.length = out.length + d := by
  intro d
  induction d with
  | zero => intro i out o h; simp [jumpsO] at h; subst h; rfl
  | succ d ih =>
    intro i out o h
    unfold jumpsO at h
    split at h
    · have := ih _ _ _ h; simp at this; omega
    · cases h
theorem jumpsO_ok (f : List Pt) (l : List Ra) : ∀ d i out o, (∀ x ∈ out, OkR x.f0 x.f1) → jumpsO f l d i out = some o → ∀ x ∈ o, OkR x.f0 x.f1 := by
  intro d
  induction d with
  | zero => intro i out o ho h; simp [jumpsO] at h; subst h; exact ho
  | succ d ih =>
    intro i out o ho h
    unfold jumpsO at h
    split at h
    · rename_i hj
      refine ih _ _ _ (fun x hx => ?_) h
      rcases List.mem_append.1 hx with hx | hx
      · exact ho x hx
      · rw [List.mem_singleton.1 hx]; exact jumpT_ok hj
    · cases h
def retO (o : Option (List Ra)) : List Ra × Bool := match o with | some l => (l, true) | none => ([], false)
theorem spec_jumps_l (f : List Pt) (l : List Ra) (hm : IsMap f) (hp : Pseudo l) : ∀ (d k i : Nat) (out : List Ra), 1 ≤ i → i + d = l.length ∨ d = 0 ∧ i = l.length → out.length ≤ i → 400 + d < k →
    spec_sdJumps.l0 k f l out (i : Int) = some (retO (jumpsO f l d i out)) := by
  have h20 := hp.2.1
  intro d
  induction d with
  | zero =>
    intro k i out h1 hi ho hk
    obtain ⟨k, rfl⟩ : ∃ m, k = m + 1 := ⟨k - 1, by omega⟩
    simp only [spec_sdJumps.l0]
    rw [if_neg (by omega)]
    rfl
  | succ d ih =>
    intro k i out h1 hi ho hk
    obtain ⟨k, rfl⟩ : ∃ m, k = m + 1 := ⟨k - 1, by omega⟩
    simp only [spec_sdJumps.l0]
    rw [wr (_ - 1) (by omega), wr (_ + 1) (by omega), if_pos (by omega), if_pos (by omega), if_pos (by omega), show (i : Int) - 1 = ((i - 1 : Nat) : Int) by omega, show (i : Int) + 1 = ((i + 1 : Nat) : Int) by omega, rd_nr, rd_nr,
      imAt_eq hm (hp.unit (i - 1) (by omega)) k (by omega), Option.bind_some]
    unfold jumpsO jumpT
    cases ha : (atT f (nr l (i - 1)).f0 (nr l (i - 1)).f1).2.2 with
    | false => simp [retO]
    | true =>
      rw [if_pos rfl, if_pos rfl, if_pos (by omega), apart_eq (atT_ok ha) (hp.unit i (by omega)).1 k (by omega), Option.bind_some]
      have ed : (if (atT f (nr l (i - 1)).f0 (nr l (i - 1)).f1).1 * (nr l i).f1 < (nr l i).f0 * (atT f (nr l (i - 1)).f0 (nr l (i - 1)).f1).2.1 then subT (nr l i).f0 (nr l i).f1 (atT f (nr l (i - 1)).f0 (nr l (i - 1)).f1).1 (atT f (nr l (i - 1)).f0 (nr l (i - 1)).f1).2.1
          else subT (atT f (nr l (i - 1)).f0 (nr l (i - 1)).f1).1 (atT f (nr l (i - 1)).f0 (nr l (i - 1)).f1).2.1 (nr l i).f0 (nr l i).f1) = dsT (atT f (nr l (i - 1)).f0 (nr l (i - 1)).f1).1 (atT f (nr l (i - 1)).f0 (nr l (i - 1)).f1).2.1 (nr l i).f0 (nr l i).f1 := rfl
      rw [ed]
      cases hd : (dsT (atT f (nr l (i - 1)).f0 (nr l (i - 1)).f1).1 (atT f (nr l (i - 1)).f0 (nr l (i - 1)).f1).2.1 (nr l i).f0 (nr l i).f1).2.2 with
      | false => rw [if_neg (by decide), if_neg (by decide)]; rfl
      | true =>
        rw [if_pos rfl, if_pos rfl, if_pos (by omega)]
        exact ih k (i + 1) _ (by omega) (by omega) (by simp; omega) (by omega)
theorem impl_jumps_l (f : List Pt) (l : List Ra) (hm : IsMap f) (hp : Pseudo l) : ∀ (d k i : Nat) (out : List Ra) (s : Bool), 1 ≤ i → i + d = l.length ∨ d = 0 ∧ i = l.length → out.length ≤ i → 400 + d < k →
    ∃ o t, impl_calc_jumps.l0 k f l out (i : Int) s = some (o, t) ∧ (s = true → t = true) ∧ (s = false → t = (jumpsO f l d i out).isNone ∧ ∀ z, jumpsO f l d i out = some z → o = z) := by
  have h20 := hp.2.1
  intro d
  induction d with
  | zero =>
    intro k i out s h1 hi ho hk
    obtain ⟨k, rfl⟩ : ∃ m, k = m + 1 := ⟨k - 1, by omega⟩
    simp only [impl_calc_jumps.l0]
    rw [if_neg (by omega)]
    exact ⟨out, s, rfl, fun h => h, fun h => ⟨h, fun z hz => by simp [jumpsO] at hz; exact hz⟩⟩
  | succ d ih =>
    intro k i out s h1 hi ho hk
    obtain ⟨k, rfl⟩ : ∃ m, k = m + 1 := ⟨k - 1, by omega⟩
    simp only [impl_calc_jumps.l0]
    rw [wr (_ - 1) (by omega), wr (_ + 1) (by omega), if_pos (by omega), if_pos (by omega), if_pos (by omega), show (i : Int) - 1 = ((i - 1 : Nat) : Int) by omega, show (i : Int) + 1 = ((i + 1 : Nat) : Int) by omega, rd_nr, rd_nr]
    obtain ⟨v, e, r⟩ := value_eq hm (hp.unit (i - 1) (by omega)) s k (by omega)
    rw [e, Option.bind_some, if_pos (by omega), distance_eq r.ok (hp.unit i (by omega)).1 v.2.2 k (by omega), Option.bind_some, if_pos (by omega)]
    have r2 : Rel v.2.2 (kp v.2.2 (dsT v.1 v.2.1 (nr l i).f0 (nr l i).f1)) (dsT v.1 v.2.1 (nr l i).f0 (nr l i).f1) := rel_kp (dsT_ok _ _ _ _)
    have ed : (if v.1 * (nr l i).f1 < (nr l i).f0 * v.2.1 then subT (nr l i).f0 (nr l i).f1 v.1 v.2.1 else subT v.1 v.2.1 (nr l i).f0 (nr l i).f1) = dsT v.1 v.2.1 (nr l i).f0 (nr l i).f1 := rfl
    rw [ed]
    generalize hw : kp v.2.2 (dsT v.1 v.2.1 (nr l i).f0 (nr l i).f1) = w at r2 ⊢
    obtain ⟨o, t, e2, ht, hf⟩ := ih k (i + 1) (out ++ [⟨w.1, w.2.1⟩]) w.2.2 (by omega) (by omega) (by simp; omega) (by omega)
    refine ⟨o, t, e2, fun hs => ?_, fun hs => ?_⟩
    · apply ht
      rw [r2.bad, r.bad, hs]
      rfl
    · subst hs
      have rb := r.bad
      unfold jumpsO jumpT
      cases ha : (atT f (nr l (i - 1)).f0 (nr l (i - 1)).f1).2.2 with
      | false =>
        rw [ha] at rb
        simp only [Bool.false_eq_true, if_false]
        have : w.2.2 = true := by rw [r2.bad, rb]; rfl
        exact ⟨ht this, fun z hz => by cases hz⟩
      | true =>
        rw [ha] at rb
        obtain ⟨v1, v2⟩ := r.val ha
        rw [v1, v2] at r2
        rw [if_pos rfl]
        have r2b := r2.bad
        rw [rb] at r2b
        cases hd : (dsT (atT f (nr l (i - 1)).f0 (nr l (i - 1)).f1).1 (atT f (nr l (i - 1)).f0 (nr l (i - 1)).f1).2.1 (nr l i).f0 (nr l i).f1).2.2 with
        | false =>
          rw [hd] at r2b
          rw [if_neg (by decide)]
          exact ⟨ht r2b, fun z hz => by cases hz⟩
        | true =>
          rw [hd] at r2b
          obtain ⟨w1, w2⟩ := r2.val hd
          rw [if_pos rfl, ← w1, ← w2]
          exact hf r2b
noncomputable def jumpsR (f : List Pt) (l : List Ra) : List Ra × Bool := if mapB f = true ∧ Pseudo l then retO (jumpsO f l (l.length - 1) 1 []) else ([], false)
theorem sdJumps_eq (f : List Pt) (l : List Ra) (hm : mapB f = true) (hp : Pseudo l) (k : Nat) (hk : 1000 ≤ k) : spec_sdJumps.f k f l = some (retO (jumpsO f l (l.length - 1) 1 [])) := by
  unfold spec_sdJumps.f
  have h1 := hp.1
  have := spec_jumps_l f l ((mapB_iff f).1 hm) hp (l.length - 1) k 1 [] (by omega) (by omega) (by simp) (by have := hp.2.1; omega)
  rw [show ((1 : Nat) : Int) = 1 from rfl] at this
  exact this
theorem implJumps_eq (f : List Pt) (l : List Ra) (hf : f.length ≤ 1048576) (hl : l.length ≤ 1048576) (k : Nat) (hk : 2000000 ≤ k) : impl_JumpsOf.f k f l = some (jumpsR f l) := by
  unfold impl_JumpsOf.f jumpsR
  obtain ⟨k, rfl⟩ : ∃ m, k = m + 1 := ⟨k - 1, by omega⟩
  rw [isMapB f hf (k + 1) (by omega), Option.bind_some]
  cases hmb : mapB f with
  | false =>
    rw [if_neg (by decide)]
    simp only [impl_JumpsOf.j0, if_true]
    simp
  | true =>
    rw [if_pos rfl, isPseudo_eq l (k + 1) (by omega), Option.bind_some]
    by_cases hp : Pseudo l
    · rw [decide_eq_true hp, if_pos ⟨rfl, hp⟩]
      simp only [impl_JumpsOf.j0]
      rw [if_neg (by decide)]
      have h1 := hp.1
      obtain ⟨o, t, e, _, ht⟩ := impl_jumps_l f l ((mapB_iff f).1 hmb) hp (l.length - 1) k 1 [] false (by omega) (by omega) (by simp) (by have := hp.2.1; omega)
      rw [show ((1 : Nat) : Int) = 1 from rfl] at e
      unfold impl_calc_jumps.f
      rw [e, Option.bind_some]
      obtain ⟨ht1, ht2⟩ := ht rfl
      cases hj : jumpsO f l (l.length - 1) 1 [] with
      | none =>
        have ht3 : t = true := by rw [ht1, hj]; rfl
        subst ht3
        rfl
      | some z =>
        have ht3 : t = false := by rw [ht1, hj]; rfl
        rw [ht3, ht2 z hj]
        rfl
    · rw [decide_eq_false hp, if_neg (fun h => hp h.2)]
      simp only [impl_JumpsOf.j0]
      rw [if_pos (by rfl)]
end Go.Proofs.Ytlggehdfigkliaa.Pu
set_option linter.unusedVariables false
set_option linter.unusedSimpArgs false
namespace Go.Proofs.Ytlggehdfigkliaa.Pu
open Go.RowKit Go.Proofs.Ytlggehdfigkliaa.Q Go.Proofs.YtlggehdfigkliaaW.PrintWords Go.Proofs.YtlggehdfigkliaaW.PrintLast Go.Proofs.YtlggehdfigkliaaW.PrintMore
theorem same_rat {a b c d : Int} (h1 : OkR a b) (h2 : OkR c d) (h : a * d = c * b) : a = c ∧ b = d := by
  obtain ⟨b1, _, _, _, hg1⟩ := h1
  obtain ⟨d1, _, _, _, hg2⟩ := h2
  have hn : a.natAbs * d.natAbs = c.natAbs * b.natAbs := by rw [← Int.natAbs_mul, ← Int.natAbs_mul, h]
  rw [Int.gcd_eq_natAbs_gcd_natAbs] at hg1 hg2
  have c1 : Nat.Coprime b.natAbs a.natAbs := by unfold Nat.Coprime; rw [Nat.gcd_comm]; exact hg1
  have c2 : Nat.Coprime d.natAbs c.natAbs := by unfold Nat.Coprime; rw [Nat.gcd_comm]; exact hg2
  have e1 : b.natAbs ∣ d.natAbs := c1.dvd_of_dvd_mul_left ⟨c.natAbs, by rw [hn, Nat.mul_comm]⟩
  have e2 : d.natAbs ∣ b.natAbs := c2.dvd_of_dvd_mul_left ⟨a.natAbs, by rw [← hn, Nat.mul_comm]⟩
  have e3 : b.natAbs = d.natAbs := Nat.dvd_antisymm e1 e2
  have e4 : b = d := by omega
  subst e4
  exact ⟨Int.eq_of_mul_eq_mul_right (by omega) h, rfl⟩
end Go.Proofs.Ytlggehdfigkliaa.Pu

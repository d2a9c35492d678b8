/- All that the statement FnExactMassOf rests on, part 4: the walks of the functions that it reaches, and the plain laws of what they compute. -/
import Derived.Test.YtgejkhbehoabdaaKFnExactMassOf3
namespace Go.Proofs.Ytgejkhbehoabdaa.Q
open Go.RowKit Go.Proofs.YtgejkhbehoabdaaW.PrintWords Go.Proofs.YtgejkhbehoabdaaW.PrintLast Go.Proofs.YtgejkhbehoabdaaW.PrintMore
attribute [local go_sem] max2_int min2_int max_two min_two max_three min_three max_four min_four   -- for this text's walks alone
set_option linter.unusedVariables false
set_option linter.unusedSimpArgs false
def impl_common.f (a0_0 : Int) (a0_1 : Int) (a0_2 : Int) (a0_3 : Int) (a1_0 : Int) (a1_1 : Int) (a1_2 : Int) (a1_3 : Int) : Option (Int × Int × Int × Int × Bool) := (impl_greater.f a0_0 a0_1 a1_0 a1_1).bind fun btA => ((impl_lesser.f a0_2 a0_3 a1_2 a1_3).bind fun btB => ((impl_less.f btA.1 btA.2 btB.1 btB.2).bind fun tC => (if tC = true then (some (btA.1, btA.2, btB.1, btB.2, true)) else (some (0, 0, 0, 0, false)))))
def impl_common.T1 : Bool × List (List Nat × List Nat) := (true, [([], []), ([0], [0]), ([], []), ([2], [2]), ([1, 3], [1, 3]), ([], []), ([5], [5]), ([], []), ([7], [7]), ([6, 8, 4], [6, 8]), ([4, 9], [4, 9]), ([], []), ([11, 10, 9, 0, 1, 2, 3, 4, 5, 6, 7, 8, 9, 10, 11], [10, 11])])
def impl_common.B1 : List Nat := [0, 1, 0, 4, 15, 0, 32, 0, 128, 511, 1023, 0, 4095]
theorem impl_common.tab1 : rtab .any (opsOf Try.f98 1) = impl_common.T1 := by kernel_rfl
theorem impl_common.bits1 : waitsOk impl_common.T1.2 impl_common.B1 = true := by kernel_rfl
theorem zz187 {p : Prop} (h : p := by (with_reducible repeat (first | refine blk_drewN ?_ _ | refine blk_drew ?_ | refine blk_alloc ?_ _)); exact BKA.out) : p := h
theorem zz186 {p : Prop} (h : p := by (with_reducible repeat (first | refine blk_drewN ?_ _ | refine blk_drew ?_ | refine blk_alloc ?_ _)); exact BKB.out) : p := h
theorem zz185 {p : Prop} (h : p := by (with_reducible repeat (first | refine blk_drewN ?_ _ | refine blk_drew ?_ | refine blk_alloc ?_ _)); exact BKC.out) : p := h
theorem zz184 {p : Prop} (h : p := by (with_reducible repeat (first | refine blk_drewN ?_ _ | refine blk_drew ?_ | refine blk_alloc ?_ _)); exact BKD.out) : p := h
theorem zz137 {p : Prop} (h : p := by repeat (first | (with_reducible first | exact HB.out | apply below_alloc | apply pw_below_drewN | apply below_drew1 | refine below_set ?_ GED.out) | exact HB.out)) : p := h
theorem zz93 {p : Prop} (h : p := by repeat (first | (with_reducible first | exact HB.out | apply below_alloc | apply pw_below_drewN | apply below_drew1 | refine below_set ?_ GED.out | refine below_set ?_ GEC.out) | exact HB.out)) : p := h
theorem zz69 {p : Prop} (h : p := by repeat (first | (with_reducible first | exact HB.out | apply below_alloc | apply pw_below_drewN | apply below_drew1 | refine below_set ?_ GED.out | refine below_set ?_ GEC.out | refine below_set ?_ GEB.out) | exact HB.out)) : p := h
theorem zz59 {p : Prop} (h : p := by repeat (first | (with_reducible first | exact HB.out | apply below_alloc | apply pw_below_drewN | apply below_drew1 | refine below_set ?_ GED.out | refine below_set ?_ GEC.out | refine below_set ?_ GEB.out | refine below_set ?_ GEA.out) | exact HB.out)) : p := h
theorem zz17 {p : Prop} (h : p := by (with_reducible repeat (first | refine blk_drewN ?_ _ | refine blk_drew ?_ | refine blk_alloc ?_ _)); refine blk_far ?_ NBB_A.out _; (with_reducible repeat (first | refine blk_drewN ?_ _ | refine blk_drew ?_ | refine blk_alloc ?_ _)); refine blk_far ?_ NBB_A.out _; (with_reducible repeat (first | refine blk_drewN ?_ _ | refine blk_drew ?_ | refine blk_alloc ?_ _)); refine blk_far ?_ NBB_A.out _; (with_reducible repeat (first | refine blk_drewN ?_ _ | refine blk_drew ?_ | refine blk_alloc ?_ _)); refine blk_far ?_ NBB_A.out _; (with_reducible repeat (first | refine blk_drewN ?_ _ | refine blk_drew ?_ | refine blk_alloc ?_ _)); exact BKB.out) : p := h
theorem zz16 {p : Prop} (h : p := by (with_reducible repeat (first | refine blk_drewN ?_ _ | refine blk_drew ?_ | refine blk_alloc ?_ _)); refine blk_far ?_ NBC_A.out _; (with_reducible repeat (first | refine blk_drewN ?_ _ | refine blk_drew ?_ | refine blk_alloc ?_ _)); refine blk_far ?_ NBC_A.out _; (with_reducible repeat (first | refine blk_drewN ?_ _ | refine blk_drew ?_ | refine blk_alloc ?_ _)); refine blk_far ?_ NBC_A.out _; (with_reducible repeat (first | refine blk_drewN ?_ _ | refine blk_drew ?_ | refine blk_alloc ?_ _)); refine blk_far ?_ NBC_A.out _; (with_reducible repeat (first | refine blk_drewN ?_ _ | refine blk_drew ?_ | refine blk_alloc ?_ _)); exact BKC.out) : p := h
theorem zz15 {p : Prop} (h : p := by (with_reducible repeat (first | refine blk_drewN ?_ _ | refine blk_drew ?_ | refine blk_alloc ?_ _)); refine blk_far ?_ NBD_A.out _; (with_reducible repeat (first | refine blk_drewN ?_ _ | refine blk_drew ?_ | refine blk_alloc ?_ _)); refine blk_far ?_ NBD_A.out _; (with_reducible repeat (first | refine blk_drewN ?_ _ | refine blk_drew ?_ | refine blk_alloc ?_ _)); refine blk_far ?_ NBD_A.out _; (with_reducible repeat (first | refine blk_drewN ?_ _ | refine blk_drew ?_ | refine blk_alloc ?_ _)); refine blk_far ?_ NBD_A.out _; (with_reducible repeat (first | refine blk_drewN ?_ _ | refine blk_drew ?_ | refine blk_alloc ?_ _)); exact BKD.out) : p := h
theorem zz2 {p : Prop} (h : p := by (with_reducible repeat (first | refine blk_drewN ?_ _ | refine blk_drew ?_ | refine blk_alloc ?_ _)); refine blk_put (cs := #[.int .i64 tE, .int .i64 tF, .int .i64 tG, .int .i64 0]) ?_ 3 _ rfl; (with_reducible repeat (first | refine blk_drewN ?_ _ | refine blk_drew ?_ | refine blk_alloc ?_ _)); refine blk_put (cs := #[.int .i64 tE, .int .i64 tF, .int .i64 0, .int .i64 0]) ?_ 2 _ rfl; (with_reducible repeat (first | refine blk_drewN ?_ _ | refine blk_drew ?_ | refine blk_alloc ?_ _)); refine blk_put (cs := #[.int .i64 tE, .int .i64 0, .int .i64 0, .int .i64 0]) ?_ 1 _ rfl; (with_reducible repeat (first | refine blk_drewN ?_ _ | refine blk_drew ?_ | refine blk_alloc ?_ _)); refine blk_put (cs := #[.int .i64 0, .int .i64 0, .int .i64 0, .int .i64 0]) ?_ 0 _ rfl; (with_reducible repeat (first | refine blk_drewN ?_ _ | refine blk_drew ?_ | refine blk_alloc ?_ _)); exact BKA.out) : p := h
set_option maxHeartbeats 8000000 in
set_option maxRecDepth 100000 in
theorem impl_common.calls (a0_0 : Int) (a0_1 : Int) (a0_2 : Int) (a0_3 : Int) (a1_0 : Int) (a1_1 : Int) (a1_2 : Int) (a1_3 : Int) (r1 : Int) (r2 : Int) (r3 : Int) (r4 : Int) (r5 : Bool) (w : World) (h : impl_common.f a0_0 a0_1 a0_2 a0_3 a1_0 a1_1 a1_2 a1_3 = some (r1, r2, r3, r4, r5)) :
  Calls Try.prog 98 #[.agg #[.int .i64 a0_0, .int .i64 a0_1, .int .i64 a0_2, .int .i64 a0_3], .agg #[.int .i64 a1_0, .int .i64 a1_1, .int .i64 a1_2, .int .i64 a1_3]] w fun e w' => e = .returned (.tuple #[.agg #[.int .i64 r1, .int .i64 r2, .int .i64 r3, .int .i64 r4], .bool r5]) ∧ Below w.heap.size w w' := by
 have hu63 := Try.underlying63; have hu47 := Try.underlying47; have HB := Aside0.mk (Below.refl w.heap.size w); have H : ((impl_greater.f a0_0 a0_1 a1_0 a1_1).bind fun btE => ((impl_lesser.f a0_2 a0_3 a1_2 a1_3).bind fun btG => ((impl_less.f btE.1 btE.2 btG.1 btG.2).bind fun tH => (if tH = true then (some (btE.1, btE.2, btG.1, btG.2, true)) else (some (0, 0, 0, 0, false)))))) = some (r1, r2, r3, r4, r5) := h; clear h; replace H := Option.bind_eq_some_iff.mp H; obtain ⟨⟨tE, tF⟩, A30, H⟩ := H; replace H : ((impl_lesser.f a0_2 a0_3 a1_2 a1_3).bind fun btG => ((impl_less.f tE tF btG.1 btG.2).bind fun tH => (if tH = true then (some (tE, tF, btG.1, btG.2, true)) else (some (0, 0, 0, 0, false))))) = some (r1, r2, r3, r4, r5) := H; have A3 := Aside0.mk A30; clear A30; replace H := Option.bind_eq_some_iff.mp H; obtain ⟨⟨tG, tI⟩, A40, H⟩ := H; replace H : ((impl_less.f tE tF tG tI).bind fun tH => (if tH = true then (some (tE, tF, tG, tI, true)) else (some (0, 0, 0, 0, false)))) = some (r1, r2, r3, r4, r5) := H; have A4 := Aside0.mk A40; clear A40; replace H := Option.bind_eq_some_iff.mp H; obtain ⟨tH, A50, H⟩ := H; replace H : (if tH = true then (some (tE, tF, tG, tI, true)) else (some (0, 0, 0, 0, false))) = some (r1, r2, r3, r4, r5) := H; have A5 := Aside0.mk A50; clear A50; by_cases c6 : tH = true
 ·subst c6; have H1 : (some (tE, tF, tG, tI, true)) = some (r1, r2, r3, r4, r5) := by rw [if_pos rfl] at H; exact H
  clear H; have H := H1; clear H1; simp only [Option.some.injEq, Prod.mk.injEq] at H; obtain ⟨rfl, rfl, rfl, rfl, rfl⟩ := H; go_enter Try.func98, Try.ntmps98
  try go_wp2_with (first | ((with_reducible refine gate_dst (N := 2) rfl ?_); refine boxE 2 #[.int .i64 a0_0, .int .i64 a0_1, .int .i64 a0_2, .int .i64 a0_3] 63 ?_; intro gbD hg w7 hbox hb; have GWD := gwA (below_size zz177) hg; have GED := GWD; have BKD := Aside0.mk (hbox); replace HB := Aside0.mk (below_step zz177 hb); clear hb hbox hg) | ((with_reducible refine gate_dst (N := 3) rfl ?_); refine boxE 3 #[.int .i64 a1_0, .int .i64 a1_1, .int .i64 a1_2, .int .i64 a1_3] 63 ?_; intro gbC hg w8 hbox hb; have GWC := gwA (below_size zz137) hg; have GEC := GWC; have NBD_C := nltA BKD hg; have NBC_D := ngtA BKD hg; replace BKD := blkA BKD hb; have BKC := Aside0.mk (hbox); replace HB := Aside0.mk (below_step zz137 hb); clear hb hbox hg) | ((with_reducible refine gate_dst (N := 4) rfl ?_); refine boxE 4 #[.int .i64 0, .int .i64 0, .int .i64 0, .int .i64 0] 63 ?_; intro gbB hg w9 hbox hb; have GWB := gwA (below_size zz93) hg; have GEB := GWB; have NBD_B := nltA BKD hg; have NBB_D := ngtA BKD hg; have NBC_B := nltA BKC hg; have NBB_C := ngtA BKC hg; replace BKD := blkA BKD hb; replace BKC := blkA BKC hb; have BKB := Aside0.mk (hbox); replace HB := Aside0.mk (below_step zz93 hb); clear hb hbox hg))
  replace BKD := Aside0.mk (blk_drew BKD.out); replace BKC := Aside0.mk (blk_drew BKC.out); replace BKB := Aside0.mk (blk_drew BKB.out); replace HB := Aside0.mk (below_drew1 HB.out); refine start_ (n := 13) (S := fun w' => w'.cell? ⟨gbD, 0, none⟩ = some (.int .i64 a0_0) ∧ w'.cell? ⟨gbD, 1, none⟩ = some (.int .i64 a0_1) ∧ w'.cell? ⟨gbD, 2, none⟩ = some (.int .i64 a0_2) ∧ w'.cell? ⟨gbD, 3, none⟩ = some (.int .i64 a0_3) ∧ w'.cell? ⟨gbC, 0, none⟩ = some (.int .i64 a1_0) ∧ w'.cell? ⟨gbC, 1, none⟩ = some (.int .i64 a1_1) ∧ w'.cell? ⟨gbC, 2, none⟩ = some (.int .i64 a1_2) ∧ w'.cell? ⟨gbC, 3, none⟩ = some (.int .i64 a1_3)) (ds := []) (.replicate 13 fF) (by kernel_rfl) rfl rfl ⟨bcA BKD 0, bcA BKD 1, bcA BKD 2, bcA BKD 3, bcA BKC 0, bcA BKC 1, bcA BKC 2, bcA BKC 3⟩ (fun hHeld => ?_); refine with_tabW impl_common.tab1 impl_common.bits1 (fun HT_ HW_ => ?_); generalize w9.drew = w10 at BKD BKC BKB HB hHeld ⊢; refine pureA 0 (some 7) (bB 13 1) HT_ ?_; refine pureA 2 (some 9) (bB 13 5) HT_ ?_; refine pureA 5 (some 12) (bB 13 37) HT_ ?_; refine pureA 7 (some 14) (bB 13 165) HT_ ?_; refine takeA2 1 (some 8) (bB 13 167) HT_ HW_ hHeld ?_; refine takeA2 3 (some 10) (bB 13 175) HT_ HW_ hHeld ?_; refine takeA2 6 (some 13) (bB 13 239) HT_ HW_ hHeld ?_; refine takeA2 8 (some 15) (bB 13 495) HT_ HW_ hHeld ?_; refine join_ (σ := Nat) 1 (bB 13 4095) (fun s_ => [(11, .agg #[.int .i64 tE, .int .i64 tF]), (16, .agg #[.int .i64 tG, .int .i64 tI]), (6, .pointer (some ⟨s_, 0, none⟩)), (17, .agg #[.int .i64 tE, .int .i64 tF, .int .i64 tG, .int .i64 tI])]) (fun s_ w' => (w'.cell? ⟨gbD, 0, none⟩ = some (.int .i64 a0_0) ∧ w'.cell? ⟨gbD, 1, none⟩ = some (.int .i64 a0_1) ∧ w'.cell? ⟨gbD, 2, none⟩ = some (.int .i64 a0_2) ∧ w'.cell? ⟨gbD, 3, none⟩ = some (.int .i64 a0_3) ∧ w'.cell? ⟨gbC, 0, none⟩ = some (.int .i64 a1_0) ∧ w'.cell? ⟨gbC, 1, none⟩ = some (.int .i64 a1_1) ∧ w'.cell? ⟨gbC, 2, none⟩ = some (.int .i64 a1_2) ∧ w'.cell? ⟨gbC, 3, none⟩ = some (.int .i64 a1_3)) ∧ (w'.heap[gbD]? = some (.cells #[.int .i64 a0_0, .int .i64 a0_1, .int .i64 a0_2, .int .i64 a0_3] 63 (0, 0))) ∧ (w'.heap[gbC]? = some (.cells #[.int .i64 a1_0, .int .i64 a1_1, .int .i64 a1_2, .int .i64 a1_3] 63 (0, 0))) ∧ (w'.heap[gbB]? = some (.cells #[.int .i64 0, .int .i64 0, .int .i64 0, .int .i64 0] 63 (0, 0))) ∧ (w'.heap[s_]? = some (.cells #[.int .i64 0, .int .i64 0, .int .i64 0, .int .i64 0] 63 (0, 0))) ∧ (w.heap.size ≤ s_) ∧ (w.heap.size ≤ s_) ∧ (gbD ≠ s_) ∧ (s_ ≠ gbD) ∧ (gbC ≠ s_) ∧ (s_ ≠ gbC) ∧ (gbB ≠ s_) ∧ (s_ ≠ gbB) ∧ (Below w.heap.size w w')) ?_ ?_; rotate_left
  ·intro hCont; refine two_ (i := 4) (j := 11) (Ni := some 11) (Nj := some 6) (bB 13 511) (bB 13 2543) rfl rfl rfl rfl (two_of HT_.out (by kernel_rfl)) (by decide) (by decide) (fun K hK => ?_) (fun K hK => ?_)
   ·skip
    refine goes_ Try.func143 (by kernel_rfl) rfl #[.agg #[.int .i64 a0_0, .int .i64 a0_1], .agg #[.int .i64 a1_0, .int .i64 a1_1]] (by rfl) rfl rfl zz175 ?_; with_reducible refine (impl_greater.calls a0_0 a0_1 a1_0 a1_1 tE tF _ A3.out).mono ?_
    rintro e w11 ⟨rfl, hb⟩; refine ⟨_, rfl, ?_⟩; replace BKD := blkA BKD hb; replace BKC := blkA BKC hb; replace BKB := blkA BKB hb; replace HB := Aside0.mk (below_step zz69 hb); (try clear hb); refine hK.out _ _ ⟨bcA BKD 0, bcA BKD 1, bcA BKD 2, bcA BKD 3, bcA BKC 0, bcA BKC 1, bcA BKC 2, bcA BKC 3⟩ (fun hHeld => ?_); clear hK K; refine normA (some 11) ?_; refine two_ (i := 9) (j := 11) (Ni := some 16) (Nj := some 6) (bB 13 1023) (bB 13 2559) rfl rfl rfl rfl (two_of HT_.out (by kernel_rfl)) (by decide) (by decide) (fun K hK => ?_) (fun K hK => ?_)
    ·skip
     refine goes_ Try.func144 (by kernel_rfl) rfl #[.agg #[.int .i64 a0_2, .int .i64 a0_3], .agg #[.int .i64 a1_2, .int .i64 a1_3]] (by rfl) rfl rfl zz175 ?_; with_reducible refine (impl_lesser.calls a0_2 a0_3 a1_2 a1_3 tG tI _ A4.out).mono ?_
     rintro e w12 ⟨rfl, hb⟩; refine ⟨_, rfl, ?_⟩; replace BKD := blkA BKD hb; replace BKC := blkA BKC hb; replace BKB := blkA BKB hb; replace HB := Aside0.mk (below_step zz69 hb); (try clear hb); refine hK.out _ _ ⟨bcA BKD 0, bcA BKD 1, bcA BKD 2, bcA BKD 3, bcA BKC 0, bcA BKC 1, bcA BKC 2, bcA BKC 3⟩ (fun hHeld => ?_); clear hK K; refine normA (some 16) ?_; refine pureA 10 (some 17) (bB 13 2047) HT_ ?_; refine one_ (i := 11) (N := some 6) (bB 13 4095) rfl rfl (one_of HT_.out (by kernel_rfl)) (by decide) (fun K hK => ?_); refine boxS 6 #[.int .i64 0, .int .i64 0, .int .i64 0, .int .i64 0] 63 ?_; intro gbA hg w13 hbox hb; have GWA := gwA (below_size zz69) hg; have GEA := GWA; have NBD_A := nltA BKD hg; have NBA_D := ngtA BKD hg; have NBC_A := nltA BKC hg; have NBA_C := ngtA BKC hg; have NBB_A := nltA BKB hg; have NBA_B := ngtA BKB hg; replace BKD := blkA BKD hb; replace BKC := blkA BKC hb; replace BKB := blkA BKB hb; have BKA := Aside0.mk (hbox); replace HB := Aside0.mk (below_step zz69 hb); clear hb hbox hg; refine hK.out _ _ ⟨bcA BKD 0, bcA BKD 1, bcA BKD 2, bcA BKD 3, bcA BKC 0, bcA BKC 1, bcA BKC 2, bcA BKC 3⟩ (fun hHeld => ?_); clear hK K; refine normA (some 6) ?_; exact norm_ zz232 (hCont (gbA) _ ⟨hHeld, zz184, zz185, zz186, zz187, GWA.out, GEA.out, NBD_A.out, NBA_D.out, NBC_A.out, NBA_C.out, NBB_A.out, NBA_B.out, zz59⟩)
    ·skip
     refine boxS 6 #[.int .i64 0, .int .i64 0, .int .i64 0, .int .i64 0] 63 ?_; intro gbA hg w12 hbox hb; have GWA := gwA (below_size zz69) hg; have GEA := GWA; have NBD_A := nltA BKD hg; have NBA_D := ngtA BKD hg; have NBC_A := nltA BKC hg; have NBA_C := ngtA BKC hg; have NBB_A := nltA BKB hg; have NBA_B := ngtA BKB hg; replace BKD := blkA BKD hb; replace BKC := blkA BKC hb; replace BKB := blkA BKB hb; have BKA := Aside0.mk (hbox); replace HB := Aside0.mk (below_step zz69 hb); clear hb hbox hg; refine hK.out _ _ ⟨bcA BKD 0, bcA BKD 1, bcA BKD 2, bcA BKD 3, bcA BKC 0, bcA BKC 1, bcA BKC 2, bcA BKC 3⟩ (fun hHeld => ?_); clear hK K; refine normA (some 6) ?_; refine one_ (i := 9) (N := some 16) (bB 13 3071) rfl rfl (one_of HT_.out (by kernel_rfl)) (by decide) (fun K hK => ?_); refine goes_ Try.func144 (by kernel_rfl) rfl #[.agg #[.int .i64 a0_2, .int .i64 a0_3], .agg #[.int .i64 a1_2, .int .i64 a1_3]] (by rfl) rfl rfl zz175 ?_; with_reducible refine (impl_lesser.calls a0_2 a0_3 a1_2 a1_3 tG tI _ A4.out).mono ?_
     rintro e w13 ⟨rfl, hb⟩; refine ⟨_, rfl, ?_⟩; replace BKD := blkA BKD hb; replace BKC := blkA BKC hb; replace BKB := blkA BKB hb; replace BKA := blkA BKA hb; replace HB := Aside0.mk (below_step zz59 hb); (try clear hb); refine hK.out _ _ ⟨bcA BKD 0, bcA BKD 1, bcA BKD 2, bcA BKD 3, bcA BKC 0, bcA BKC 1, bcA BKC 2, bcA BKC 3⟩ (fun hHeld => ?_); clear hK K; refine normA (some 16) ?_; refine pureA 10 (some 17) (bB 13 4095) HT_ ?_; exact norm_ zz232 (hCont (gbA) _ ⟨hHeld, zz184, zz185, zz186, zz187, GWA.out, GEA.out, NBD_A.out, NBA_D.out, NBC_A.out, NBA_C.out, NBB_A.out, NBA_B.out, zz59⟩)
   ·skip
    refine boxS 6 #[.int .i64 0, .int .i64 0, .int .i64 0, .int .i64 0] 63 ?_; intro gbA hg w11 hbox hb; have GWA := gwA (below_size zz69) hg; have GEA := GWA; have NBD_A := nltA BKD hg; have NBA_D := ngtA BKD hg; have NBC_A := nltA BKC hg; have NBA_C := ngtA BKC hg; have NBB_A := nltA BKB hg; have NBA_B := ngtA BKB hg; replace BKD := blkA BKD hb; replace BKC := blkA BKC hb; replace BKB := blkA BKB hb; have BKA := Aside0.mk (hbox); replace HB := Aside0.mk (below_step zz69 hb); clear hb hbox hg; refine hK.out _ _ ⟨bcA BKD 0, bcA BKD 1, bcA BKD 2, bcA BKD 3, bcA BKC 0, bcA BKC 1, bcA BKC 2, bcA BKC 3⟩ (fun hHeld => ?_); clear hK K; refine normA (some 6) ?_; refine one_ (i := 4) (N := some 11) (bB 13 2559) rfl rfl (one_of HT_.out (by kernel_rfl)) (by decide) (fun K hK => ?_); refine goes_ Try.func143 (by kernel_rfl) rfl #[.agg #[.int .i64 a0_0, .int .i64 a0_1], .agg #[.int .i64 a1_0, .int .i64 a1_1]] (by rfl) rfl rfl zz175 ?_; with_reducible refine (impl_greater.calls a0_0 a0_1 a1_0 a1_1 tE tF _ A3.out).mono ?_
    rintro e w12 ⟨rfl, hb⟩; refine ⟨_, rfl, ?_⟩; replace BKD := blkA BKD hb; replace BKC := blkA BKC hb; replace BKB := blkA BKB hb; replace BKA := blkA BKA hb; replace HB := Aside0.mk (below_step zz59 hb); (try clear hb); refine hK.out _ _ ⟨bcA BKD 0, bcA BKD 1, bcA BKD 2, bcA BKD 3, bcA BKC 0, bcA BKC 1, bcA BKC 2, bcA BKC 3⟩ (fun hHeld => ?_); clear hK K; refine normA (some 11) ?_; refine one_ (i := 9) (N := some 16) (bB 13 3071) rfl rfl (one_of HT_.out (by kernel_rfl)) (by decide) (fun K hK => ?_); refine goes_ Try.func144 (by kernel_rfl) rfl #[.agg #[.int .i64 a0_2, .int .i64 a0_3], .agg #[.int .i64 a1_2, .int .i64 a1_3]] (by rfl) rfl rfl zz175 ?_; with_reducible refine (impl_lesser.calls a0_2 a0_3 a1_2 a1_3 tG tI _ A4.out).mono ?_
    rintro e w13 ⟨rfl, hb⟩; refine ⟨_, rfl, ?_⟩; replace BKD := blkA BKD hb; replace BKC := blkA BKC hb; replace BKB := blkA BKB hb; replace BKA := blkA BKA hb; replace HB := Aside0.mk (below_step zz59 hb); (try clear hb); refine hK.out _ _ ⟨bcA BKD 0, bcA BKD 1, bcA BKD 2, bcA BKD 3, bcA BKC 0, bcA BKC 1, bcA BKC 2, bcA BKC 3⟩ (fun hHeld => ?_); clear hK K; refine normA (some 16) ?_; refine pureA 10 (some 17) (bB 13 4095) HT_ ?_; exact norm_ zz232 (hCont (gbA) _ ⟨hHeld, zz184, zz185, zz186, zz187, GWA.out, GEA.out, NBD_A.out, NBA_D.out, NBC_A.out, NBA_C.out, NBB_A.out, NBA_B.out, zz59⟩)
  rintro gbA w14 ⟨hS_, h0_, h1_, h2_, h3_, h4_, h5_, h6_, h7_, h8_, h9_, h10_, h11_, h12_⟩; replace BKD : Aside0 (w14.heap[gbD]? = some (.cells #[.int .i64 a0_0, .int .i64 a0_1, .int .i64 a0_2, .int .i64 a0_3] 63 (0, 0))) := ⟨h0_⟩; replace BKC : Aside0 (w14.heap[gbC]? = some (.cells #[.int .i64 a1_0, .int .i64 a1_1, .int .i64 a1_2, .int .i64 a1_3] 63 (0, 0))) := ⟨h1_⟩; replace BKB : Aside0 (w14.heap[gbB]? = some (.cells #[.int .i64 0, .int .i64 0, .int .i64 0, .int .i64 0] 63 (0, 0))) := ⟨h2_⟩; have BKA : Aside0 (w14.heap[gbA]? = some (.cells #[.int .i64 0, .int .i64 0, .int .i64 0, .int .i64 0] 63 (0, 0))) := ⟨h3_⟩; have GWA : Aside0 (w.heap.size ≤ gbA) := ⟨h4_⟩; have GEA : Aside0 (w.heap.size ≤ gbA) := ⟨h5_⟩; have NBD_A : Aside0 (gbD ≠ gbA) := ⟨h6_⟩; have NBA_D : Aside0 (gbA ≠ gbD) := ⟨h7_⟩; have NBC_A : Aside0 (gbC ≠ gbA) := ⟨h8_⟩; have NBA_C : Aside0 (gbA ≠ gbC) := ⟨h9_⟩; have NBB_A : Aside0 (gbB ≠ gbA) := ⟨h10_⟩; have NBA_B : Aside0 (gbA ≠ gbB) := ⟨h11_⟩; replace HB : Aside0 (Below w.heap.size w w14) := ⟨h12_⟩; clear h0_ h1_ h2_ h3_ h4_ h5_ h6_ h7_ h8_ h9_ h10_ h11_ h12_; have hHeld : w14.cell? ⟨gbD, 0, none⟩ = some (.int .i64 a0_0) ∧ w14.cell? ⟨gbD, 1, none⟩ = some (.int .i64 a0_1) ∧ w14.cell? ⟨gbD, 2, none⟩ = some (.int .i64 a0_2) ∧ w14.cell? ⟨gbD, 3, none⟩ = some (.int .i64 a0_3) ∧ w14.cell? ⟨gbC, 0, none⟩ = some (.int .i64 a1_0) ∧ w14.cell? ⟨gbC, 1, none⟩ = some (.int .i64 a1_1) ∧ w14.cell? ⟨gbC, 2, none⟩ = some (.int .i64 a1_2) ∧ w14.cell? ⟨gbC, 3, none⟩ = some (.int .i64 a1_3) := hS_; refine norm_ (a' := ?_) ?_ ?_; rotate_left
  ·simp only [putAll, Act.put, List.setIfInBounds_toArray, List.set_cons_zero, List.set_cons_succ]; rfl
  refine one_ (i := 12) (N := none) (bB 13 8191) rfl rfl (one_of HT_.out (by kernel_rfl)) (by decide) (fun K hK => ?_); have hs15 : w14.cell? ⟨gbA, 0, none⟩ = some (.int .i64 0) := bcA BKA 0; have hfs15 := blk_frozen BKA.out 0; have hns15_0 := NBD_A.out; have hns15_1 := NBC_A.out; have hns15_2 := NBB_A.out; have hms15_0 := NBA_D.out; have hms15_1 := NBA_C.out; have hms15_2 := NBA_B.out; have hs16 : w14.cell? ⟨gbA, 1, none⟩ = some (.int .i64 0) := bcA BKA 1; have hfs16 := blk_frozen BKA.out 1; have hns16_0 := NBD_A.out; have hns16_1 := NBC_A.out; have hns16_2 := NBB_A.out; have hms16_0 := NBA_D.out; have hms16_1 := NBA_C.out; have hms16_2 := NBA_B.out; have hs17 : w14.cell? ⟨gbA, 2, none⟩ = some (.int .i64 0) := bcA BKA 2; have hfs17 := blk_frozen BKA.out 2; have hns17_0 := NBD_A.out; have hns17_1 := NBC_A.out; have hns17_2 := NBB_A.out; have hms17_0 := NBA_D.out; have hms17_1 := NBA_C.out; have hms17_2 := NBA_B.out; have hs18 : w14.cell? ⟨gbA, 3, none⟩ = some (.int .i64 0) := bcA BKA 3; have hfs18 := blk_frozen BKA.out 3; have hns18_0 := NBD_A.out; have hns18_1 := NBC_A.out; have hns18_2 := NBB_A.out; have hms18_0 := NBA_D.out; have hms18_1 := NBA_C.out; have hms18_2 := NBA_B.out; refine skip_ (w1 := ?_) (by rfl) rfl ?_ ?_; rotate_left
  ·go_simp
   rfl
  refine hK.out _ _ ⟨((cell_far (p := ⟨gbA, _, none⟩) NBD_A.out _).trans (((cell_far (p := ⟨gbA, _, none⟩) NBD_A.out _).trans (((cell_far (p := ⟨gbA, _, none⟩) NBD_A.out _).trans (((cell_far (p := ⟨gbA, _, none⟩) NBD_A.out _).trans (hHeld.1)))))))), ((cell_far (p := ⟨gbA, _, none⟩) NBD_A.out _).trans (((cell_far (p := ⟨gbA, _, none⟩) NBD_A.out _).trans (((cell_far (p := ⟨gbA, _, none⟩) NBD_A.out _).trans (((cell_far (p := ⟨gbA, _, none⟩) NBD_A.out _).trans (hHeld.2.1)))))))), ((cell_far (p := ⟨gbA, _, none⟩) NBD_A.out _).trans (((cell_far (p := ⟨gbA, _, none⟩) NBD_A.out _).trans (((cell_far (p := ⟨gbA, _, none⟩) NBD_A.out _).trans (((cell_far (p := ⟨gbA, _, none⟩) NBD_A.out _).trans (hHeld.2.2.1)))))))), ((cell_far (p := ⟨gbA, _, none⟩) NBD_A.out _).trans (((cell_far (p := ⟨gbA, _, none⟩) NBD_A.out _).trans (((cell_far (p := ⟨gbA, _, none⟩) NBD_A.out _).trans (((cell_far (p := ⟨gbA, _, none⟩) NBD_A.out _).trans (hHeld.2.2.2.1)))))))), ((cell_far (p := ⟨gbA, _, none⟩) NBC_A.out _).trans (((cell_far (p := ⟨gbA, _, none⟩) NBC_A.out _).trans (((cell_far (p := ⟨gbA, _, none⟩) NBC_A.out _).trans (((cell_far (p := ⟨gbA, _, none⟩) NBC_A.out _).trans (hHeld.2.2.2.2.1)))))))), ((cell_far (p := ⟨gbA, _, none⟩) NBC_A.out _).trans (((cell_far (p := ⟨gbA, _, none⟩) NBC_A.out _).trans (((cell_far (p := ⟨gbA, _, none⟩) NBC_A.out _).trans (((cell_far (p := ⟨gbA, _, none⟩) NBC_A.out _).trans (hHeld.2.2.2.2.2.1)))))))), ((cell_far (p := ⟨gbA, _, none⟩) NBC_A.out _).trans (((cell_far (p := ⟨gbA, _, none⟩) NBC_A.out _).trans (((cell_far (p := ⟨gbA, _, none⟩) NBC_A.out _).trans (((cell_far (p := ⟨gbA, _, none⟩) NBC_A.out _).trans (hHeld.2.2.2.2.2.2.1)))))))), ((cell_far (p := ⟨gbA, _, none⟩) NBC_A.out _).trans (((cell_far (p := ⟨gbA, _, none⟩) NBC_A.out _).trans (((cell_far (p := ⟨gbA, _, none⟩) NBC_A.out _).trans (((cell_far (p := ⟨gbA, _, none⟩) NBC_A.out _).trans (hHeld.2.2.2.2.2.2.2))))))))⟩ (fun hHeld => ?_); clear hK K; refine done_ (done_of HT_.out (by kernel_rfl)) ?_; have hnb19 := NBA_D.out; have hnc19 := NBD_A.out; have hnb20 := NBA_C.out; have hnc20 := NBC_A.out; have hnb21 := NBA_B.out; have hnc21 := NBB_A.out; obtain ⟨hcz22_0, hcz22_1, hcz22_2, hcz22_3, hfz22_0, hfz22_1, hfz22_2, hfz22_3⟩ := cz4 BKA.out; try go_wp2_with (first | ((with_reducible refine gate_callee (f := 115) rfl ?_); refine goesL_ (some 22) rfl rfl Try.func115 (by kernel_rfl) rfl #[.agg #[.int .i64 tE, .int .i64 tF], .agg #[.int .i64 tG, .int .i64 tI]] rfl zz175 ?_; (with_reducible refine (impl_less.calls tE tF tG tI true _ A5.out).mono ?_); rintro e w23 ⟨rfl, hb⟩; refine ⟨_, rfl, ?_⟩; replace BKD := Aside0.mk (blk_below (g := gbD) (o := .cells #[.int .i64 a0_0, .int .i64 a0_1, .int .i64 a0_2, .int .i64 a0_3] 63 (0, 0)) zz15 hb); replace BKC := Aside0.mk (blk_below (g := gbC) (o := .cells #[.int .i64 a1_0, .int .i64 a1_1, .int .i64 a1_2, .int .i64 a1_3] 63 (0, 0)) zz16 hb); replace BKB := Aside0.mk (blk_below (g := gbB) (o := .cells #[.int .i64 0, .int .i64 0, .int .i64 0, .int .i64 0] 63 (0, 0)) zz17 hb); replace BKA := Aside0.mk (blk_below (g := gbA) (o := .cells #[.int .i64 tE, .int .i64 tF, .int .i64 tG, .int .i64 tI] 63 (0, 0)) zz2 hb); replace HB := Aside0.mk (below_step zz59 hb); obtain ⟨hcz24_0, hcz24_1, hcz24_2, hcz24_3, hfz24_0, hfz24_1, hfz24_2, hfz24_3⟩ := cz4 BKA.out; have hnb25 := NBB_D.out; have hnc25 := NBD_B.out; have hnb26 := NBB_C.out; have hnc26 := NBC_B.out; obtain ⟨hcz27_0, hcz27_1, hcz27_2, hcz27_3, hfz27_0, hfz27_1, hfz27_2, hfz27_3⟩ := cz4 BKB.out))
  refine bodyPost_ret (results_ct rfl _ _ gbB 63 #[.int .i64 tE, .int .i64 tF, .int .i64 tG, .int .i64 tI] (0, 0) _ rfl (by (with_reducible repeat (first | refine blk_drewN ?_ _ | refine blk_drew ?_ | refine blk_alloc ?_ _)); refine blk_put (cs := #[.int .i64 tE, .int .i64 tF, .int .i64 tG, .int .i64 0]) ?_ 3 _ rfl; (with_reducible repeat (first | refine blk_drewN ?_ _ | refine blk_drew ?_ | refine blk_alloc ?_ _)); refine blk_put (cs := #[.int .i64 tE, .int .i64 tF, .int .i64 0, .int .i64 0]) ?_ 2 _ rfl; (with_reducible repeat (first | refine blk_drewN ?_ _ | refine blk_drew ?_ | refine blk_alloc ?_ _)); refine blk_put (cs := #[.int .i64 tE, .int .i64 0, .int .i64 0, .int .i64 0]) ?_ 1 _ rfl; (with_reducible repeat (first | refine blk_drewN ?_ _ | refine blk_drew ?_ | refine blk_alloc ?_ _)); refine blk_put (cs := #[.int .i64 0, .int .i64 0, .int .i64 0, .int .i64 0]) ?_ 0 _ rfl; (with_reducible repeat (first | refine blk_drewN ?_ _ | refine blk_drew ?_ | refine blk_alloc ?_ _)); exact BKB.out) Try.underlying63 rfl (by kernel_rfl)) rfl ?_; exact ⟨zz233, zz59⟩
 ·replace c6 := Bool.eq_false_iff.mpr c6; subst c6; have H1 : (some (0, 0, 0, 0, false)) = some (r1, r2, r3, r4, r5) := by rw [if_neg (show ¬ (false = true) by decide)] at H; exact H
  clear H; have H := H1; clear H1; simp only [Option.some.injEq, Prod.mk.injEq] at H; obtain ⟨rfl, rfl, rfl, rfl, rfl⟩ := H; go_enter Try.func98, Try.ntmps98
  try go_wp2_with (first | ((with_reducible refine gate_dst (N := 2) rfl ?_); refine boxE 2 #[.int .i64 a0_0, .int .i64 a0_1, .int .i64 a0_2, .int .i64 a0_3] 63 ?_; intro gbD hg w28 hbox hb; have GWD := gwA (below_size zz177) hg; have GED := GWD; have BKD := Aside0.mk (hbox); replace HB := Aside0.mk (below_step zz177 hb); clear hb hbox hg) | ((with_reducible refine gate_dst (N := 3) rfl ?_); refine boxE 3 #[.int .i64 a1_0, .int .i64 a1_1, .int .i64 a1_2, .int .i64 a1_3] 63 ?_; intro gbC hg w29 hbox hb; have GWC := gwA (below_size zz137) hg; have GEC := GWC; have NBD_C := nltA BKD hg; have NBC_D := ngtA BKD hg; replace BKD := blkA BKD hb; have BKC := Aside0.mk (hbox); replace HB := Aside0.mk (below_step zz137 hb); clear hb hbox hg) | ((with_reducible refine gate_dst (N := 4) rfl ?_); refine boxE 4 #[.int .i64 0, .int .i64 0, .int .i64 0, .int .i64 0] 63 ?_; intro gbB hg w30 hbox hb; have GWB := gwA (below_size zz93) hg; have GEB := GWB; have NBD_B := nltA BKD hg; have NBB_D := ngtA BKD hg; have NBC_B := nltA BKC hg; have NBB_C := ngtA BKC hg; replace BKD := blkA BKD hb; replace BKC := blkA BKC hb; have BKB := Aside0.mk (hbox); replace HB := Aside0.mk (below_step zz93 hb); clear hb hbox hg))
  replace BKD := Aside0.mk (blk_drew BKD.out); replace BKC := Aside0.mk (blk_drew BKC.out); replace BKB := Aside0.mk (blk_drew BKB.out); replace HB := Aside0.mk (below_drew1 HB.out); refine start_ (n := 13) (S := fun w' => w'.cell? ⟨gbD, 0, none⟩ = some (.int .i64 a0_0) ∧ w'.cell? ⟨gbD, 1, none⟩ = some (.int .i64 a0_1) ∧ w'.cell? ⟨gbD, 2, none⟩ = some (.int .i64 a0_2) ∧ w'.cell? ⟨gbD, 3, none⟩ = some (.int .i64 a0_3) ∧ w'.cell? ⟨gbC, 0, none⟩ = some (.int .i64 a1_0) ∧ w'.cell? ⟨gbC, 1, none⟩ = some (.int .i64 a1_1) ∧ w'.cell? ⟨gbC, 2, none⟩ = some (.int .i64 a1_2) ∧ w'.cell? ⟨gbC, 3, none⟩ = some (.int .i64 a1_3)) (ds := []) (.replicate 13 fF) (by kernel_rfl) rfl rfl ⟨bcA BKD 0, bcA BKD 1, bcA BKD 2, bcA BKD 3, bcA BKC 0, bcA BKC 1, bcA BKC 2, bcA BKC 3⟩ (fun hHeld => ?_); refine with_tabW impl_common.tab1 impl_common.bits1 (fun HT_ HW_ => ?_); generalize w30.drew = w31 at BKD BKC BKB HB hHeld ⊢; refine pureA 0 (some 7) (bB 13 1) HT_ ?_; refine pureA 2 (some 9) (bB 13 5) HT_ ?_; refine pureA 5 (some 12) (bB 13 37) HT_ ?_; refine pureA 7 (some 14) (bB 13 165) HT_ ?_; refine takeA2 1 (some 8) (bB 13 167) HT_ HW_ hHeld ?_; refine takeA2 3 (some 10) (bB 13 175) HT_ HW_ hHeld ?_; refine takeA2 6 (some 13) (bB 13 239) HT_ HW_ hHeld ?_; refine takeA2 8 (some 15) (bB 13 495) HT_ HW_ hHeld ?_; refine join_ (σ := Nat) 1 (bB 13 4095) (fun s_ => [(11, .agg #[.int .i64 tE, .int .i64 tF]), (16, .agg #[.int .i64 tG, .int .i64 tI]), (6, .pointer (some ⟨s_, 0, none⟩)), (17, .agg #[.int .i64 tE, .int .i64 tF, .int .i64 tG, .int .i64 tI])]) (fun s_ w' => (w'.cell? ⟨gbD, 0, none⟩ = some (.int .i64 a0_0) ∧ w'.cell? ⟨gbD, 1, none⟩ = some (.int .i64 a0_1) ∧ w'.cell? ⟨gbD, 2, none⟩ = some (.int .i64 a0_2) ∧ w'.cell? ⟨gbD, 3, none⟩ = some (.int .i64 a0_3) ∧ w'.cell? ⟨gbC, 0, none⟩ = some (.int .i64 a1_0) ∧ w'.cell? ⟨gbC, 1, none⟩ = some (.int .i64 a1_1) ∧ w'.cell? ⟨gbC, 2, none⟩ = some (.int .i64 a1_2) ∧ w'.cell? ⟨gbC, 3, none⟩ = some (.int .i64 a1_3)) ∧ (w'.heap[gbD]? = some (.cells #[.int .i64 a0_0, .int .i64 a0_1, .int .i64 a0_2, .int .i64 a0_3] 63 (0, 0))) ∧ (w'.heap[gbC]? = some (.cells #[.int .i64 a1_0, .int .i64 a1_1, .int .i64 a1_2, .int .i64 a1_3] 63 (0, 0))) ∧ (w'.heap[gbB]? = some (.cells #[.int .i64 0, .int .i64 0, .int .i64 0, .int .i64 0] 63 (0, 0))) ∧ (w'.heap[s_]? = some (.cells #[.int .i64 0, .int .i64 0, .int .i64 0, .int .i64 0] 63 (0, 0))) ∧ (w.heap.size ≤ s_) ∧ (w.heap.size ≤ s_) ∧ (gbD ≠ s_) ∧ (s_ ≠ gbD) ∧ (gbC ≠ s_) ∧ (s_ ≠ gbC) ∧ (gbB ≠ s_) ∧ (s_ ≠ gbB) ∧ (Below w.heap.size w w')) ?_ ?_; rotate_left
  ·intro hCont; refine two_ (i := 4) (j := 11) (Ni := some 11) (Nj := some 6) (bB 13 511) (bB 13 2543) rfl rfl rfl rfl (two_of HT_.out (by kernel_rfl)) (by decide) (by decide) (fun K hK => ?_) (fun K hK => ?_)
   ·skip
    refine goes_ Try.func143 (by kernel_rfl) rfl #[.agg #[.int .i64 a0_0, .int .i64 a0_1], .agg #[.int .i64 a1_0, .int .i64 a1_1]] (by rfl) rfl rfl zz175 ?_; with_reducible refine (impl_greater.calls a0_0 a0_1 a1_0 a1_1 tE tF _ A3.out).mono ?_
    rintro e w32 ⟨rfl, hb⟩; refine ⟨_, rfl, ?_⟩; replace BKD := blkA BKD hb; replace BKC := blkA BKC hb; replace BKB := blkA BKB hb; replace HB := Aside0.mk (below_step zz69 hb); (try clear hb); refine hK.out _ _ ⟨bcA BKD 0, bcA BKD 1, bcA BKD 2, bcA BKD 3, bcA BKC 0, bcA BKC 1, bcA BKC 2, bcA BKC 3⟩ (fun hHeld => ?_); clear hK K; refine normA (some 11) ?_; refine two_ (i := 9) (j := 11) (Ni := some 16) (Nj := some 6) (bB 13 1023) (bB 13 2559) rfl rfl rfl rfl (two_of HT_.out (by kernel_rfl)) (by decide) (by decide) (fun K hK => ?_) (fun K hK => ?_)
    ·skip
     refine goes_ Try.func144 (by kernel_rfl) rfl #[.agg #[.int .i64 a0_2, .int .i64 a0_3], .agg #[.int .i64 a1_2, .int .i64 a1_3]] (by rfl) rfl rfl zz175 ?_; with_reducible refine (impl_lesser.calls a0_2 a0_3 a1_2 a1_3 tG tI _ A4.out).mono ?_
     rintro e w33 ⟨rfl, hb⟩; refine ⟨_, rfl, ?_⟩; replace BKD := blkA BKD hb; replace BKC := blkA BKC hb; replace BKB := blkA BKB hb; replace HB := Aside0.mk (below_step zz69 hb); (try clear hb); refine hK.out _ _ ⟨bcA BKD 0, bcA BKD 1, bcA BKD 2, bcA BKD 3, bcA BKC 0, bcA BKC 1, bcA BKC 2, bcA BKC 3⟩ (fun hHeld => ?_); clear hK K; refine normA (some 16) ?_; refine pureA 10 (some 17) (bB 13 2047) HT_ ?_; refine one_ (i := 11) (N := some 6) (bB 13 4095) rfl rfl (one_of HT_.out (by kernel_rfl)) (by decide) (fun K hK => ?_); refine boxS 6 #[.int .i64 0, .int .i64 0, .int .i64 0, .int .i64 0] 63 ?_; intro gbA hg w34 hbox hb; have GWA := gwA (below_size zz69) hg; have GEA := GWA; have NBD_A := nltA BKD hg; have NBA_D := ngtA BKD hg; have NBC_A := nltA BKC hg; have NBA_C := ngtA BKC hg; have NBB_A := nltA BKB hg; have NBA_B := ngtA BKB hg; replace BKD := blkA BKD hb; replace BKC := blkA BKC hb; replace BKB := blkA BKB hb; have BKA := Aside0.mk (hbox); replace HB := Aside0.mk (below_step zz69 hb); clear hb hbox hg; refine hK.out _ _ ⟨bcA BKD 0, bcA BKD 1, bcA BKD 2, bcA BKD 3, bcA BKC 0, bcA BKC 1, bcA BKC 2, bcA BKC 3⟩ (fun hHeld => ?_); clear hK K; refine normA (some 6) ?_; exact norm_ zz232 (hCont (gbA) _ ⟨hHeld, zz184, zz185, zz186, zz187, GWA.out, GEA.out, NBD_A.out, NBA_D.out, NBC_A.out, NBA_C.out, NBB_A.out, NBA_B.out, zz59⟩)
    ·skip
     refine boxS 6 #[.int .i64 0, .int .i64 0, .int .i64 0, .int .i64 0] 63 ?_; intro gbA hg w33 hbox hb; have GWA := gwA (below_size zz69) hg; have GEA := GWA; have NBD_A := nltA BKD hg; have NBA_D := ngtA BKD hg; have NBC_A := nltA BKC hg; have NBA_C := ngtA BKC hg; have NBB_A := nltA BKB hg; have NBA_B := ngtA BKB hg; replace BKD := blkA BKD hb; replace BKC := blkA BKC hb; replace BKB := blkA BKB hb; have BKA := Aside0.mk (hbox); replace HB := Aside0.mk (below_step zz69 hb); clear hb hbox hg; refine hK.out _ _ ⟨bcA BKD 0, bcA BKD 1, bcA BKD 2, bcA BKD 3, bcA BKC 0, bcA BKC 1, bcA BKC 2, bcA BKC 3⟩ (fun hHeld => ?_); clear hK K; refine normA (some 6) ?_; refine one_ (i := 9) (N := some 16) (bB 13 3071) rfl rfl (one_of HT_.out (by kernel_rfl)) (by decide) (fun K hK => ?_); refine goes_ Try.func144 (by kernel_rfl) rfl #[.agg #[.int .i64 a0_2, .int .i64 a0_3], .agg #[.int .i64 a1_2, .int .i64 a1_3]] (by rfl) rfl rfl zz175 ?_; with_reducible refine (impl_lesser.calls a0_2 a0_3 a1_2 a1_3 tG tI _ A4.out).mono ?_
     rintro e w34 ⟨rfl, hb⟩; refine ⟨_, rfl, ?_⟩; replace BKD := blkA BKD hb; replace BKC := blkA BKC hb; replace BKB := blkA BKB hb; replace BKA := blkA BKA hb; replace HB := Aside0.mk (below_step zz59 hb); (try clear hb); refine hK.out _ _ ⟨bcA BKD 0, bcA BKD 1, bcA BKD 2, bcA BKD 3, bcA BKC 0, bcA BKC 1, bcA BKC 2, bcA BKC 3⟩ (fun hHeld => ?_); clear hK K; refine normA (some 16) ?_; refine pureA 10 (some 17) (bB 13 4095) HT_ ?_; exact norm_ zz232 (hCont (gbA) _ ⟨hHeld, zz184, zz185, zz186, zz187, GWA.out, GEA.out, NBD_A.out, NBA_D.out, NBC_A.out, NBA_C.out, NBB_A.out, NBA_B.out, zz59⟩)
   ·skip
    refine boxS 6 #[.int .i64 0, .int .i64 0, .int .i64 0, .int .i64 0] 63 ?_; intro gbA hg w32 hbox hb; have GWA := gwA (below_size zz69) hg; have GEA := GWA; have NBD_A := nltA BKD hg; have NBA_D := ngtA BKD hg; have NBC_A := nltA BKC hg; have NBA_C := ngtA BKC hg; have NBB_A := nltA BKB hg; have NBA_B := ngtA BKB hg; replace BKD := blkA BKD hb; replace BKC := blkA BKC hb; replace BKB := blkA BKB hb; have BKA := Aside0.mk (hbox); replace HB := Aside0.mk (below_step zz69 hb); clear hb hbox hg; refine hK.out _ _ ⟨bcA BKD 0, bcA BKD 1, bcA BKD 2, bcA BKD 3, bcA BKC 0, bcA BKC 1, bcA BKC 2, bcA BKC 3⟩ (fun hHeld => ?_); clear hK K; refine normA (some 6) ?_; refine one_ (i := 4) (N := some 11) (bB 13 2559) rfl rfl (one_of HT_.out (by kernel_rfl)) (by decide) (fun K hK => ?_); refine goes_ Try.func143 (by kernel_rfl) rfl #[.agg #[.int .i64 a0_0, .int .i64 a0_1], .agg #[.int .i64 a1_0, .int .i64 a1_1]] (by rfl) rfl rfl zz175 ?_; with_reducible refine (impl_greater.calls a0_0 a0_1 a1_0 a1_1 tE tF _ A3.out).mono ?_
    rintro e w33 ⟨rfl, hb⟩; refine ⟨_, rfl, ?_⟩; replace BKD := blkA BKD hb; replace BKC := blkA BKC hb; replace BKB := blkA BKB hb; replace BKA := blkA BKA hb; replace HB := Aside0.mk (below_step zz59 hb); (try clear hb); refine hK.out _ _ ⟨bcA BKD 0, bcA BKD 1, bcA BKD 2, bcA BKD 3, bcA BKC 0, bcA BKC 1, bcA BKC 2, bcA BKC 3⟩ (fun hHeld => ?_); clear hK K; refine normA (some 11) ?_; refine one_ (i := 9) (N := some 16) (bB 13 3071) rfl rfl (one_of HT_.out (by kernel_rfl)) (by decide) (fun K hK => ?_); refine goes_ Try.func144 (by kernel_rfl) rfl #[.agg #[.int .i64 a0_2, .int .i64 a0_3], .agg #[.int .i64 a1_2, .int .i64 a1_3]] (by rfl) rfl rfl zz175 ?_; with_reducible refine (impl_lesser.calls a0_2 a0_3 a1_2 a1_3 tG tI _ A4.out).mono ?_
    rintro e w34 ⟨rfl, hb⟩; refine ⟨_, rfl, ?_⟩; replace BKD := blkA BKD hb; replace BKC := blkA BKC hb; replace BKB := blkA BKB hb; replace BKA := blkA BKA hb; replace HB := Aside0.mk (below_step zz59 hb); (try clear hb); refine hK.out _ _ ⟨bcA BKD 0, bcA BKD 1, bcA BKD 2, bcA BKD 3, bcA BKC 0, bcA BKC 1, bcA BKC 2, bcA BKC 3⟩ (fun hHeld => ?_); clear hK K; refine normA (some 16) ?_; refine pureA 10 (some 17) (bB 13 4095) HT_ ?_; exact norm_ zz232 (hCont (gbA) _ ⟨hHeld, zz184, zz185, zz186, zz187, GWA.out, GEA.out, NBD_A.out, NBA_D.out, NBC_A.out, NBA_C.out, NBB_A.out, NBA_B.out, zz59⟩)
  rintro gbA w35 ⟨hS_, h0_, h1_, h2_, h3_, h4_, h5_, h6_, h7_, h8_, h9_, h10_, h11_, h12_⟩; replace BKD : Aside0 (w35.heap[gbD]? = some (.cells #[.int .i64 a0_0, .int .i64 a0_1, .int .i64 a0_2, .int .i64 a0_3] 63 (0, 0))) := ⟨h0_⟩; replace BKC : Aside0 (w35.heap[gbC]? = some (.cells #[.int .i64 a1_0, .int .i64 a1_1, .int .i64 a1_2, .int .i64 a1_3] 63 (0, 0))) := ⟨h1_⟩; replace BKB : Aside0 (w35.heap[gbB]? = some (.cells #[.int .i64 0, .int .i64 0, .int .i64 0, .int .i64 0] 63 (0, 0))) := ⟨h2_⟩; have BKA : Aside0 (w35.heap[gbA]? = some (.cells #[.int .i64 0, .int .i64 0, .int .i64 0, .int .i64 0] 63 (0, 0))) := ⟨h3_⟩; have GWA : Aside0 (w.heap.size ≤ gbA) := ⟨h4_⟩; have GEA : Aside0 (w.heap.size ≤ gbA) := ⟨h5_⟩; have NBD_A : Aside0 (gbD ≠ gbA) := ⟨h6_⟩; have NBA_D : Aside0 (gbA ≠ gbD) := ⟨h7_⟩; have NBC_A : Aside0 (gbC ≠ gbA) := ⟨h8_⟩; have NBA_C : Aside0 (gbA ≠ gbC) := ⟨h9_⟩; have NBB_A : Aside0 (gbB ≠ gbA) := ⟨h10_⟩; have NBA_B : Aside0 (gbA ≠ gbB) := ⟨h11_⟩; replace HB : Aside0 (Below w.heap.size w w35) := ⟨h12_⟩; clear h0_ h1_ h2_ h3_ h4_ h5_ h6_ h7_ h8_ h9_ h10_ h11_ h12_; have hHeld : w35.cell? ⟨gbD, 0, none⟩ = some (.int .i64 a0_0) ∧ w35.cell? ⟨gbD, 1, none⟩ = some (.int .i64 a0_1) ∧ w35.cell? ⟨gbD, 2, none⟩ = some (.int .i64 a0_2) ∧ w35.cell? ⟨gbD, 3, none⟩ = some (.int .i64 a0_3) ∧ w35.cell? ⟨gbC, 0, none⟩ = some (.int .i64 a1_0) ∧ w35.cell? ⟨gbC, 1, none⟩ = some (.int .i64 a1_1) ∧ w35.cell? ⟨gbC, 2, none⟩ = some (.int .i64 a1_2) ∧ w35.cell? ⟨gbC, 3, none⟩ = some (.int .i64 a1_3) := hS_; refine norm_ (a' := ?_) ?_ ?_; rotate_left
  ·simp only [putAll, Act.put, List.setIfInBounds_toArray, List.set_cons_zero, List.set_cons_succ]; rfl
  refine one_ (i := 12) (N := none) (bB 13 8191) rfl rfl (one_of HT_.out (by kernel_rfl)) (by decide) (fun K hK => ?_); have hs36 : w35.cell? ⟨gbA, 0, none⟩ = some (.int .i64 0) := bcA BKA 0; have hfs36 := blk_frozen BKA.out 0; have hns36_0 := NBD_A.out; have hns36_1 := NBC_A.out; have hns36_2 := NBB_A.out; have hms36_0 := NBA_D.out; have hms36_1 := NBA_C.out; have hms36_2 := NBA_B.out; have hs37 : w35.cell? ⟨gbA, 1, none⟩ = some (.int .i64 0) := bcA BKA 1; have hfs37 := blk_frozen BKA.out 1; have hns37_0 := NBD_A.out; have hns37_1 := NBC_A.out; have hns37_2 := NBB_A.out; have hms37_0 := NBA_D.out; have hms37_1 := NBA_C.out; have hms37_2 := NBA_B.out; have hs38 : w35.cell? ⟨gbA, 2, none⟩ = some (.int .i64 0) := bcA BKA 2; have hfs38 := blk_frozen BKA.out 2; have hns38_0 := NBD_A.out; have hns38_1 := NBC_A.out; have hns38_2 := NBB_A.out; have hms38_0 := NBA_D.out; have hms38_1 := NBA_C.out; have hms38_2 := NBA_B.out; have hs39 : w35.cell? ⟨gbA, 3, none⟩ = some (.int .i64 0) := bcA BKA 3; have hfs39 := blk_frozen BKA.out 3; have hns39_0 := NBD_A.out; have hns39_1 := NBC_A.out; have hns39_2 := NBB_A.out; have hms39_0 := NBA_D.out; have hms39_1 := NBA_C.out; have hms39_2 := NBA_B.out; refine skip_ (w1 := ?_) (by rfl) rfl ?_ ?_; rotate_left
  ·go_simp
   rfl
  refine hK.out _ _ ⟨((cell_far (p := ⟨gbA, _, none⟩) NBD_A.out _).trans (((cell_far (p := ⟨gbA, _, none⟩) NBD_A.out _).trans (((cell_far (p := ⟨gbA, _, none⟩) NBD_A.out _).trans (((cell_far (p := ⟨gbA, _, none⟩) NBD_A.out _).trans (hHeld.1)))))))), ((cell_far (p := ⟨gbA, _, none⟩) NBD_A.out _).trans (((cell_far (p := ⟨gbA, _, none⟩) NBD_A.out _).trans (((cell_far (p := ⟨gbA, _, none⟩) NBD_A.out _).trans (((cell_far (p := ⟨gbA, _, none⟩) NBD_A.out _).trans (hHeld.2.1)))))))), ((cell_far (p := ⟨gbA, _, none⟩) NBD_A.out _).trans (((cell_far (p := ⟨gbA, _, none⟩) NBD_A.out _).trans (((cell_far (p := ⟨gbA, _, none⟩) NBD_A.out _).trans (((cell_far (p := ⟨gbA, _, none⟩) NBD_A.out _).trans (hHeld.2.2.1)))))))), ((cell_far (p := ⟨gbA, _, none⟩) NBD_A.out _).trans (((cell_far (p := ⟨gbA, _, none⟩) NBD_A.out _).trans (((cell_far (p := ⟨gbA, _, none⟩) NBD_A.out _).trans (((cell_far (p := ⟨gbA, _, none⟩) NBD_A.out _).trans (hHeld.2.2.2.1)))))))), ((cell_far (p := ⟨gbA, _, none⟩) NBC_A.out _).trans (((cell_far (p := ⟨gbA, _, none⟩) NBC_A.out _).trans (((cell_far (p := ⟨gbA, _, none⟩) NBC_A.out _).trans (((cell_far (p := ⟨gbA, _, none⟩) NBC_A.out _).trans (hHeld.2.2.2.2.1)))))))), ((cell_far (p := ⟨gbA, _, none⟩) NBC_A.out _).trans (((cell_far (p := ⟨gbA, _, none⟩) NBC_A.out _).trans (((cell_far (p := ⟨gbA, _, none⟩) NBC_A.out _).trans (((cell_far (p := ⟨gbA, _, none⟩) NBC_A.out _).trans (hHeld.2.2.2.2.2.1)))))))), ((cell_far (p := ⟨gbA, _, none⟩) NBC_A.out _).trans (((cell_far (p := ⟨gbA, _, none⟩) NBC_A.out _).trans (((cell_far (p := ⟨gbA, _, none⟩) NBC_A.out _).trans (((cell_far (p := ⟨gbA, _, none⟩) NBC_A.out _).trans (hHeld.2.2.2.2.2.2.1)))))))), ((cell_far (p := ⟨gbA, _, none⟩) NBC_A.out _).trans (((cell_far (p := ⟨gbA, _, none⟩) NBC_A.out _).trans (((cell_far (p := ⟨gbA, _, none⟩) NBC_A.out _).trans (((cell_far (p := ⟨gbA, _, none⟩) NBC_A.out _).trans (hHeld.2.2.2.2.2.2.2))))))))⟩ (fun hHeld => ?_); clear hK K; refine done_ (done_of HT_.out (by kernel_rfl)) ?_; have hnb40 := NBA_D.out; have hnc40 := NBD_A.out; have hnb41 := NBA_C.out; have hnc41 := NBC_A.out; have hnb42 := NBA_B.out; have hnc42 := NBB_A.out; obtain ⟨hcz43_0, hcz43_1, hcz43_2, hcz43_3, hfz43_0, hfz43_1, hfz43_2, hfz43_3⟩ := cz4 BKA.out; try go_wp2_with (first | ((with_reducible refine gate_callee (f := 115) rfl ?_); refine goesL_ (some 22) rfl rfl Try.func115 (by kernel_rfl) rfl #[.agg #[.int .i64 tE, .int .i64 tF], .agg #[.int .i64 tG, .int .i64 tI]] rfl zz175 ?_; (with_reducible refine (impl_less.calls tE tF tG tI false _ A5.out).mono ?_); rintro e w44 ⟨rfl, hb⟩; refine ⟨_, rfl, ?_⟩; replace BKD := Aside0.mk (blk_below (g := gbD) (o := .cells #[.int .i64 a0_0, .int .i64 a0_1, .int .i64 a0_2, .int .i64 a0_3] 63 (0, 0)) zz15 hb); replace BKC := Aside0.mk (blk_below (g := gbC) (o := .cells #[.int .i64 a1_0, .int .i64 a1_1, .int .i64 a1_2, .int .i64 a1_3] 63 (0, 0)) zz16 hb); replace BKB := Aside0.mk (blk_below (g := gbB) (o := .cells #[.int .i64 0, .int .i64 0, .int .i64 0, .int .i64 0] 63 (0, 0)) zz17 hb); replace BKA := Aside0.mk (blk_below (g := gbA) (o := .cells #[.int .i64 tE, .int .i64 tF, .int .i64 tG, .int .i64 tI] 63 (0, 0)) zz2 hb); replace HB := Aside0.mk (below_step zz59 hb); have hnb45 := NBB_D.out; have hnc45 := NBD_B.out; have hnb46 := NBB_C.out; have hnc46 := NBC_B.out; obtain ⟨hcz47_0, hcz47_1, hcz47_2, hcz47_3, hfz47_0, hfz47_1, hfz47_2, hfz47_3⟩ := cz4 BKB.out))
  refine bodyPost_ret (results_ct rfl _ _ gbB 63 #[.int .i64 0, .int .i64 0, .int .i64 0, .int .i64 0] (0, 0) _ rfl (by (with_reducible repeat (first | refine blk_drewN ?_ _ | refine blk_drew ?_ | refine blk_alloc ?_ _)); refine blk_put (cs := #[.int .i64 0, .int .i64 0, .int .i64 0, .int .i64 0]) ?_ 3 _ rfl; (with_reducible repeat (first | refine blk_drewN ?_ _ | refine blk_drew ?_ | refine blk_alloc ?_ _)); refine blk_put (cs := #[.int .i64 0, .int .i64 0, .int .i64 0, .int .i64 0]) ?_ 2 _ rfl; (with_reducible repeat (first | refine blk_drewN ?_ _ | refine blk_drew ?_ | refine blk_alloc ?_ _)); refine blk_put (cs := #[.int .i64 0, .int .i64 0, .int .i64 0, .int .i64 0]) ?_ 1 _ rfl; (with_reducible repeat (first | refine blk_drewN ?_ _ | refine blk_drew ?_ | refine blk_alloc ?_ _)); refine blk_put (cs := #[.int .i64 0, .int .i64 0, .int .i64 0, .int .i64 0]) ?_ 0 _ rfl; (with_reducible repeat (first | refine blk_drewN ?_ _ | refine blk_drew ?_ | refine blk_alloc ?_ _)); exact BKB.out) Try.underlying63 rfl (by kernel_rfl)) rfl ?_; exact ⟨zz233, zz59⟩
end Go.Proofs.Ytgejkhbehoabdaa.Q
namespace Go.Proofs.Ytgejkhbehoabdaa.Q
open Go.RowKit Go.Proofs.YtgejkhbehoabdaaW.PrintWords Go.Proofs.YtgejkhbehoabdaaW.PrintLast Go.Proofs.YtgejkhbehoabdaaW.PrintMore
attribute [local go_sem] max2_int min2_int max_two min_two max_three min_three max_four min_four   -- for this text's walks alone
set_option linter.unusedVariables false
set_option linter.unusedSimpArgs false
mutual
def impl_MassOf.j0 : Nat → List (S47) → List (S47) → Bool → Int → Int → Int → Int → Option (Int × Int × Bool)
 | 0, _, _, _, _, _, _, _ => none
 | k + 1, x0, x1, x22, xA, xB, xC, xD => if x22 = true then (some (0, 0, false)) else ((impl_zero.f).bind fun btE => ((impl_between.f k x0).bind fun tF => (impl_MassOf.l0 k x1 tF (tF.length : Int) 0 xA xB xC xD false btE.1 btE.2)))
def impl_MassOf.l0 : Nat → List (S47) → List (S63) → Int → Int → Int → Int → Int → Int → Bool → Int → Int → Option (Int × Int × Bool)
 | 0, _, _, _, _, _, _, _, _, _, _, _ => none
 | k + 1, x1, x26, x27, x28, xA, xB, xC, xD, xE, xF, xG => if x28 < x27 then (if 0 ≤ x28 then (if x28 < (x26.length : Int) then ((impl_common.f ((rd_T63 x26 x28).f0.f0) ((rd_T63 x26 x28).f0.f1) ((rd_T63 x26 x28).f1.f0) ((rd_T63 x26 x28).f1.f1) xA xB xC xD).bind fun btH => (if btH.2.2.2.2 = true then (if x28 < (x1.length : Int) then ((impl_calc_sub.f k xE btH.2.2.1 btH.2.2.2.1 btH.1 btH.2.1).bind fun btI => ((impl_calc_mul.f k btI.2.2 ((rd_T47 x1 x28).f0) ((rd_T47 x1 x28).f1) btI.1 btI.2.1).bind fun btJ => ((impl_calc_add.f k btJ.2.2 xF xG btJ.1 btJ.2.1).bind fun btK => (impl_MassOf.l0 k x1 x26 x27 (wrap64 (x28 + 1)) xA xB xC xD btK.2.2 btK.1 btK.2.1)))) else (none)) else (impl_MassOf.l0 k x1 x26 x27 (wrap64 (x28 + 1)) xA xB xC xD xE xF xG))) else (none)) else (none)) else ((impl_calc_finished.f xE xF xG).bind fun btL => (some (btL.1, btL.2.1, btL.2.2.1)))
end
def impl_MassOf.f (k : Nat) (l0 : List (S47)) (l1 : List (S47)) (a2_0 : Int) (a2_1 : Int) (a2_2 : Int) (a2_3 : Int) : Option (Int × Int × Bool) := (impl_isTold.f k l0 l1).bind fun tA => (if tA = true then ((impl_isInterval.f k a2_0 a2_1 a2_2 a2_3).bind fun tB => (impl_MassOf.j0 k l0 l1 (!tB) a2_0 a2_1 a2_2 a2_3)) else (impl_MassOf.j0 k l0 l1 true a2_0 a2_1 a2_2 a2_3))
def impl_MassOf.T10 : Bool × List (List Nat × List Nat) := (true, [([], []), ([], []), ([], []), ([1, 2], [1, 2]), ([3], [3]), ([], []), ([5], [5]), ([], []), ([7], [7]), ([6, 8], [6, 8]), ([4, 9, 9], [4, 9]), ([0, 10, 10], [0, 10]), ([11, 11, 0, 1, 2, 3, 4, 5, 6, 7, 8, 9, 10, 11], [11])])
def impl_MassOf.B10 : List Nat := [0, 0, 0, 6, 14, 0, 32, 0, 128, 480, 1022, 2047, 4095]
theorem impl_MassOf.tab10 : rtab .any (opsOf Try.f46 10) = impl_MassOf.T10 := by kernel_rfl
theorem impl_MassOf.bits10 : waitsOk impl_MassOf.T10.2 impl_MassOf.B10 = true := by kernel_rfl
theorem zz224 {p : Prop} (h : p := by (with_reducible repeat (first | apply Kd.R_alloc | apply Kd.R_drewN | apply Kd.R_drew)); exact HO_26.out) : p := h
theorem zz192 {p : Prop} (h : p := by (with_reducible repeat (first | refine blk_drewN ?_ _ | refine blk_drew ?_ | refine blk_alloc ?_ _)); exact BKA.out) : p := h
theorem zz191 {p : Prop} (h : p := by (with_reducible repeat (first | refine blk_drewN ?_ _ | refine blk_drew ?_ | refine blk_alloc ?_ _)); exact BKC.out) : p := h
theorem zz190 {p : Prop} (h : p := by (with_reducible repeat (first | refine blk_drewN ?_ _ | refine blk_drew ?_ | refine blk_alloc ?_ _)); exact BKD.out) : p := h
theorem zz189 {p : Prop} (h : p := by (with_reducible repeat (first | refine blk_drewN ?_ _ | refine blk_drew ?_ | refine blk_alloc ?_ _)); exact BKE.out) : p := h
theorem zz188 {p : Prop} (h : p := by (with_reducible repeat (first | refine blk_drewN ?_ _ | refine blk_drew ?_ | refine blk_alloc ?_ _)); exact BKG.out) : p := h
theorem zz138 {p : Prop} (h : p := by repeat (first | (with_reducible first | exact HB.out | apply below_alloc | apply pw_below_drewN | apply below_drew1 | refine below_set ?_ GEG.out) | exact HB.out)) : p := h
theorem zz94 {p : Prop} (h : p := by repeat (first | (with_reducible first | exact HB.out | apply below_alloc | apply pw_below_drewN | apply below_drew1 | refine below_set ?_ GEG.out | refine below_set ?_ GEE.out) | exact HB.out)) : p := h
theorem zz65 {p : Prop} (h : p := by repeat (first | (with_reducible first | exact HB.out | apply below_alloc | apply pw_below_drewN | apply below_drew1 | refine below_set ?_ (IsS92.ge HIH.out) | refine below_set ?_ GEG.out | refine below_set ?_ GEE.out) | exact HB.out)) : p := h
theorem zz64 {p : Prop} (h : p := by repeat (first | (with_reducible first | exact HIH.out | apply IsS92.alloc | apply IsS92.drewN | apply IsS92.drew | apply IsS92.set_0 | apply IsS92.far (hne := NBH_G.out) | apply IsS92.far (hne := NBH_E.out)) | exact HIH.out)) : p := h
theorem zz58 {p : Prop} (h : p := by repeat (first | (with_reducible first | exact HB.out | apply below_alloc | apply pw_below_drewN | apply below_drew1 | refine below_set ?_ (IsS92.ge HIH.out) | refine below_set ?_ GEG.out | refine below_set ?_ GEE.out | refine below_set ?_ GED.out) | exact HB.out)) : p := h
theorem zz57 {p : Prop} (h : p := by repeat (first | (with_reducible first | exact HIH.out | apply IsS92.alloc | apply IsS92.drewN | apply IsS92.drew | apply IsS92.set_0 | apply IsS92.far (hne := NBH_G.out) | apply IsS92.far (hne := NBH_E.out) | apply IsS92.far (hne := NBH_D.out)) | exact HIH.out)) : p := h
theorem zz56 {p : Prop} (h : p := by repeat (first | (with_reducible first | exact HB.out | apply below_alloc | apply pw_below_drewN | apply below_drew1 | refine below_set ?_ (IsS92.ge HIH.out) | refine below_set ?_ GEG.out | refine below_set ?_ GEE.out | refine below_set ?_ GED.out | refine below_set ?_ GEC.out) | exact HB.out)) : p := h
theorem zz55 {p : Prop} (h : p := by repeat (first | (with_reducible first | exact HIH.out | apply IsS92.alloc | apply IsS92.drewN | apply IsS92.drew | apply IsS92.set_0 | apply IsS92.far (hne := NBH_G.out) | apply IsS92.far (hne := NBH_E.out) | apply IsS92.far (hne := NBH_D.out) | apply IsS92.far (hne := NBH_C.out)) | exact HIH.out)) : p := h
theorem zz39 {p : Prop} (h : p := by (with_reducible repeat (first | refine blk_drewN ?_ _ | refine blk_drew ?_ | refine blk_alloc ?_ _)); refine blk_far ?_ NBG_D.out _; (with_reducible repeat (first | refine blk_drewN ?_ _ | refine blk_drew ?_ | refine blk_alloc ?_ _)); refine blk_far ?_ NBG_D.out _; (with_reducible repeat (first | refine blk_drewN ?_ _ | refine blk_drew ?_ | refine blk_alloc ?_ _)); exact BKG.out) : p := h
theorem zz23 {p : Prop} (h : p := by (with_reducible repeat (first | apply Kd.R_alloc | apply Kd.R_drewN | apply Kd.R_drew)); exact (Kd.R_mono (Kd.R_far (p := ⟨gbC, 3, none⟩) (Kd.R_far (p := ⟨gbC, 2, none⟩) (Kd.R_far (p := ⟨gbC, 1, none⟩) (Kd.R_far (p := ⟨gbC, 0, none⟩) (Kd.R_mono HO_26.out (fun k_ hk => (⟨hk, hk.2⟩ : _ ∧ k_ ≠ gbC))) (fun _ hk => hk.2) (.int .i64 ((rd_T63 tI x28_2).f0.f0))) (fun _ hk => hk.2) (.int .i64 ((rd_T63 tI x28_2).f0.f1))) (fun _ hk => hk.2) (.int .i64 ((rd_T63 tI x28_2).f1.f0))) (fun _ hk => hk.2) (.int .i64 ((rd_T63 tI x28_2).f1.f1))) (fun _ h_ => h_.1))) : p := h
theorem zz20 {p : Prop} (h : p := by (with_reducible repeat (first | refine blk_drewN ?_ _ | refine blk_drew ?_ | refine blk_alloc ?_ _)); refine blk_far ?_ NBD_C.out _; (with_reducible repeat (first | refine blk_drewN ?_ _ | refine blk_drew ?_ | refine blk_alloc ?_ _)); refine blk_far ?_ NBD_C.out _; (with_reducible repeat (first | refine blk_drewN ?_ _ | refine blk_drew ?_ | refine blk_alloc ?_ _)); refine blk_far ?_ NBD_C.out _; (with_reducible repeat (first | refine blk_drewN ?_ _ | refine blk_drew ?_ | refine blk_alloc ?_ _)); refine blk_far ?_ NBD_C.out _; (with_reducible repeat (first | refine blk_drewN ?_ _ | refine blk_drew ?_ | refine blk_alloc ?_ _)); exact BKD.out) : p := h
theorem zz19 {p : Prop} (h : p := by (with_reducible repeat (first | refine blk_drewN ?_ _ | refine blk_drew ?_ | refine blk_alloc ?_ _)); refine blk_far ?_ NBE_C.out _; (with_reducible repeat (first | refine blk_drewN ?_ _ | refine blk_drew ?_ | refine blk_alloc ?_ _)); refine blk_far ?_ NBE_C.out _; (with_reducible repeat (first | refine blk_drewN ?_ _ | refine blk_drew ?_ | refine blk_alloc ?_ _)); refine blk_far ?_ NBE_C.out _; (with_reducible repeat (first | refine blk_drewN ?_ _ | refine blk_drew ?_ | refine blk_alloc ?_ _)); refine blk_far ?_ NBE_C.out _; (with_reducible repeat (first | refine blk_drewN ?_ _ | refine blk_drew ?_ | refine blk_alloc ?_ _)); exact BKE.out) : p := h
theorem zz18 {p : Prop} (h : p := by (with_reducible repeat (first | refine blk_drewN ?_ _ | refine blk_drew ?_ | refine blk_alloc ?_ _)); refine blk_far ?_ NBG_C.out _; (with_reducible repeat (first | refine blk_drewN ?_ _ | refine blk_drew ?_ | refine blk_alloc ?_ _)); refine blk_far ?_ NBG_C.out _; (with_reducible repeat (first | refine blk_drewN ?_ _ | refine blk_drew ?_ | refine blk_alloc ?_ _)); refine blk_far ?_ NBG_C.out _; (with_reducible repeat (first | refine blk_drewN ?_ _ | refine blk_drew ?_ | refine blk_alloc ?_ _)); refine blk_far ?_ NBG_C.out _; (with_reducible repeat (first | refine blk_drewN ?_ _ | refine blk_drew ?_ | refine blk_alloc ?_ _)); exact BKG.out) : p := h
theorem zz0 {p : Prop} (h : p := by (with_reducible repeat (first | refine blk_drewN ?_ _ | refine blk_drew ?_ | refine blk_alloc ?_ _)); refine blk_put (cs := #[.int .i64 ((rd_T63 tI x28_2).f0.f0), .int .i64 ((rd_T63 tI x28_2).f0.f1), .int .i64 ((rd_T63 tI x28_2).f1.f0), .int .i64 0]) ?_ 3 _ rfl; (with_reducible repeat (first | refine blk_drewN ?_ _ | refine blk_drew ?_ | refine blk_alloc ?_ _)); refine blk_put (cs := #[.int .i64 ((rd_T63 tI x28_2).f0.f0), .int .i64 ((rd_T63 tI x28_2).f0.f1), .int .i64 0, .int .i64 0]) ?_ 2 _ rfl; (with_reducible repeat (first | refine blk_drewN ?_ _ | refine blk_drew ?_ | refine blk_alloc ?_ _)); refine blk_put (cs := #[.int .i64 ((rd_T63 tI x28_2).f0.f0), .int .i64 0, .int .i64 0, .int .i64 0]) ?_ 1 _ rfl; (with_reducible repeat (first | refine blk_drewN ?_ _ | refine blk_drew ?_ | refine blk_alloc ?_ _)); refine blk_put (cs := #[.int .i64 0, .int .i64 0, .int .i64 0, .int .i64 0]) ?_ 0 _ rfl; (with_reducible repeat (first | refine blk_drewN ?_ _ | refine blk_drew ?_ | refine blk_alloc ?_ _)); exact BKC.out) : p := h
set_option maxHeartbeats 8000000 in
set_option maxRecDepth 100000 in
theorem impl_MassOf.calls (k : Nat) (A0 : Option Addr) (c0 : Nat) (l0 : List (S47)) (A1 : Option Addr) (c1 : Nat) (l1 : List (S47)) (a2_0 : Int) (a2_1 : Int) (a2_2 : Int) (a2_3 : Int) (r1 : Int) (r2 : Int) (r3 : Bool) (w : World) (hr0 : Kd.C k47 w A0 l0.length l0) (hc0 : l0.length ≤ c0) (hr1 : Kd.C k47 w A1 l1.length l1) (hc1 : l1.length ≤ c1) (h : impl_MassOf.f k l0 l1 a2_0 a2_1 a2_2 a2_3 = some (r1, r2, r3)) :
  Calls Try.prog 46 #[.slice A0 l0.length c0, .slice A1 l1.length c1, .agg #[.int .i64 a2_0, .int .i64 a2_1, .int .i64 a2_2, .int .i64 a2_3]] w fun e w' => e = .returned (.tuple #[.agg #[.int .i64 r1, .int .i64 r2], .bool r3]) ∧ Below w.heap.size w w' := by
 have hu63 := Try.underlying63; have hu47 := Try.underlying47; have hu92 := Try.underlying92; have HR0 := Aside0.mk hr0; have HC0 := Aside0.mk hc0; clear hr0 hc0; have HR1 := Aside0.mk hr1; have HC1 := Aside0.mk hc1; clear hr1 hc1; have HB := Aside0.mk (Below.refl w.heap.size w); have H : ((impl_isTold.f k l0 l1).bind fun tJ => (if tJ = true then ((impl_isInterval.f k a2_0 a2_1 a2_2 a2_3).bind fun tK => (impl_MassOf.j0 k l0 l1 (!tK) a2_0 a2_1 a2_2 a2_3)) else (impl_MassOf.j0 k l0 l1 true a2_0 a2_1 a2_2 a2_3))) = some (r1, r2, r3) := h; clear h; have HC4 := Aside0.mk H; clear H; go_enter Try.func46, Try.ntmps46
 go_upto_region 1 with (first | ((with_reducible refine gate_dst (N := 5) rfl ?_); refine boxE 5 #[.int .i64 a2_0, .int .i64 a2_1, .int .i64 a2_2, .int .i64 a2_3] 63 ?_; intro gbG hg w5 hbox hb; have GWG := gwA (below_size zz177) hg; have GEG := GWG; have BKG := Aside0.mk (hbox); replace HB := Aside0.mk (below_step zz177 hb); clear hb hbox hg) | ((with_reducible refine gate_dst (N := 6) rfl ?_); refine boxE 6 #[.int .i64 0, .int .i64 0] 47 ?_; intro gbE hg w6 hbox hb; have GWE := gwA (below_size zz138) hg; have GEE := GWE; have NBG_E := nltA BKG hg; have NBE_G := ngtA BKG hg; replace BKG := blkA BKG hb; have BKE := Aside0.mk (hbox); replace HB := Aside0.mk (below_step zz138 hb); clear hb hbox hg))
 (try simp only [Act.put, List.setIfInBounds_toArray, List.set_cons_zero, List.set_cons_succ]); go_cut [22] (fun v22 wc => ∃ (kq : Nat) (x22_3 : Bool), v22 = .bool x22_3 ∧ Aside0 (impl_MassOf.j0 kq l0 l1 x22_3 a2_0 a2_1 a2_2 a2_3 = some (r1, r2, r3)) ∧ Aside0 (kq ≤ k) ∧ Aside0 (wc.heap[gbG]? = some (.cells #[.int .i64 a2_0, .int .i64 a2_1, .int .i64 a2_2, .int .i64 a2_3] 63 (0, 0))) ∧ Aside0 (wc.heap[gbE]? = some (.cells #[.int .i64 0, .int .i64 0] 47 (0, 0))) ∧ Aside0 (Below w.heap.size w wc))
 case first =>
  have H := HC4.out; clear HC4; replace H := Option.bind_eq_some_iff.mp H; obtain ⟨tJ, A70, H⟩ := H; replace H : (if tJ = true then ((impl_isInterval.f k a2_0 a2_1 a2_2 a2_3).bind fun tK => (impl_MassOf.j0 k l0 l1 (!tK) a2_0 a2_1 a2_2 a2_3)) else (impl_MassOf.j0 k l0 l1 true a2_0 a2_1 a2_2 a2_3)) = some (r1, r2, r3) := H; have A7 := Aside0.mk A70; clear A70; by_cases c8 : tJ = true
  ·subst c8; have H1 : ((impl_isInterval.f k a2_0 a2_1 a2_2 a2_3).bind fun tK => (impl_MassOf.j0 k l0 l1 (!tK) a2_0 a2_1 a2_2 a2_3)) = some (r1, r2, r3) := by rw [if_pos rfl] at H; exact H
   clear H; have H := H1; clear H1; replace H := Option.bind_eq_some_iff.mp H; obtain ⟨tK, A90, H⟩ := H; replace H : (impl_MassOf.j0 k l0 l1 (!tK) a2_0 a2_1 a2_2 a2_3) = some (r1, r2, r3) := H; have A9 := Aside0.mk A90; clear A90; have H' := Aside0.mk H; clear H; go_wp2_with (first | ((with_reducible refine gate_callee (f := 81) rfl ?_); refine goesL_ (some 16) rfl rfl Try.func81 (by kernel_rfl) rfl #[.slice A0 l0.length c0, .slice A1 l1.length c1] rfl zz175 ?_; (with_reducible refine (impl_isTold.calls k _ _ l0 _ _ l1 true _ ?side1 ?side2 ?side3 ?side4 A7.out).mono ?_); (case side1 => repeat (first | exact (Kd.C_below HR0.out HB.out) | (with_reducible refine Kd.C_alloc ?_ _) | (with_reducible refine Kd.C_drewN ?_ _) | (with_reducible refine Kd.C_drew ?_))); (case side2 => exact HC0.out); (case side3 => repeat (first | exact (Kd.C_below HR1.out HB.out) | (with_reducible refine Kd.C_alloc ?_ _) | (with_reducible refine Kd.C_drewN ?_ _) | (with_reducible refine Kd.C_drew ?_))); (case side4 => exact HC1.out); rintro e w10 ⟨rfl, hb⟩; refine ⟨_, rfl, ?_⟩; replace BKG := blkA BKG hb; replace BKE := blkA BKE hb; replace HB := Aside0.mk (below_step zz94 hb); (try clear hb); have hnb11 := NBG_E.out; have hnc11 := NBE_G.out; obtain ⟨hcz12_0, hcz12_1, hcz12_2, hcz12_3, hfz12_0, hfz12_1, hfz12_2, hfz12_3⟩ := cz4 BKG.out) | (go_at_call 96; (with_reducible refine (impl_isInterval.calls k a2_0 a2_1 a2_2 a2_3 tK _ A9.out).mono ?_); rintro e w13 ⟨rfl, hb⟩; replace BKG := blkA BKG hb; replace BKE := blkA BKE hb; replace HB := Aside0.mk (below_step zz94 hb); (try clear hb)))
   go_meet
   case rel => exact ⟨_, (!tK), zz248, H', ⟨by first | omega | exact Nat.le_refl _⟩, ⟨by (with_reducible repeat (first | refine blk_drewN ?_ _ | refine blk_drew ?_ | refine blk_alloc ?_ _)); exact BKG.out⟩, ⟨by (with_reducible repeat (first | refine blk_drewN ?_ _ | refine blk_drew ?_ | refine blk_alloc ?_ _)); exact BKE.out⟩, ⟨by repeat (first | (with_reducible first | exact HB.out | apply below_alloc | apply pw_below_drewN | apply below_drew1 | refine below_set ?_ GEG.out | refine below_set ?_ GEE.out) | exact HB.out)⟩⟩
  ·replace c8 := Bool.eq_false_iff.mpr c8; subst c8; have H1 : (impl_MassOf.j0 k l0 l1 true a2_0 a2_1 a2_2 a2_3) = some (r1, r2, r3) := by rw [if_neg (show ¬ (false = true) by decide)] at H; exact H
   clear H; have H := H1; clear H1; have H' := Aside0.mk H; clear H; go_wp2_with (first | ((with_reducible refine gate_callee (f := 81) rfl ?_); refine goesL_ (some 16) rfl rfl Try.func81 (by kernel_rfl) rfl #[.slice A0 l0.length c0, .slice A1 l1.length c1] rfl zz175 ?_; (with_reducible refine (impl_isTold.calls k _ _ l0 _ _ l1 false _ ?side1 ?side2 ?side3 ?side4 A7.out).mono ?_); (case side1 => repeat (first | exact (Kd.C_below HR0.out HB.out) | (with_reducible refine Kd.C_alloc ?_ _) | (with_reducible refine Kd.C_drewN ?_ _) | (with_reducible refine Kd.C_drew ?_))); (case side2 => exact HC0.out); (case side3 => repeat (first | exact (Kd.C_below HR1.out HB.out) | (with_reducible refine Kd.C_alloc ?_ _) | (with_reducible refine Kd.C_drewN ?_ _) | (with_reducible refine Kd.C_drew ?_))); (case side4 => exact HC1.out); rintro e w14 ⟨rfl, hb⟩; refine ⟨_, rfl, ?_⟩; replace BKG := blkA BKG hb; replace BKE := blkA BKE hb; replace HB := Aside0.mk (below_step zz94 hb); (try clear hb)))
   go_meet
   case rel => exact ⟨_, (true), zz248, H', ⟨by first | omega | exact Nat.le_refl _⟩, ⟨by (with_reducible repeat (first | refine blk_drewN ?_ _ | refine blk_drew ?_ | refine blk_alloc ?_ _)); exact BKG.out⟩, ⟨by (with_reducible repeat (first | refine blk_drewN ?_ _ | refine blk_drew ?_ | refine blk_alloc ?_ _)); exact BKE.out⟩, ⟨by repeat (first | (with_reducible first | exact HB.out | apply below_alloc | apply pw_below_drewN | apply below_drew1 | refine below_set ?_ GEG.out | refine below_set ?_ GEE.out) | exact HB.out)⟩⟩
 case rest =>
  clear HC4; try clear c1
  try clear p2
  try clear c4
  try clear c8
  try clear c11
  try clear hcz12_0
  try clear hcz12_1
  try clear hcz12_2
  try clear hcz12_3
  try clear hfz12_0
  try clear hfz12_1
  try clear hfz12_2
  try clear hfz12_3
  obtain ⟨kq, x22_3, rfl, HA, HJ3, BKG, BKE, HB⟩ := hcut; cases kq with
  | zero => exact absurd HA.out (by simp [impl_MassOf.j0])
  | succ kj3 =>
   have H := HA.out; clear HA; simp only [impl_MassOf.j0] at H; by_cases c15 : x22_3 = true
   ·subst c15; have H1 : (some (0, 0, false)) = some (r1, r2, r3) := by rw [if_pos rfl] at H; exact H
    clear H; have H := H1; clear H1; simp only [Option.some.injEq, Prod.mk.injEq] at H; obtain ⟨rfl, rfl, rfl⟩ := H; have hnb16 := NBE_G.out; have hnc16 := NBG_E.out; obtain ⟨hcz17_0, hcz17_1, hfz17_0, hfz17_1⟩ := cz2 BKE.out; go_wp2
    refine bodyPost_ret (results_ct rfl _ _ gbE 47 #[.int .i64 0, .int .i64 0] (0, 0) _ rfl (by (with_reducible repeat (first | refine blk_drewN ?_ _ | refine blk_drew ?_ | refine blk_alloc ?_ _)); refine blk_put (cs := #[.int .i64 0, .int .i64 0]) ?_ 1 _ rfl; (with_reducible repeat (first | refine blk_drewN ?_ _ | refine blk_drew ?_ | refine blk_alloc ?_ _)); refine blk_put (cs := #[.int .i64 0, .int .i64 0]) ?_ 0 _ rfl; (with_reducible repeat (first | refine blk_drewN ?_ _ | refine blk_drew ?_ | refine blk_alloc ?_ _)); exact BKE.out) Try.underlying47 rfl (by kernel_rfl)) rfl ?_; exact ⟨zz233, zz94⟩
   ·replace c15 := Bool.eq_false_iff.mpr c15; subst c15; have H1 : ((impl_zero.f).bind fun btM => ((impl_between.f kj3 l0).bind fun tI => (impl_MassOf.l0 kj3 l1 tI (tI.length : Int) 0 a2_0 a2_1 a2_2 a2_3 false btM.1 btM.2))) = some (r1, r2, r3) := by rw [if_neg (show ¬ (false = true) by decide)] at H; exact H
    clear H; have H := H1; clear H1; replace H := Option.bind_eq_some_iff.mp H; obtain ⟨⟨tM, tN⟩, AO, H⟩ := H; replace H : ((impl_between.f kj3 l0).bind fun tI => (impl_MassOf.l0 kj3 l1 tI (tI.length : Int) 0 a2_0 a2_1 a2_2 a2_3 false tM tN)) = some (r1, r2, r3) := H; have A18 := Aside0.mk AO; clear AO; replace H := Option.bind_eq_some_iff.mp H; obtain ⟨tI, AP, H⟩ := H; replace H : (impl_MassOf.l0 kj3 l1 tI (tI.length : Int) 0 a2_0 a2_1 a2_2 a2_3 false tM tN) = some (r1, r2, r3) := H; have A19 := Aside0.mk AP; clear AP; have H' := Aside0.mk H; clear H; go_wp2_with (first | ((with_reducible refine gate_dst (N := 8) rfl ?_); refine boxE 8 #[.bool false] 92 ?_; intro gbH hg w20 hbox hb; have n0_ := blkA BKG hb; have n1_ := blkA BKE hb; have n2_ := Aside0.mk (below_step zz94 hb); have n3_ := nltA BKG hg; have n4_ := ngtA BKG hg; have n5_ := nltA BKE hg; have n6_ := ngtA BKE hg; have n7_ := Aside0.mk ((show IsS92 w w20 gbH false from ⟨hbox, (by rw [hg]; exact (below_size zz94))⟩)); clear BKG; clear BKE; clear HB; have BKG := n0_; have BKE := n1_; have HB := n2_; have NBG_H := n3_; have NBH_G := n4_; have NBE_H := n5_; have NBH_E := n6_; have HIH := n7_; clear n0_ n1_ n2_ n3_ n4_ n5_ n6_ n7_; clear hb hbox hg) | ((with_reducible refine gate_callee (f := 97) rfl ?_); refine goesL_ (some 24) rfl rfl Try.func97 (by kernel_rfl) rfl #[] rfl zz175 ?_; (with_reducible refine (impl_zero.calls  tM tN _ A18.out).mono ?_); rintro e w21 ⟨rfl, hb⟩; refine ⟨_, rfl, ?_⟩; replace HIH := Aside0.mk (IsS92.below zz64 hb); replace BKG := blkA BKG hb; replace BKE := blkA BKE hb; replace HB := Aside0.mk (below_step zz65 hb); (try clear hb)) | ((with_reducible refine gate_dst (N := 9) rfl ?_); refine boxE 9 #[.int .i64 0, .int .i64 0] 47 ?_; intro gbD hg w22 hbox hb; have n0_ := blkA BKG hb; have n1_ := blkA BKE hb; have n2_ := Aside0.mk (IsS92.below zz64 hb); have n3_ := Aside0.mk (below_step zz65 hb); have n4_ := Aside0.mk (hbox); have n5_ := gwA (below_size zz65) hg; have n6_ := gwA (below_size zz65) hg; have n7_ := nltA BKG hg; have n8_ := ngtA BKG hg; have n9_ := nltA BKE hg; have n10_ := ngtA BKE hg; have n11_ := Aside0.mk ((by rw [hg]; exact Nat.ne_of_lt (IsS92.lt (show IsS92 w _ gbH false from by repeat (first | (with_reducible first | exact HIH.out | apply IsS92.alloc | apply IsS92.drewN | apply IsS92.drew | apply IsS92.set_0 | apply IsS92.far (hne := NBH_G.out) | apply IsS92.far (hne := NBH_E.out)) | exact HIH.out))) : gbH ≠ gbD)); have n12_ := Aside0.mk ((by rw [hg]; exact Nat.ne_of_gt (IsS92.lt (show IsS92 w _ gbH false from by repeat (first | (with_reducible first | exact HIH.out | apply IsS92.alloc | apply IsS92.drewN | apply IsS92.drew | apply IsS92.set_0 | apply IsS92.far (hne := NBH_G.out) | apply IsS92.far (hne := NBH_E.out)) | exact HIH.out))) : gbD ≠ gbH)); clear BKG; clear BKE; clear HIH; clear HB; have BKG := n0_; have BKE := n1_; have HIH := n2_; have HB := n3_; have BKD := n4_; have GWD := n5_; have GED := n6_; have NBG_D := n7_; have NBD_G := n8_; have NBE_D := n9_; have NBD_E := n10_; have NBH_D := n11_; have NBD_H := n12_; clear n0_ n1_ n2_ n3_ n4_ n5_ n6_ n7_ n8_ n9_ n10_ n11_ n12_; clear hb hbox hg; have hnb23 := NBD_G.out; have hnc23 := NBG_D.out; have hnb24 := NBD_E.out; have hnc24 := NBE_D.out; have hnb25 := NBD_H.out; have hnc25 := NBH_D.out; obtain ⟨hcz26_0, hcz26_1, hfz26_0, hfz26_1⟩ := cz2 BKD.out) | ((with_reducible refine gate_callee (f := 89) rfl ?_); refine goesL_ (some 26) rfl rfl Try.func89 (by kernel_rfl) rfl #[.slice A0 l0.length c0] rfl zz175 ?_; (with_reducible refine (impl_between.calls kj3 _ _ l0 tI _ ?side1 ?side2 A19.out).mono ?_); (case side1 => exact Kd.C_below HR0.out zz58); (case side2 => exact HC0.out); rintro e w27 ⟨vQ, rfl, ho0, hb⟩; refine ⟨_, rfl, ?_⟩; have n0_ := Aside0.mk (Kd.R_lower (Kd.R_newB ho0 (g := gbG) (o := .cells #[.int .i64 a2_0, .int .i64 a2_1, .int .i64 a2_2, .int .i64 a2_3] 63 (0, 0)) zz39) (below_size zz58)); have n1_ := Aside0.mk (blk_below (g := gbG) (o := .cells #[.int .i64 a2_0, .int .i64 a2_1, .int .i64 a2_2, .int .i64 a2_3] 63 (0, 0)) zz39 hb); have n2_ := Aside0.mk (blk_below (g := gbE) (o := .cells #[.int .i64 0, .int .i64 0] 47 (0, 0)) (by (with_reducible repeat (first | refine blk_drewN ?_ _ | refine blk_drew ?_ | refine blk_alloc ?_ _)); refine blk_far ?_ NBE_D.out _; (with_reducible repeat (first | refine blk_drewN ?_ _ | refine blk_drew ?_ | refine blk_alloc ?_ _)); refine blk_far ?_ NBE_D.out _; (with_reducible repeat (first | refine blk_drewN ?_ _ | refine blk_drew ?_ | refine blk_alloc ?_ _)); exact BKE.out) hb); have n3_ := Aside0.mk (IsS92.below (show IsS92 w ((w22.setCell ⟨gbD, 0, none⟩ (.int .i64 tM)).setCell ⟨gbD, 1, none⟩ (.int .i64 tN)) gbH false from by repeat (first | (with_reducible first | exact HIH.out | apply IsS92.alloc | apply IsS92.drewN | apply IsS92.drew | apply IsS92.set_0 | apply IsS92.far (hne := NBH_G.out) | apply IsS92.far (hne := NBH_E.out) | apply IsS92.far (hne := NBH_D.out)) | exact HIH.out)) hb); have n4_ := Aside0.mk (blk_below (g := gbD) (o := .cells #[.int .i64 tM, .int .i64 tN] 47 (0, 0)) (by (with_reducible repeat (first | refine blk_drewN ?_ _ | refine blk_drew ?_ | refine blk_alloc ?_ _)); refine blk_put (cs := #[.int .i64 tM, .int .i64 0]) ?_ 1 _ rfl; (with_reducible repeat (first | refine blk_drewN ?_ _ | refine blk_drew ?_ | refine blk_alloc ?_ _)); refine blk_put (cs := #[.int .i64 0, .int .i64 0]) ?_ 0 _ rfl; (with_reducible repeat (first | refine blk_drewN ?_ _ | refine blk_drew ?_ | refine blk_alloc ?_ _)); exact BKD.out) hb); clear BKG BKE HIH BKD; have HOR := n0_; have BKG := n1_; have BKE := n2_; have HIH := n3_; have BKD := n4_; clear n0_ n1_ n2_ n3_ n4_; replace HB := Aside0.mk (below_step zz58 hb); obtain ⟨Ao28, co28, eo28⟩ := Kd.R_slice HOR.out; subst eo28))
    go_loopg [28] kj3 (fun kq v28 w' => ∃ (x28_2 : Int) (xS_2 : Bool) (xU_2 : Int) (xV_2 : Int), v28 = .int .i64 x28_2 ∧ Aside0 (impl_MassOf.l0 kq l1 tI (tI.length : Int) x28_2 a2_0 a2_1 a2_2 a2_3 xS_2 xU_2 xV_2 = some (r1, r2, r3)) ∧ Aside0 (kq ≤ kj3) ∧ Aside0 (Kd.R k63 63 w' w.heap.size (fun k_ => k_ ≠ gbG) (.slice Ao28 tI.length co28) tI) ∧ Aside0 (w'.heap[gbG]? = some (.cells #[.int .i64 a2_0, .int .i64 a2_1, .int .i64 a2_2, .int .i64 a2_3] 63 (0, 0))) ∧ Aside0 (w'.heap[gbE]? = some (.cells #[.int .i64 0, .int .i64 0] 47 (0, 0))) ∧ Aside0 (w'.heap[gbD]? = some (.cells #[.int .i64 xU_2, .int .i64 xV_2] 47 (0, 0))) ∧ Aside0 (IsS92 w w' gbH xS_2) ∧ Aside0 (Below w.heap.size w w'))
    case atStart => exact ⟨(0), (false), (tM), (tN), zz248, H', ⟨Nat.le_refl _⟩, ⟨by (with_reducible repeat (first | apply Kd.R_alloc | apply Kd.R_drewN | apply Kd.R_drew)); exact Kd.R_mono HOR.out (fun _ hk => hk.2)⟩, ⟨by (with_reducible repeat (first | refine blk_drewN ?_ _ | refine blk_drew ?_ | refine blk_alloc ?_ _)); exact BKG.out⟩, ⟨by (with_reducible repeat (first | refine blk_drewN ?_ _ | refine blk_drew ?_ | refine blk_alloc ?_ _)); exact BKE.out⟩, ⟨by (with_reducible repeat (first | refine blk_drewN ?_ _ | refine blk_drew ?_ | refine blk_alloc ?_ _)); exact BKD.out⟩, ⟨by repeat (first | (with_reducible first | exact HIH.out | apply IsS92.alloc | apply IsS92.drewN | apply IsS92.drew | apply IsS92.set_0 | apply IsS92.far (hne := NBH_G.out) | apply IsS92.far (hne := NBH_E.out) | apply IsS92.far (hne := NBH_D.out)) | exact HIH.out)⟩, ⟨by repeat (first | (with_reducible first | exact HB.out | apply below_alloc | apply pw_below_drewN | apply below_drew1 | refine below_set ?_ (IsS92.ge HIH.out) | refine below_set ?_ GEG.out | refine below_set ?_ GEE.out | refine below_set ?_ GED.out) | exact HB.out)⟩⟩
    case round =>
     clear H'; try clear c1
     try clear c2
     try clear p2
     try clear c4
     try clear c8
     try clear c9
     try clear c11
     try clear c15
     try clear c16
     try clear c23
     try clear c24
     try clear c25
     try clear hcz12_0
     try clear hcz12_1
     try clear hcz12_2
     try clear hcz12_3
     try clear hcz17_0
     try clear hcz17_1
     try clear hcz26_0
     try clear hcz26_1
     try clear hfz12_0
     try clear hfz12_1
     try clear hfz12_2
     try clear hfz12_3
     try clear hfz17_0
     try clear hfz17_1
     try clear hfz26_0
     try clear hfz26_1
     try clear p2
     obtain ⟨x28_2, xS_2, xU_2, xV_2, rfl, HA, HK2, HO_26, BKG, BKE, BKD, HIH, HB⟩ := hrel; cases gk with
     | zero => exact absurd HA.out (by simp [impl_MassOf.l0])
     | succ k2 =>
      have H := HA.out; clear HA; simp only [impl_MassOf.l0] at H; by_cases c29 : x28_2 < (tI.length : Int)
      ·rw [if_pos c29] at H; have c29b0 : decide (x28_2 < (tI.length : Int)) = true := decide_eq_true c29; clear c29; by_cases c30 : 0 ≤ x28_2
       ·rw [if_pos c30] at H; have c30b0 : decide (0 ≤ x28_2) = true := decide_eq_true c30; clear c30; by_cases c31 : x28_2 < (tI.length : Int)
        ·rw [if_pos c31] at H; have c31b0 : decide (x28_2 < (tI.length : Int)) = true := decide_eq_true c31; clear c31; replace H := Option.bind_eq_some_iff.mp H; obtain ⟨⟨tW, tX, tY, tZ, tAA⟩, AAB, H⟩ := H; replace H : (if tAA = true then (if x28_2 < (l1.length : Int) then ((impl_calc_sub.f k2 xS_2 tY tZ tW tX).bind fun btAC => ((impl_calc_mul.f k2 btAC.2.2 ((rd_T47 l1 x28_2).f0) ((rd_T47 l1 x28_2).f1) btAC.1 btAC.2.1).bind fun btAD => ((impl_calc_add.f k2 btAD.2.2 xU_2 xV_2 btAD.1 btAD.2.1).bind fun btAE => (impl_MassOf.l0 k2 l1 tI (tI.length : Int) (wrap64 (x28_2 + 1)) a2_0 a2_1 a2_2 a2_3 btAE.2.2 btAE.1 btAE.2.1)))) else (none)) else (impl_MassOf.l0 k2 l1 tI (tI.length : Int) (wrap64 (x28_2 + 1)) a2_0 a2_1 a2_2 a2_3 xS_2 xU_2 xV_2)) = some (r1, r2, r3) := H; have A32 := Aside0.mk AAB; clear AAB; by_cases c33 : tAA = true
         ·subst c33; have H1 : (if x28_2 < (l1.length : Int) then ((impl_calc_sub.f k2 xS_2 tY tZ tW tX).bind fun btAC => ((impl_calc_mul.f k2 btAC.2.2 ((rd_T47 l1 x28_2).f0) ((rd_T47 l1 x28_2).f1) btAC.1 btAC.2.1).bind fun btAD => ((impl_calc_add.f k2 btAD.2.2 xU_2 xV_2 btAD.1 btAD.2.1).bind fun btAE => (impl_MassOf.l0 k2 l1 tI (tI.length : Int) (wrap64 (x28_2 + 1)) a2_0 a2_1 a2_2 a2_3 btAE.2.2 btAE.1 btAE.2.1)))) else (none)) = some (r1, r2, r3) := by rw [if_pos rfl] at H; exact H
          clear H; have H := H1; clear H1; by_cases c34 : x28_2 < (l1.length : Int)
          ·rw [if_pos c34] at H; have c34b0 : decide (x28_2 < (l1.length : Int)) = true := decide_eq_true c34; clear c34; replace H := Option.bind_eq_some_iff.mp H; obtain ⟨⟨tAC, tAF, tAG⟩, AAH, H⟩ := H; replace H : ((impl_calc_mul.f k2 tAG ((rd_T47 l1 x28_2).f0) ((rd_T47 l1 x28_2).f1) tAC tAF).bind fun btAD => ((impl_calc_add.f k2 btAD.2.2 xU_2 xV_2 btAD.1 btAD.2.1).bind fun btAE => (impl_MassOf.l0 k2 l1 tI (tI.length : Int) (wrap64 (x28_2 + 1)) a2_0 a2_1 a2_2 a2_3 btAE.2.2 btAE.1 btAE.2.1))) = some (r1, r2, r3) := H; have A35 := Aside0.mk AAH; clear AAH; replace H := Option.bind_eq_some_iff.mp H; obtain ⟨⟨tAD, tAI, tAJ⟩, AAK, H⟩ := H; replace H : ((impl_calc_add.f k2 tAJ xU_2 xV_2 tAD tAI).bind fun btAE => (impl_MassOf.l0 k2 l1 tI (tI.length : Int) (wrap64 (x28_2 + 1)) a2_0 a2_1 a2_2 a2_3 btAE.2.2 btAE.1 btAE.2.1)) = some (r1, r2, r3) := H; have A36 := Aside0.mk AAK; clear AAK; replace H := Option.bind_eq_some_iff.mp H; obtain ⟨⟨tAE, tAL, tAM⟩, AAN, H⟩ := H; replace H : (impl_MassOf.l0 k2 l1 tI (tI.length : Int) (wrap64 (x28_2 + 1)) a2_0 a2_1 a2_2 a2_3 tAM tAE tAL) = some (r1, r2, r3) := H; have A37 := Aside0.mk AAN; clear AAN; have H' := Aside0.mk H; clear H; have pAO : 0 ≤ (x28_2 : Int) := of_decide_eq_true zz247; have qAO : x28_2 < (tI.length : Int) := of_decide_eq_true zz247; obtain ⟨adAO, eAO, hxAO_0, hxAO_1, hxAO_2, hxAO_3⟩ := at_T63 (Kd.R_reads' HO_26.out).2.2 x28_2 pAO qAO; cases eAO
           replace pAO := eq_true pAO; replace qAO := eq_true qAO; try go_wp2_with (first | ((with_reducible refine gate_dst (N := 11) rfl ?_); refine boxE 11 #[.int .i64 0, .int .i64 0, .int .i64 0, .int .i64 0] 63 ?_; intro gbC hg w38 hbox hb; have n0_ := Aside0.mk (Kd.R_below (Kd.R_elderB zz224 gbC (Nat.le_of_eq hg.symm)) hb); have n1_ := blkA BKG hb; have n2_ := blkA BKE hb; have n3_ := blkA BKD hb; have n4_ := Aside0.mk (IsS92.below zz57 hb); have n5_ := Aside0.mk (below_step zz58 hb); have n6_ := Aside0.mk (hbox); have n7_ := gwA (below_size zz58) hg; have n8_ := gwA (below_size zz58) hg; have n9_ := nltA BKG hg; have n10_ := ngtA BKG hg; have n11_ := nltA BKE hg; have n12_ := ngtA BKE hg; have n13_ := nltA BKD hg; have n14_ := ngtA BKD hg; have n15_ := Aside0.mk ((by rw [hg]; exact Nat.ne_of_lt (IsS92.lt (show IsS92 w _ gbH xS_2 from by repeat (first | (with_reducible first | exact HIH.out | apply IsS92.alloc | apply IsS92.drewN | apply IsS92.drew | apply IsS92.set_0 | apply IsS92.far (hne := NBH_G.out) | apply IsS92.far (hne := NBH_E.out) | apply IsS92.far (hne := NBH_D.out)) | exact HIH.out))) : gbH ≠ gbC)); have n16_ := Aside0.mk ((by rw [hg]; exact Nat.ne_of_gt (IsS92.lt (show IsS92 w _ gbH xS_2 from by repeat (first | (with_reducible first | exact HIH.out | apply IsS92.alloc | apply IsS92.drewN | apply IsS92.drew | apply IsS92.set_0 | apply IsS92.far (hne := NBH_G.out) | apply IsS92.far (hne := NBH_E.out) | apply IsS92.far (hne := NBH_D.out)) | exact HIH.out))) : gbC ≠ gbH)); clear HO_26; clear BKG; clear BKE; clear BKD; clear HIH; clear HB; have HO_26 := n0_; have BKG := n1_; have BKE := n2_; have BKD := n3_; have HIH := n4_; have HB := n5_; have BKC := n6_; have GWC := n7_; have GEC := n8_; have NBG_C := n9_; have NBC_G := n10_; have NBE_C := n11_; have NBC_E := n12_; have NBD_C := n13_; have NBC_D := n14_; have NBH_C := n15_; have NBC_H := n16_; clear n0_ n1_ n2_ n3_ n4_ n5_ n6_ n7_ n8_ n9_ n10_ n11_ n12_ n13_ n14_ n15_ n16_; clear hb hbox hg; have hnb39 := NBC_G.out; have hnc39 := NBG_C.out; have hnb40 := NBC_E.out; have hnc40 := NBE_C.out; have hnb41 := NBC_D.out; have hnc41 := NBD_C.out; have hnb42 := NBC_H.out; have hnc42 := NBH_C.out; obtain ⟨hcz43_0, hcz43_1, hcz43_2, hcz43_3, hfz43_0, hfz43_1, hfz43_2, hfz43_3⟩ := cz4 BKC.out; have hnb44 := NBG_E.out; have hnc44 := NBE_G.out; have hnb45 := NBG_D.out; have hnc45 := NBD_G.out; have hnb46 := NBG_H.out; have hnc46 := NBH_G.out; obtain ⟨hcz47_0, hcz47_1, hcz47_2, hcz47_3, hfz47_0, hfz47_1, hfz47_2, hfz47_3⟩ := cz4 BKG.out) | ((with_reducible refine gate_callee (f := 98) rfl ?_); refine goesL_ (some 36) rfl rfl Try.func98 (by kernel_rfl) rfl #[.agg #[.int .i64 ((rd_T63 tI x28_2).f0.f0), .int .i64 ((rd_T63 tI x28_2).f0.f1), .int .i64 ((rd_T63 tI x28_2).f1.f0), .int .i64 ((rd_T63 tI x28_2).f1.f1)], .agg #[.int .i64 a2_0, .int .i64 a2_1, .int .i64 a2_2, .int .i64 a2_3]] rfl zz175 ?_; (with_reducible refine (impl_common.calls ((rd_T63 tI x28_2).f0.f0) ((rd_T63 tI x28_2).f0.f1) ((rd_T63 tI x28_2).f1.f0) ((rd_T63 tI x28_2).f1.f1) a2_0 a2_1 a2_2 a2_3 tW tX tY tZ true _ A32.out).mono ?_); rintro e w48 ⟨rfl, hb⟩; refine ⟨_, rfl, ?_⟩; replace HO_26 := Aside0.mk (Kd.R_below zz23 hb); replace BKG := Aside0.mk (blk_below (g := gbG) (o := .cells #[.int .i64 a2_0, .int .i64 a2_1, .int .i64 a2_2, .int .i64 a2_3] 63 (0, 0)) zz18 hb); replace BKE := Aside0.mk (blk_below (g := gbE) (o := .cells #[.int .i64 0, .int .i64 0] 47 (0, 0)) zz19 hb); replace BKD := Aside0.mk (blk_below (g := gbD) (o := .cells #[.int .i64 xU_2, .int .i64 xV_2] 47 (0, 0)) zz20 hb); replace HIH := Aside0.mk (IsS92.below (show IsS92 w ((((w38.setCell ⟨gbC, 0, none⟩ (.int .i64 ((rd_T63 tI x28_2).f0.f0))).setCell ⟨gbC, 1, none⟩ (.int .i64 ((rd_T63 tI x28_2).f0.f1))).setCell ⟨gbC, 2, none⟩ (.int .i64 ((rd_T63 tI x28_2).f1.f0))).setCell ⟨gbC, 3, none⟩ (.int .i64 ((rd_T63 tI x28_2).f1.f1))) gbH xS_2 from by repeat (first | (with_reducible first | exact HIH.out | apply IsS92.alloc | apply IsS92.drewN | apply IsS92.drew | apply IsS92.set_0 | apply IsS92.far (hne := NBH_G.out) | apply IsS92.far (hne := NBH_E.out) | apply IsS92.far (hne := NBH_D.out) | apply IsS92.far (hne := NBH_C.out)) | exact HIH.out)) hb); replace BKC := Aside0.mk (blk_below (g := gbC) (o := .cells #[.int .i64 ((rd_T63 tI x28_2).f0.f0), .int .i64 ((rd_T63 tI x28_2).f0.f1), .int .i64 ((rd_T63 tI x28_2).f1.f0), .int .i64 ((rd_T63 tI x28_2).f1.f1)] 63 (0, 0)) zz0 hb); replace HB := Aside0.mk (below_step zz56 hb)) | ((with_reducible refine gate_dst (N := 12) rfl ?_); refine boxE 12 #[.int .i64 0, .int .i64 0, .int .i64 0, .int .i64 0] 63 ?_; intro gbA hg w49 hbox hb; have n0_ := Aside0.mk (Kd.R_below (Kd.R_elderB zz224 gbA (Nat.le_of_eq hg.symm)) hb); have n1_ := blkA BKG hb; have n2_ := blkA BKE hb; have n3_ := blkA BKD hb; have n4_ := Aside0.mk (IsS92.below zz55 hb); have n5_ := blkA BKC hb; have n6_ := Aside0.mk (below_step zz56 hb); have n7_ := Aside0.mk (hbox); have n8_ := gwA (below_size zz56) hg; have n9_ := gwA (below_size zz56) hg; have n10_ := nltA BKG hg; have n11_ := ngtA BKG hg; have n12_ := nltA BKE hg; have n13_ := ngtA BKE hg; have n14_ := nltA BKD hg; have n15_ := ngtA BKD hg; have n16_ := nltA BKC hg; have n17_ := ngtA BKC hg; have n18_ := Aside0.mk ((by rw [hg]; exact Nat.ne_of_lt (IsS92.lt (show IsS92 w _ gbH xS_2 from by repeat (first | (with_reducible first | exact HIH.out | apply IsS92.alloc | apply IsS92.drewN | apply IsS92.drew | apply IsS92.set_0 | apply IsS92.far (hne := NBH_G.out) | apply IsS92.far (hne := NBH_E.out) | apply IsS92.far (hne := NBH_D.out) | apply IsS92.far (hne := NBH_C.out)) | exact HIH.out))) : gbH ≠ gbA)); have n19_ := Aside0.mk ((by rw [hg]; exact Nat.ne_of_gt (IsS92.lt (show IsS92 w _ gbH xS_2 from by repeat (first | (with_reducible first | exact HIH.out | apply IsS92.alloc | apply IsS92.drewN | apply IsS92.drew | apply IsS92.set_0 | apply IsS92.far (hne := NBH_G.out) | apply IsS92.far (hne := NBH_E.out) | apply IsS92.far (hne := NBH_D.out) | apply IsS92.far (hne := NBH_C.out)) | exact HIH.out))) : gbA ≠ gbH)); clear HO_26; clear BKG; clear BKE; clear BKD; clear HIH; clear BKC; clear HB; have HO_26 := n0_; have BKG := n1_; have BKE := n2_; have BKD := n3_; have HIH := n4_; have BKC := n5_; have HB := n6_; have BKA := n7_; have GWA := n8_; have GEA := n9_; have NBG_A := n10_; have NBA_G := n11_; have NBE_A := n12_; have NBA_E := n13_; have NBD_A := n14_; have NBA_D := n15_; have NBC_A := n16_; have NBA_C := n17_; have NBH_A := n18_; have NBA_H := n19_; clear n0_ n1_ n2_ n3_ n4_ n5_ n6_ n7_ n8_ n9_ n10_ n11_ n12_ n13_ n14_ n15_ n16_ n17_ n18_ n19_; clear hb hbox hg; have hnb50 := NBA_G.out; have hnc50 := NBG_A.out; have hnb51 := NBA_E.out; have hnc51 := NBE_A.out; have hnb52 := NBA_D.out; have hnc52 := NBD_A.out; have hnb53 := NBA_C.out; have hnc53 := NBC_A.out; have hnb54 := NBA_H.out; have hnc54 := NBH_A.out; obtain ⟨hcz55_0, hcz55_1, hcz55_2, hcz55_3, hfz55_0, hfz55_1, hfz55_2, hfz55_3⟩ := cz4 BKA.out))
           have n0_ : Aside0 (Kd.R k63 63 ((((w49.setCell ⟨gbA, 0, none⟩ (.int .i64 tW)).setCell ⟨gbA, 1, none⟩ (.int .i64 tX)).setCell ⟨gbA, 2, none⟩ (.int .i64 tY)).setCell ⟨gbA, 3, none⟩ (.int .i64 tZ)) w.heap.size (fun k_ => k_ ≠ gbG ∧ k_ ≠ gbC ∧ k_ ≠ gbA) (.slice (some adAO) tI.length co28) tI) := ⟨by (with_reducible repeat (first | apply Kd.R_alloc | apply Kd.R_drewN | apply Kd.R_drew)); exact Kd.R_mono (Kd.R_far (p := ⟨gbA, 3, none⟩) (Kd.R_far (p := ⟨gbA, 2, none⟩) (Kd.R_far (p := ⟨gbA, 1, none⟩) (Kd.R_far (p := ⟨gbA, 0, none⟩) (Kd.R_mono HO_26.out (fun k_ hk => (⟨hk, hk.2⟩ : _ ∧ k_ ≠ gbA))) (fun _ hk => hk.2) (.int .i64 tW)) (fun _ hk => hk.2) (.int .i64 tX)) (fun _ hk => hk.2) (.int .i64 tY)) (fun _ hk => hk.2) (.int .i64 tZ)) (fun _ hk => ⟨hk.1.1.1, ⟨hk.1.1.2, hk.1.2⟩⟩)⟩; have n1_ : Aside0 (((((w49.setCell ⟨gbA, 0, none⟩ (.int .i64 tW)).setCell ⟨gbA, 1, none⟩ (.int .i64 tX)).setCell ⟨gbA, 2, none⟩ (.int .i64 tY)).setCell ⟨gbA, 3, none⟩ (.int .i64 tZ)).heap[gbG]? = some (.cells #[.int .i64 a2_0, .int .i64 a2_1, .int .i64 a2_2, .int .i64 a2_3] 63 (0, 0))) := ⟨by (with_reducible repeat (first | refine blk_drewN ?_ _ | refine blk_drew ?_ | refine blk_alloc ?_ _)); refine blk_far ?_ NBG_A.out _; (with_reducible repeat (first | refine blk_drewN ?_ _ | refine blk_drew ?_ | refine blk_alloc ?_ _)); refine blk_far ?_ NBG_A.out _; (with_reducible repeat (first | refine blk_drewN ?_ _ | refine blk_drew ?_ | refine blk_alloc ?_ _)); refine blk_far ?_ NBG_A.out _; (with_reducible repeat (first | refine blk_drewN ?_ _ | refine blk_drew ?_ | refine blk_alloc ?_ _)); refine blk_far ?_ NBG_A.out _; (with_reducible repeat (first | refine blk_drewN ?_ _ | refine blk_drew ?_ | refine blk_alloc ?_ _)); exact BKG.out⟩; have n2_ : Aside0 (((((w49.setCell ⟨gbA, 0, none⟩ (.int .i64 tW)).setCell ⟨gbA, 1, none⟩ (.int .i64 tX)).setCell ⟨gbA, 2, none⟩ (.int .i64 tY)).setCell ⟨gbA, 3, none⟩ (.int .i64 tZ)).heap[gbE]? = some (.cells #[.int .i64 0, .int .i64 0] 47 (0, 0))) := ⟨by (with_reducible repeat (first | refine blk_drewN ?_ _ | refine blk_drew ?_ | refine blk_alloc ?_ _)); refine blk_far ?_ NBE_A.out _; (with_reducible repeat (first | refine blk_drewN ?_ _ | refine blk_drew ?_ | refine blk_alloc ?_ _)); refine blk_far ?_ NBE_A.out _; (with_reducible repeat (first | refine blk_drewN ?_ _ | refine blk_drew ?_ | refine blk_alloc ?_ _)); refine blk_far ?_ NBE_A.out _; (with_reducible repeat (first | refine blk_drewN ?_ _ | refine blk_drew ?_ | refine blk_alloc ?_ _)); refine blk_far ?_ NBE_A.out _; (with_reducible repeat (first | refine blk_drewN ?_ _ | refine blk_drew ?_ | refine blk_alloc ?_ _)); exact BKE.out⟩; have n3_ : Aside0 (((((w49.setCell ⟨gbA, 0, none⟩ (.int .i64 tW)).setCell ⟨gbA, 1, none⟩ (.int .i64 tX)).setCell ⟨gbA, 2, none⟩ (.int .i64 tY)).setCell ⟨gbA, 3, none⟩ (.int .i64 tZ)).heap[gbD]? = some (.cells #[.int .i64 xU_2, .int .i64 xV_2] 47 (0, 0))) := ⟨by (with_reducible repeat (first | refine blk_drewN ?_ _ | refine blk_drew ?_ | refine blk_alloc ?_ _)); refine blk_far ?_ NBD_A.out _; (with_reducible repeat (first | refine blk_drewN ?_ _ | refine blk_drew ?_ | refine blk_alloc ?_ _)); refine blk_far ?_ NBD_A.out _; (with_reducible repeat (first | refine blk_drewN ?_ _ | refine blk_drew ?_ | refine blk_alloc ?_ _)); refine blk_far ?_ NBD_A.out _; (with_reducible repeat (first | refine blk_drewN ?_ _ | refine blk_drew ?_ | refine blk_alloc ?_ _)); refine blk_far ?_ NBD_A.out _; (with_reducible repeat (first | refine blk_drewN ?_ _ | refine blk_drew ?_ | refine blk_alloc ?_ _)); exact BKD.out⟩; have n4_ : Aside0 (((((w49.setCell ⟨gbA, 0, none⟩ (.int .i64 tW)).setCell ⟨gbA, 1, none⟩ (.int .i64 tX)).setCell ⟨gbA, 2, none⟩ (.int .i64 tY)).setCell ⟨gbA, 3, none⟩ (.int .i64 tZ)).heap[gbC]? = some (.cells #[.int .i64 ((rd_T63 tI x28_2).f0.f0), .int .i64 ((rd_T63 tI x28_2).f0.f1), .int .i64 ((rd_T63 tI x28_2).f1.f0), .int .i64 ((rd_T63 tI x28_2).f1.f1)] 63 (0, 0))) := ⟨by (with_reducible repeat (first | refine blk_drewN ?_ _ | refine blk_drew ?_ | refine blk_alloc ?_ _)); refine blk_far ?_ NBC_A.out _; (with_reducible repeat (first | refine blk_drewN ?_ _ | refine blk_drew ?_ | refine blk_alloc ?_ _)); refine blk_far ?_ NBC_A.out _; (with_reducible repeat (first | refine blk_drewN ?_ _ | refine blk_drew ?_ | refine blk_alloc ?_ _)); refine blk_far ?_ NBC_A.out _; (with_reducible repeat (first | refine blk_drewN ?_ _ | refine blk_drew ?_ | refine blk_alloc ?_ _)); refine blk_far ?_ NBC_A.out _; (with_reducible repeat (first | refine blk_drewN ?_ _ | refine blk_drew ?_ | refine blk_alloc ?_ _)); exact BKC.out⟩; have n5_ : Aside0 (((((w49.setCell ⟨gbA, 0, none⟩ (.int .i64 tW)).setCell ⟨gbA, 1, none⟩ (.int .i64 tX)).setCell ⟨gbA, 2, none⟩ (.int .i64 tY)).setCell ⟨gbA, 3, none⟩ (.int .i64 tZ)).heap[gbA]? = some (.cells #[.int .i64 tW, .int .i64 tX, .int .i64 tY, .int .i64 tZ] 63 (0, 0))) := ⟨by (with_reducible repeat (first | refine blk_drewN ?_ _ | refine blk_drew ?_ | refine blk_alloc ?_ _)); refine blk_put (cs := #[.int .i64 tW, .int .i64 tX, .int .i64 tY, .int .i64 0]) ?_ 3 _ rfl; (with_reducible repeat (first | refine blk_drewN ?_ _ | refine blk_drew ?_ | refine blk_alloc ?_ _)); refine blk_put (cs := #[.int .i64 tW, .int .i64 tX, .int .i64 0, .int .i64 0]) ?_ 2 _ rfl; (with_reducible repeat (first | refine blk_drewN ?_ _ | refine blk_drew ?_ | refine blk_alloc ?_ _)); refine blk_put (cs := #[.int .i64 tW, .int .i64 0, .int .i64 0, .int .i64 0]) ?_ 1 _ rfl; (with_reducible repeat (first | refine blk_drewN ?_ _ | refine blk_drew ?_ | refine blk_alloc ?_ _)); refine blk_put (cs := #[.int .i64 0, .int .i64 0, .int .i64 0, .int .i64 0]) ?_ 0 _ rfl; (with_reducible repeat (first | refine blk_drewN ?_ _ | refine blk_drew ?_ | refine blk_alloc ?_ _)); exact BKA.out⟩; have n6_ : Aside0 (IsS92 w ((((w49.setCell ⟨gbA, 0, none⟩ (.int .i64 tW)).setCell ⟨gbA, 1, none⟩ (.int .i64 tX)).setCell ⟨gbA, 2, none⟩ (.int .i64 tY)).setCell ⟨gbA, 3, none⟩ (.int .i64 tZ)) gbH xS_2) := ⟨by repeat (first | (with_reducible first | exact HIH.out | apply IsS92.alloc | apply IsS92.drewN | apply IsS92.drew | apply IsS92.set_0 | apply IsS92.far (hne := NBH_G.out) | apply IsS92.far (hne := NBH_E.out) | apply IsS92.far (hne := NBH_D.out) | apply IsS92.far (hne := NBH_C.out) | apply IsS92.far (hne := NBH_A.out)) | exact HIH.out)⟩; have n7_ : Aside0 (Below w.heap.size w ((((w49.setCell ⟨gbA, 0, none⟩ (.int .i64 tW)).setCell ⟨gbA, 1, none⟩ (.int .i64 tX)).setCell ⟨gbA, 2, none⟩ (.int .i64 tY)).setCell ⟨gbA, 3, none⟩ (.int .i64 tZ))) := ⟨by repeat (first | (with_reducible first | exact HB.out | apply below_alloc | apply pw_below_drewN | apply below_drew1 | refine below_set ?_ (IsS92.ge HIH.out) | refine below_set ?_ GEG.out | refine below_set ?_ GEE.out | refine below_set ?_ GED.out | refine below_set ?_ GEC.out | refine below_set ?_ GEA.out) | exact HB.out)⟩; generalize ((((w49.setCell ⟨gbA, 0, none⟩ (.int .i64 tW)).setCell ⟨gbA, 1, none⟩ (.int .i64 tX)).setCell ⟨gbA, 2, none⟩ (.int .i64 tY)).setCell ⟨gbA, 3, none⟩ (.int .i64 tZ)) = w56 at n0_ n1_ n2_ n3_ n4_ n5_ n6_ n7_ ⊢; have HO_26 := n0_; have BKG := n1_; have BKE := n2_; have BKD := n3_; have BKC := n4_; have BKA := n5_; have HIH := n6_; have HB := n7_; clear n0_ n1_ n2_ n3_ n4_ n5_ n6_ n7_; replace HO_26 := Aside0.mk (Kd.R_drew HO_26.out); replace BKG := Aside0.mk (blk_drew BKG.out); replace BKE := Aside0.mk (blk_drew BKE.out); replace BKD := Aside0.mk (blk_drew BKD.out); replace BKC := Aside0.mk (blk_drew BKC.out); replace BKA := Aside0.mk (blk_drew BKA.out); replace HIH := Aside0.mk (IsS92.drew HIH.out); replace HB := Aside0.mk (below_drew1 HB.out); have pAP : 0 ≤ (x28_2 : Int) := of_decide_eq_true zz247; have qAP : x28_2 < (l1.length : Int) := of_decide_eq_true zz247; obtain ⟨adAP, eAP, hxAP_0, hxAP_1⟩ := at_T47 HR1.out x28_2 pAP qAP; have hwAP_1 := hxAP_1; have hwAP_0 := hxAP_0; cases eAP
           replace hxAP_0 := cwA HB hxAP_0; replace hxAP_1 := cwA HB hxAP_1; replace pAP := eq_true pAP; replace qAP := eq_true qAP; refine start_ (n := 13) (S := fun w' => w'.cell? ⟨gbD, 0, none⟩ = some (.int .i64 xU_2) ∧ w'.cell? ⟨gbD, 1, none⟩ = some (.int .i64 xV_2) ∧ w'.cell? ⟨gbA, 0, none⟩ = some (.int .i64 tW) ∧ w'.cell? ⟨gbA, 1, none⟩ = some (.int .i64 tX) ∧ w'.cell? ⟨gbA, 2, none⟩ = some (.int .i64 tY) ∧ w'.cell? ⟨gbA, 3, none⟩ = some (.int .i64 tZ) ∧ w'.cell? (adAP.add ((x28_2).toNat * 2)) = some (.int .i64 ((rd_T47 l1 x28_2).f0)) ∧ w'.cell? ⟨(adAP.add ((x28_2).toNat * 2)).block, (adAP.add ((x28_2).toNat * 2)).off + 1, none⟩ = some (.int .i64 ((rd_T47 l1 x28_2).f1))) (ds := [12]) (.replicate 13 fF) (by kernel_rfl) rfl rfl ⟨bcA BKD 0, bcA BKD 1, bcA BKA 0, bcA BKA 1, bcA BKA 2, bcA BKA 3, (cwA HB hwAP_0), (cwA HB hwAP_1)⟩ (fun hHeld => ?_); refine with_tabW impl_MassOf.tab10 impl_MassOf.bits10 (fun HT_ HW_ => ?_); generalize w56.drew = w57 at HO_26 BKG BKE BKD BKC BKA HIH HB hxAP_0 hxAP_1 hHeld ⊢; refine pureA 1 (some 41) (bB 13 2) HT_ ?_; refine pureA 2 (some 42) (bB 13 6) HT_ ?_; refine pureA 3 (some 43) (bB 13 14) HT_ ?_; refine pureA 5 (some 45) (bB 13 46) HT_ ?_; refine pureA 7 (some 47) (bB 13 174) HT_ ?_; refine takeA2 0 (some 40) (bB 13 175) HT_ HW_ hHeld ?_; refine takeA2 4 (some 44) (bB 13 191) HT_ HW_ hHeld ?_; refine takeA2 6 (some 46) (bB 13 255) HT_ HW_ hHeld ?_; refine takeA2 8 (some 48) (bB 13 511) HT_ HW_ hHeld ?_; refine one_ (i := 9) (N := some 49) (bB 13 1023) rfl rfl (one_of HT_.out (by kernel_rfl)) (by decide) (fun K hK => ?_); refine goes_ Try.func101 (by kernel_rfl) rfl #[.pointer (some ⟨gbH, 0, none⟩), .agg #[.int .i64 tY, .int .i64 tZ], .agg #[.int .i64 tW, .int .i64 tX]] (by rfl) rfl rfl zz175 ?_; with_reducible refine (impl_calc_sub.calls k2 gbH xS_2 tY tZ tW tX tAC tAF tAG w _ ?side1 ?side2 A35.out).mono ?_
           (case side1 => repeat (first | (with_reducible first | exact HIH.out | apply IsS92.alloc | apply IsS92.drewN | apply IsS92.drew | apply IsS92.set_0 | apply IsS92.far (hne := NBH_G.out) | apply IsS92.far (hne := NBH_E.out) | apply IsS92.far (hne := NBH_D.out) | apply IsS92.far (hne := NBH_C.out) | apply IsS92.far (hne := NBH_A.out)) | exact HIH.out)); (case side2 => repeat (first | (with_reducible first | exact HB.out | apply below_alloc | apply pw_below_drewN | apply below_drew1 | refine below_set ?_ (IsS92.ge HIH.out) | refine below_set ?_ GEG.out | refine below_set ?_ GEE.out | refine below_set ?_ GED.out | refine below_set ?_ GEC.out | refine below_set ?_ GEA.out) | exact HB.out)); rintro e w58 ⟨rfl, hi, hb, hk⟩; refine ⟨_, rfl, ?_⟩; replace HO_26 := Aside0.mk (Kd.R_mono (Kd.R_keep (IsS92.apart (show IsS92 w _ gbH xS_2 from by repeat (first | (with_reducible first | exact HIH.out | apply IsS92.alloc | apply IsS92.drewN | apply IsS92.drew | apply IsS92.set_0 | apply IsS92.far (hne := NBH_G.out) | apply IsS92.far (hne := NBH_E.out) | apply IsS92.far (hne := NBH_D.out) | apply IsS92.far (hne := NBH_C.out) | apply IsS92.far (hne := NBH_A.out)) | exact HIH.out)) zz224 (by decide)) hk (fun _ h => h.2)) (fun _ h => h.1)); replace BKG := Aside0.mk (KeepBut.blk hk (g' := gbG) (o := .cells #[.int .i64 a2_0, .int .i64 a2_1, .int .i64 a2_2, .int .i64 a2_3] 63 (0, 0)) zz188 NBG_H.out (by simp)); replace BKE := Aside0.mk (KeepBut.blk hk (g' := gbE) (o := .cells #[.int .i64 0, .int .i64 0] 47 (0, 0)) zz189 NBE_H.out (by simp)); replace BKD := Aside0.mk (KeepBut.blk hk (g' := gbD) (o := .cells #[.int .i64 xU_2, .int .i64 xV_2] 47 (0, 0)) zz190 NBD_H.out (by simp)); replace BKC := Aside0.mk (KeepBut.blk hk (g' := gbC) (o := .cells #[.int .i64 ((rd_T63 tI x28_2).f0.f0), .int .i64 ((rd_T63 tI x28_2).f0.f1), .int .i64 ((rd_T63 tI x28_2).f1.f0), .int .i64 ((rd_T63 tI x28_2).f1.f1)] 63 (0, 0)) zz191 NBC_H.out (by simp)); replace BKA := Aside0.mk (KeepBut.blk hk (g' := gbA) (o := .cells #[.int .i64 tW, .int .i64 tX, .int .i64 tY, .int .i64 tZ] 63 (0, 0)) zz192 NBA_H.out (by simp)); replace HIH := Aside0.mk (hi); replace HB := Aside0.mk (hb); refine hK.out _ _ ⟨bcA BKD 0, bcA BKD 1, bcA BKA 0, bcA BKA 1, bcA BKA 2, bcA BKA 3, (cwA HB hwAP_0), (cwA HB hwAP_1)⟩ (fun hHeld => ?_); clear hK K; refine normA (some 49) ?_; refine one_ (i := 10) (N := some 50) (bB 13 2047) rfl rfl (one_of HT_.out (by kernel_rfl)) (by decide) (fun K hK => ?_); refine goes_ Try.func100 (by kernel_rfl) rfl #[.pointer (some ⟨gbH, 0, none⟩), .agg #[.int .i64 ((rd_T47 l1 x28_2).f0), .int .i64 ((rd_T47 l1 x28_2).f1)], .agg #[.int .i64 tAC, .int .i64 tAF]] (by rfl) rfl rfl zz175 ?_; with_reducible refine (impl_calc_mul.calls k2 gbH tAG ((rd_T47 l1 x28_2).f0) ((rd_T47 l1 x28_2).f1) tAC tAF tAD tAI tAJ w _ ?side1 ?side2 A36.out).mono ?_
           (case side1 => repeat (first | (with_reducible first | exact HIH.out | apply IsS92.alloc | apply IsS92.drewN | apply IsS92.drew | apply IsS92.set_0 | apply IsS92.far (hne := NBH_G.out) | apply IsS92.far (hne := NBH_E.out) | apply IsS92.far (hne := NBH_D.out) | apply IsS92.far (hne := NBH_C.out) | apply IsS92.far (hne := NBH_A.out)) | exact HIH.out)); (case side2 => repeat (first | (with_reducible first | exact HB.out | apply below_alloc | apply pw_below_drewN | apply below_drew1 | refine below_set ?_ (IsS92.ge HIH.out) | refine below_set ?_ GEG.out | refine below_set ?_ GEE.out | refine below_set ?_ GED.out | refine below_set ?_ GEC.out | refine below_set ?_ GEA.out) | exact HB.out)); rintro e w59 ⟨rfl, hi, hb, hk⟩; refine ⟨_, rfl, ?_⟩; replace HO_26 := Aside0.mk (Kd.R_mono (Kd.R_keep (IsS92.apart (show IsS92 w _ gbH tAG from by repeat (first | (with_reducible first | exact HIH.out | apply IsS92.alloc | apply IsS92.drewN | apply IsS92.drew | apply IsS92.set_0 | apply IsS92.far (hne := NBH_G.out) | apply IsS92.far (hne := NBH_E.out) | apply IsS92.far (hne := NBH_D.out) | apply IsS92.far (hne := NBH_C.out) | apply IsS92.far (hne := NBH_A.out)) | exact HIH.out)) zz224 (by decide)) hk (fun _ h => h.2)) (fun _ h => h.1)); replace BKG := Aside0.mk (KeepBut.blk hk (g' := gbG) (o := .cells #[.int .i64 a2_0, .int .i64 a2_1, .int .i64 a2_2, .int .i64 a2_3] 63 (0, 0)) zz188 NBG_H.out (by simp)); replace BKE := Aside0.mk (KeepBut.blk hk (g' := gbE) (o := .cells #[.int .i64 0, .int .i64 0] 47 (0, 0)) zz189 NBE_H.out (by simp)); replace BKD := Aside0.mk (KeepBut.blk hk (g' := gbD) (o := .cells #[.int .i64 xU_2, .int .i64 xV_2] 47 (0, 0)) zz190 NBD_H.out (by simp)); replace BKC := Aside0.mk (KeepBut.blk hk (g' := gbC) (o := .cells #[.int .i64 ((rd_T63 tI x28_2).f0.f0), .int .i64 ((rd_T63 tI x28_2).f0.f1), .int .i64 ((rd_T63 tI x28_2).f1.f0), .int .i64 ((rd_T63 tI x28_2).f1.f1)] 63 (0, 0)) zz191 NBC_H.out (by simp)); replace BKA := Aside0.mk (KeepBut.blk hk (g' := gbA) (o := .cells #[.int .i64 tW, .int .i64 tX, .int .i64 tY, .int .i64 tZ] 63 (0, 0)) zz192 NBA_H.out (by simp)); replace HIH := Aside0.mk (hi); replace HB := Aside0.mk (hb); refine hK.out _ _ ⟨bcA BKD 0, bcA BKD 1, bcA BKA 0, bcA BKA 1, bcA BKA 2, bcA BKA 3, (cwA HB hwAP_0), (cwA HB hwAP_1)⟩ (fun hHeld => ?_); clear hK K; refine normA (some 50) ?_; refine one_ (i := 11) (N := some 51) (bB 13 4095) rfl rfl (one_of HT_.out (by kernel_rfl)) (by decide) (fun K hK => ?_); refine goes_ Try.func99 (by kernel_rfl) rfl #[.pointer (some ⟨gbH, 0, none⟩), .agg #[.int .i64 xU_2, .int .i64 xV_2], .agg #[.int .i64 tAD, .int .i64 tAI]] (by rfl) rfl rfl zz175 ?_; with_reducible refine (impl_calc_add.calls k2 gbH tAJ xU_2 xV_2 tAD tAI tAE tAL tAM w _ ?side1 ?side2 A37.out).mono ?_
           (case side1 => repeat (first | (with_reducible first | exact HIH.out | apply IsS92.alloc | apply IsS92.drewN | apply IsS92.drew | apply IsS92.set_0 | apply IsS92.far (hne := NBH_G.out) | apply IsS92.far (hne := NBH_E.out) | apply IsS92.far (hne := NBH_D.out) | apply IsS92.far (hne := NBH_C.out) | apply IsS92.far (hne := NBH_A.out)) | exact HIH.out)); (case side2 => repeat (first | (with_reducible first | exact HB.out | apply below_alloc | apply pw_below_drewN | apply below_drew1 | refine below_set ?_ (IsS92.ge HIH.out) | refine below_set ?_ GEG.out | refine below_set ?_ GEE.out | refine below_set ?_ GED.out | refine below_set ?_ GEC.out | refine below_set ?_ GEA.out) | exact HB.out)); rintro e w60 ⟨rfl, hi, hb, hk⟩; refine ⟨_, rfl, ?_⟩; replace HO_26 := Aside0.mk (Kd.R_mono (Kd.R_keep (IsS92.apart (show IsS92 w _ gbH tAJ from by repeat (first | (with_reducible first | exact HIH.out | apply IsS92.alloc | apply IsS92.drewN | apply IsS92.drew | apply IsS92.set_0 | apply IsS92.far (hne := NBH_G.out) | apply IsS92.far (hne := NBH_E.out) | apply IsS92.far (hne := NBH_D.out) | apply IsS92.far (hne := NBH_C.out) | apply IsS92.far (hne := NBH_A.out)) | exact HIH.out)) zz224 (by decide)) hk (fun _ h => h.2)) (fun _ h => h.1)); replace BKG := Aside0.mk (KeepBut.blk hk (g' := gbG) (o := .cells #[.int .i64 a2_0, .int .i64 a2_1, .int .i64 a2_2, .int .i64 a2_3] 63 (0, 0)) zz188 NBG_H.out (by simp)); replace BKE := Aside0.mk (KeepBut.blk hk (g' := gbE) (o := .cells #[.int .i64 0, .int .i64 0] 47 (0, 0)) zz189 NBE_H.out (by simp)); replace BKD := Aside0.mk (KeepBut.blk hk (g' := gbD) (o := .cells #[.int .i64 xU_2, .int .i64 xV_2] 47 (0, 0)) zz190 NBD_H.out (by simp)); replace BKC := Aside0.mk (KeepBut.blk hk (g' := gbC) (o := .cells #[.int .i64 ((rd_T63 tI x28_2).f0.f0), .int .i64 ((rd_T63 tI x28_2).f0.f1), .int .i64 ((rd_T63 tI x28_2).f1.f0), .int .i64 ((rd_T63 tI x28_2).f1.f1)] 63 (0, 0)) zz191 NBC_H.out (by simp)); replace BKA := Aside0.mk (KeepBut.blk hk (g' := gbA) (o := .cells #[.int .i64 tW, .int .i64 tX, .int .i64 tY, .int .i64 tZ] 63 (0, 0)) zz192 NBA_H.out (by simp)); replace HIH := Aside0.mk (hi); replace HB := Aside0.mk (hb); refine hK.out _ _ ⟨bcA BKD 0, bcA BKD 1, bcA BKA 0, bcA BKA 1, bcA BKA 2, bcA BKA 3, (cwA HB hwAP_0), (cwA HB hwAP_1)⟩ (fun hHeld => ?_); clear hK K; refine normA (some 51) ?_; refine last_ (i := 12) (N := none) (bB 13 8191) rfl rfl (one_of HT_.out (by kernel_rfl)) (by decide) (fun K hK => ?_); have hs61 : w60.cell? ⟨gbD, 0, none⟩ = some (.int .i64 xU_2) := bcA BKD 0; have hfs61 := blk_frozen BKD.out 0; have hns61_0 := NBG_D.out; have hns61_1 := NBE_D.out; have hns61_3 := NBC_D.out; have hns61_4 := NBA_D.out; have hms61_0 := NBD_G.out; have hms61_1 := NBD_E.out; have hms61_3 := NBD_C.out; have hms61_4 := NBD_A.out; have hs62 : w60.cell? ⟨gbD, 1, none⟩ = some (.int .i64 xV_2) := bcA BKD 1; have hfs62 := blk_frozen BKD.out 1; have hns62_0 := NBG_D.out; have hns62_1 := NBE_D.out; have hns62_3 := NBC_D.out; have hns62_4 := NBA_D.out; have hms62_0 := NBD_G.out; have hms62_1 := NBD_E.out; have hms62_3 := NBD_C.out; have hms62_4 := NBD_A.out; refine skip_ (w1 := ?_) (by rfl) rfl ?_ ?_; rotate_left
           ·go_simp
            rfl
           refine hK.out _ _ ?_; clear hK K; refine done_ (done_of HT_.out (by kernel_rfl)) ?_; try go_wp2
           go_roundg k2
           case measure => have := HJ3.out; have := HK2.out; omega
           case rel => exact ⟨(wrap64 (x28_2 + 1)), (tAM), (tAE), (tAL), zz248, H', ⟨by have := HJ3.out; have := HK2.out; omega⟩, ⟨by (with_reducible repeat (first | apply Kd.R_alloc | apply Kd.R_drewN | apply Kd.R_drew)); exact Kd.R_mono (Kd.R_far (p := ⟨gbD, 1, none⟩) (Kd.R_far (p := ⟨gbD, 0, none⟩) (Kd.R_types HO_26.out BKD.out (by decide)) (fun _ hk => hk.2) (.int .i64 tAE)) (fun _ hk => hk.2) (.int .i64 tAL)) (fun _ hk => hk.1.1)⟩, ⟨by (with_reducible repeat (first | refine blk_drewN ?_ _ | refine blk_drew ?_ | refine blk_alloc ?_ _)); refine blk_far ?_ NBG_D.out _; (with_reducible repeat (first | refine blk_drewN ?_ _ | refine blk_drew ?_ | refine blk_alloc ?_ _)); refine blk_far ?_ NBG_D.out _; (with_reducible repeat (first | refine blk_drewN ?_ _ | refine blk_drew ?_ | refine blk_alloc ?_ _)); exact BKG.out⟩, ⟨by (with_reducible repeat (first | refine blk_drewN ?_ _ | refine blk_drew ?_ | refine blk_alloc ?_ _)); refine blk_far ?_ NBE_D.out _; (with_reducible repeat (first | refine blk_drewN ?_ _ | refine blk_drew ?_ | refine blk_alloc ?_ _)); refine blk_far ?_ NBE_D.out _; (with_reducible repeat (first | refine blk_drewN ?_ _ | refine blk_drew ?_ | refine blk_alloc ?_ _)); exact BKE.out⟩, ⟨by (with_reducible repeat (first | refine blk_drewN ?_ _ | refine blk_drew ?_ | refine blk_alloc ?_ _)); refine blk_put (cs := #[.int .i64 tAE, .int .i64 xV_2]) ?_ 1 _ rfl; (with_reducible repeat (first | refine blk_drewN ?_ _ | refine blk_drew ?_ | refine blk_alloc ?_ _)); refine blk_put (cs := #[.int .i64 xU_2, .int .i64 xV_2]) ?_ 0 _ rfl; (with_reducible repeat (first | refine blk_drewN ?_ _ | refine blk_drew ?_ | refine blk_alloc ?_ _)); exact BKD.out⟩, ⟨by repeat (first | (with_reducible first | exact HIH.out | apply IsS92.alloc | apply IsS92.drewN | apply IsS92.drew | apply IsS92.set_0 | apply IsS92.far (hne := NBH_G.out) | apply IsS92.far (hne := NBH_E.out) | apply IsS92.far (hne := NBH_D.out) | apply IsS92.far (hne := NBH_C.out) | apply IsS92.far (hne := NBH_A.out)) | exact HIH.out)⟩, ⟨by repeat (first | (with_reducible first | exact HB.out | apply below_alloc | apply pw_below_drewN | apply below_drew1 | refine below_set ?_ (IsS92.ge HIH.out) | refine below_set ?_ GEG.out | refine below_set ?_ GEE.out | refine below_set ?_ GED.out | refine below_set ?_ GEC.out | refine below_set ?_ GEA.out) | exact HB.out)⟩⟩
          ·rw [if_neg c34] at H; exact absurd H (by simp)
         ·replace c33 := Bool.eq_false_iff.mpr c33; subst c33; have H1 : (impl_MassOf.l0 k2 l1 tI (tI.length : Int) (wrap64 (x28_2 + 1)) a2_0 a2_1 a2_2 a2_3 xS_2 xU_2 xV_2) = some (r1, r2, r3) := by rw [if_neg (show ¬ (false = true) by decide)] at H; exact H
          clear H; have H := H1; clear H1; have H' := Aside0.mk H; clear H; have pAO : 0 ≤ (x28_2 : Int) := of_decide_eq_true zz247; have qAO : x28_2 < (tI.length : Int) := of_decide_eq_true zz247; obtain ⟨adAO, eAO, hxAO_0, hxAO_1, hxAO_2, hxAO_3⟩ := at_T63 (Kd.R_reads' HO_26.out).2.2 x28_2 pAO qAO; cases eAO
          replace pAO := eq_true pAO; replace qAO := eq_true qAO; go_wp2_with (first | ((with_reducible refine gate_dst (N := 11) rfl ?_); refine boxE 11 #[.int .i64 0, .int .i64 0, .int .i64 0, .int .i64 0] 63 ?_; intro gbC hg w63 hbox hb; have n0_ := Aside0.mk (Kd.R_below (Kd.R_elderB zz224 gbC (Nat.le_of_eq hg.symm)) hb); have n1_ := blkA BKG hb; have n2_ := blkA BKE hb; have n3_ := blkA BKD hb; have n4_ := Aside0.mk (IsS92.below zz57 hb); have n5_ := Aside0.mk (below_step zz58 hb); have n6_ := Aside0.mk (hbox); have n7_ := gwA (below_size zz58) hg; have n8_ := gwA (below_size zz58) hg; have n9_ := nltA BKG hg; have n10_ := ngtA BKG hg; have n11_ := nltA BKE hg; have n12_ := ngtA BKE hg; have n13_ := nltA BKD hg; have n14_ := ngtA BKD hg; have n15_ := Aside0.mk ((by rw [hg]; exact Nat.ne_of_lt (IsS92.lt (show IsS92 w _ gbH xS_2 from by repeat (first | (with_reducible first | exact HIH.out | apply IsS92.alloc | apply IsS92.drewN | apply IsS92.drew | apply IsS92.set_0 | apply IsS92.far (hne := NBH_G.out) | apply IsS92.far (hne := NBH_E.out) | apply IsS92.far (hne := NBH_D.out)) | exact HIH.out))) : gbH ≠ gbC)); have n16_ := Aside0.mk ((by rw [hg]; exact Nat.ne_of_gt (IsS92.lt (show IsS92 w _ gbH xS_2 from by repeat (first | (with_reducible first | exact HIH.out | apply IsS92.alloc | apply IsS92.drewN | apply IsS92.drew | apply IsS92.set_0 | apply IsS92.far (hne := NBH_G.out) | apply IsS92.far (hne := NBH_E.out) | apply IsS92.far (hne := NBH_D.out)) | exact HIH.out))) : gbC ≠ gbH)); clear HO_26; clear BKG; clear BKE; clear BKD; clear HIH; clear HB; have HO_26 := n0_; have BKG := n1_; have BKE := n2_; have BKD := n3_; have HIH := n4_; have HB := n5_; have BKC := n6_; have GWC := n7_; have GEC := n8_; have NBG_C := n9_; have NBC_G := n10_; have NBE_C := n11_; have NBC_E := n12_; have NBD_C := n13_; have NBC_D := n14_; have NBH_C := n15_; have NBC_H := n16_; clear n0_ n1_ n2_ n3_ n4_ n5_ n6_ n7_ n8_ n9_ n10_ n11_ n12_ n13_ n14_ n15_ n16_; clear hb hbox hg; have hnb64 := NBC_G.out; have hnc64 := NBG_C.out; have hnb65 := NBC_E.out; have hnc65 := NBE_C.out; have hnb66 := NBC_D.out; have hnc66 := NBD_C.out; have hnb67 := NBC_H.out; have hnc67 := NBH_C.out; obtain ⟨hcz68_0, hcz68_1, hcz68_2, hcz68_3, hfz68_0, hfz68_1, hfz68_2, hfz68_3⟩ := cz4 BKC.out; have hnb69 := NBG_E.out; have hnc69 := NBE_G.out; have hnb70 := NBG_D.out; have hnc70 := NBD_G.out; have hnb71 := NBG_H.out; have hnc71 := NBH_G.out; obtain ⟨hcz72_0, hcz72_1, hcz72_2, hcz72_3, hfz72_0, hfz72_1, hfz72_2, hfz72_3⟩ := cz4 BKG.out) | ((with_reducible refine gate_callee (f := 98) rfl ?_); refine goesL_ (some 36) rfl rfl Try.func98 (by kernel_rfl) rfl #[.agg #[.int .i64 ((rd_T63 tI x28_2).f0.f0), .int .i64 ((rd_T63 tI x28_2).f0.f1), .int .i64 ((rd_T63 tI x28_2).f1.f0), .int .i64 ((rd_T63 tI x28_2).f1.f1)], .agg #[.int .i64 a2_0, .int .i64 a2_1, .int .i64 a2_2, .int .i64 a2_3]] rfl zz175 ?_; (with_reducible refine (impl_common.calls ((rd_T63 tI x28_2).f0.f0) ((rd_T63 tI x28_2).f0.f1) ((rd_T63 tI x28_2).f1.f0) ((rd_T63 tI x28_2).f1.f1) a2_0 a2_1 a2_2 a2_3 tW tX tY tZ false _ A32.out).mono ?_); rintro e w73 ⟨rfl, hb⟩; refine ⟨_, rfl, ?_⟩; replace HO_26 := Aside0.mk (Kd.R_below zz23 hb); replace BKG := Aside0.mk (blk_below (g := gbG) (o := .cells #[.int .i64 a2_0, .int .i64 a2_1, .int .i64 a2_2, .int .i64 a2_3] 63 (0, 0)) zz18 hb); replace BKE := Aside0.mk (blk_below (g := gbE) (o := .cells #[.int .i64 0, .int .i64 0] 47 (0, 0)) zz19 hb); replace BKD := Aside0.mk (blk_below (g := gbD) (o := .cells #[.int .i64 xU_2, .int .i64 xV_2] 47 (0, 0)) zz20 hb); replace HIH := Aside0.mk (IsS92.below (show IsS92 w ((((w63.setCell ⟨gbC, 0, none⟩ (.int .i64 ((rd_T63 tI x28_2).f0.f0))).setCell ⟨gbC, 1, none⟩ (.int .i64 ((rd_T63 tI x28_2).f0.f1))).setCell ⟨gbC, 2, none⟩ (.int .i64 ((rd_T63 tI x28_2).f1.f0))).setCell ⟨gbC, 3, none⟩ (.int .i64 ((rd_T63 tI x28_2).f1.f1))) gbH xS_2 from by repeat (first | (with_reducible first | exact HIH.out | apply IsS92.alloc | apply IsS92.drewN | apply IsS92.drew | apply IsS92.set_0 | apply IsS92.far (hne := NBH_G.out) | apply IsS92.far (hne := NBH_E.out) | apply IsS92.far (hne := NBH_D.out) | apply IsS92.far (hne := NBH_C.out)) | exact HIH.out)) hb); replace BKC := Aside0.mk (blk_below (g := gbC) (o := .cells #[.int .i64 ((rd_T63 tI x28_2).f0.f0), .int .i64 ((rd_T63 tI x28_2).f0.f1), .int .i64 ((rd_T63 tI x28_2).f1.f0), .int .i64 ((rd_T63 tI x28_2).f1.f1)] 63 (0, 0)) zz0 hb); replace HB := Aside0.mk (below_step zz56 hb)) | ((with_reducible refine gate_dst (N := 12) rfl ?_); refine boxE 12 #[.int .i64 0, .int .i64 0, .int .i64 0, .int .i64 0] 63 ?_; intro gbA hg w74 hbox hb; have n0_ := Aside0.mk (Kd.R_below (Kd.R_elderB zz224 gbA (Nat.le_of_eq hg.symm)) hb); have n1_ := blkA BKG hb; have n2_ := blkA BKE hb; have n3_ := blkA BKD hb; have n4_ := Aside0.mk (IsS92.below zz55 hb); have n5_ := blkA BKC hb; have n6_ := Aside0.mk (below_step zz56 hb); have n7_ := Aside0.mk (hbox); have n8_ := gwA (below_size zz56) hg; have n9_ := gwA (below_size zz56) hg; have n10_ := nltA BKG hg; have n11_ := ngtA BKG hg; have n12_ := nltA BKE hg; have n13_ := ngtA BKE hg; have n14_ := nltA BKD hg; have n15_ := ngtA BKD hg; have n16_ := nltA BKC hg; have n17_ := ngtA BKC hg; have n18_ := Aside0.mk ((by rw [hg]; exact Nat.ne_of_lt (IsS92.lt (show IsS92 w _ gbH xS_2 from by repeat (first | (with_reducible first | exact HIH.out | apply IsS92.alloc | apply IsS92.drewN | apply IsS92.drew | apply IsS92.set_0 | apply IsS92.far (hne := NBH_G.out) | apply IsS92.far (hne := NBH_E.out) | apply IsS92.far (hne := NBH_D.out) | apply IsS92.far (hne := NBH_C.out)) | exact HIH.out))) : gbH ≠ gbA)); have n19_ := Aside0.mk ((by rw [hg]; exact Nat.ne_of_gt (IsS92.lt (show IsS92 w _ gbH xS_2 from by repeat (first | (with_reducible first | exact HIH.out | apply IsS92.alloc | apply IsS92.drewN | apply IsS92.drew | apply IsS92.set_0 | apply IsS92.far (hne := NBH_G.out) | apply IsS92.far (hne := NBH_E.out) | apply IsS92.far (hne := NBH_D.out) | apply IsS92.far (hne := NBH_C.out)) | exact HIH.out))) : gbA ≠ gbH)); clear HO_26; clear BKG; clear BKE; clear BKD; clear HIH; clear BKC; clear HB; have HO_26 := n0_; have BKG := n1_; have BKE := n2_; have BKD := n3_; have HIH := n4_; have BKC := n5_; have HB := n6_; have BKA := n7_; have GWA := n8_; have GEA := n9_; have NBG_A := n10_; have NBA_G := n11_; have NBE_A := n12_; have NBA_E := n13_; have NBD_A := n14_; have NBA_D := n15_; have NBC_A := n16_; have NBA_C := n17_; have NBH_A := n18_; have NBA_H := n19_; clear n0_ n1_ n2_ n3_ n4_ n5_ n6_ n7_ n8_ n9_ n10_ n11_ n12_ n13_ n14_ n15_ n16_ n17_ n18_ n19_; clear hb hbox hg; have hnb75 := NBA_G.out; have hnc75 := NBG_A.out; have hnb76 := NBA_E.out; have hnc76 := NBE_A.out; have hnb77 := NBA_D.out; have hnc77 := NBD_A.out; have hnb78 := NBA_C.out; have hnc78 := NBC_A.out; have hnb79 := NBA_H.out; have hnc79 := NBH_A.out; obtain ⟨hcz80_0, hcz80_1, hcz80_2, hcz80_3, hfz80_0, hfz80_1, hfz80_2, hfz80_3⟩ := cz4 BKA.out))
          go_roundg k2
          case measure => have := HJ3.out; have := HK2.out; omega
          case rel => exact ⟨(wrap64 (x28_2 + 1)), (xS_2), (xU_2), (xV_2), zz248, H', ⟨by have := HJ3.out; have := HK2.out; omega⟩, ⟨by (with_reducible repeat (first | apply Kd.R_alloc | apply Kd.R_drewN | apply Kd.R_drew)); exact Kd.R_mono (Kd.R_far (p := ⟨gbA, 3, none⟩) (Kd.R_far (p := ⟨gbA, 2, none⟩) (Kd.R_far (p := ⟨gbA, 1, none⟩) (Kd.R_far (p := ⟨gbA, 0, none⟩) (Kd.R_mono HO_26.out (fun k_ hk => (⟨hk, hk.2⟩ : _ ∧ k_ ≠ gbA))) (fun _ hk => hk.2) (.int .i64 tW)) (fun _ hk => hk.2) (.int .i64 tX)) (fun _ hk => hk.2) (.int .i64 tY)) (fun _ hk => hk.2) (.int .i64 tZ)) (fun _ hk => hk.1.1.1)⟩, ⟨by (with_reducible repeat (first | refine blk_drewN ?_ _ | refine blk_drew ?_ | refine blk_alloc ?_ _)); refine blk_far ?_ NBG_A.out _; (with_reducible repeat (first | refine blk_drewN ?_ _ | refine blk_drew ?_ | refine blk_alloc ?_ _)); refine blk_far ?_ NBG_A.out _; (with_reducible repeat (first | refine blk_drewN ?_ _ | refine blk_drew ?_ | refine blk_alloc ?_ _)); refine blk_far ?_ NBG_A.out _; (with_reducible repeat (first | refine blk_drewN ?_ _ | refine blk_drew ?_ | refine blk_alloc ?_ _)); refine blk_far ?_ NBG_A.out _; (with_reducible repeat (first | refine blk_drewN ?_ _ | refine blk_drew ?_ | refine blk_alloc ?_ _)); exact BKG.out⟩, ⟨by (with_reducible repeat (first | refine blk_drewN ?_ _ | refine blk_drew ?_ | refine blk_alloc ?_ _)); refine blk_far ?_ NBE_A.out _; (with_reducible repeat (first | refine blk_drewN ?_ _ | refine blk_drew ?_ | refine blk_alloc ?_ _)); refine blk_far ?_ NBE_A.out _; (with_reducible repeat (first | refine blk_drewN ?_ _ | refine blk_drew ?_ | refine blk_alloc ?_ _)); refine blk_far ?_ NBE_A.out _; (with_reducible repeat (first | refine blk_drewN ?_ _ | refine blk_drew ?_ | refine blk_alloc ?_ _)); refine blk_far ?_ NBE_A.out _; (with_reducible repeat (first | refine blk_drewN ?_ _ | refine blk_drew ?_ | refine blk_alloc ?_ _)); exact BKE.out⟩, ⟨by (with_reducible repeat (first | refine blk_drewN ?_ _ | refine blk_drew ?_ | refine blk_alloc ?_ _)); refine blk_far ?_ NBD_A.out _; (with_reducible repeat (first | refine blk_drewN ?_ _ | refine blk_drew ?_ | refine blk_alloc ?_ _)); refine blk_far ?_ NBD_A.out _; (with_reducible repeat (first | refine blk_drewN ?_ _ | refine blk_drew ?_ | refine blk_alloc ?_ _)); refine blk_far ?_ NBD_A.out _; (with_reducible repeat (first | refine blk_drewN ?_ _ | refine blk_drew ?_ | refine blk_alloc ?_ _)); refine blk_far ?_ NBD_A.out _; (with_reducible repeat (first | refine blk_drewN ?_ _ | refine blk_drew ?_ | refine blk_alloc ?_ _)); exact BKD.out⟩, ⟨by repeat (first | (with_reducible first | exact HIH.out | apply IsS92.alloc | apply IsS92.drewN | apply IsS92.drew | apply IsS92.set_0 | apply IsS92.far (hne := NBH_G.out) | apply IsS92.far (hne := NBH_E.out) | apply IsS92.far (hne := NBH_D.out) | apply IsS92.far (hne := NBH_C.out) | apply IsS92.far (hne := NBH_A.out)) | exact HIH.out)⟩, ⟨by repeat (first | (with_reducible first | exact HB.out | apply below_alloc | apply pw_below_drewN | apply below_drew1 | refine below_set ?_ (IsS92.ge HIH.out) | refine below_set ?_ GEG.out | refine below_set ?_ GEE.out | refine below_set ?_ GED.out | refine below_set ?_ GEC.out | refine below_set ?_ GEA.out) | exact HB.out)⟩⟩
        ·rw [if_neg c31] at H; exact absurd H (by simp)
       ·rw [if_neg c30] at H; exact absurd H (by simp)
      ·rw [if_neg c29] at H; have c29b0 : decide (x28_2 < (tI.length : Int)) = false := decide_eq_false c29; clear c29; replace H := Option.bind_eq_some_iff.mp H; obtain ⟨⟨tAQ, tAR, tAS, tAT⟩, AAU, H⟩ := H; replace H : (some (tAQ, tAR, tAS)) = some (r1, r2, r3) := H; have A81 := Aside0.mk AAU; clear AAU; simp only [Option.some.injEq, Prod.mk.injEq] at H; obtain ⟨rfl, rfl, rfl⟩ := H; have hnb82 := NBD_G.out; have hnc82 := NBG_D.out; have hnb83 := NBD_E.out; have hnc83 := NBE_D.out; have hnb84 := NBD_H.out; have hnc84 := NBH_D.out; obtain ⟨hcz85_0, hcz85_1, hfz85_0, hfz85_1⟩ := cz2 BKD.out; go_wp2_with (first | ((with_reducible refine gate_callee (f := 83) rfl ?_); refine goesL_ (some 54) rfl rfl Try.func83 (by kernel_rfl) rfl #[.pointer (some ⟨gbH, 0, none⟩), .agg #[.int .i64 xU_2, .int .i64 xV_2]] rfl zz175 ?_; (with_reducible refine (impl_calc_finished.calls gbH xS_2 xU_2 xV_2 tAQ tAR tAS tAT w _ ?side1 ?side2 A81.out).mono ?_); (case side1 => repeat (first | (with_reducible first | exact HIH.out | apply IsS92.alloc | apply IsS92.drewN | apply IsS92.drew | apply IsS92.set_0 | apply IsS92.far (hne := NBH_G.out) | apply IsS92.far (hne := NBH_E.out) | apply IsS92.far (hne := NBH_D.out)) | exact HIH.out)); (case side2 => repeat (first | (with_reducible first | exact HB.out | apply below_alloc | apply pw_below_drewN | apply below_drew1 | refine below_set ?_ (IsS92.ge HIH.out) | refine below_set ?_ GEG.out | refine below_set ?_ GEE.out | refine below_set ?_ GED.out) | exact HB.out)); rintro e w86 ⟨rfl, hi, hb, hk⟩; refine ⟨_, rfl, ?_⟩; replace HO_26 := Aside0.mk (Kd.R_mono (Kd.R_keep (IsS92.apart (show IsS92 w _ gbH xS_2 from by repeat (first | (with_reducible first | exact HIH.out | apply IsS92.alloc | apply IsS92.drewN | apply IsS92.drew | apply IsS92.set_0 | apply IsS92.far (hne := NBH_G.out) | apply IsS92.far (hne := NBH_E.out) | apply IsS92.far (hne := NBH_D.out)) | exact HIH.out)) zz224 (by decide)) hk (fun _ h => h.2)) (fun _ h => h.1)); replace BKG := Aside0.mk (KeepBut.blk hk (g' := gbG) (o := .cells #[.int .i64 a2_0, .int .i64 a2_1, .int .i64 a2_2, .int .i64 a2_3] 63 (0, 0)) zz188 NBG_H.out (by simp)); replace BKE := Aside0.mk (KeepBut.blk hk (g' := gbE) (o := .cells #[.int .i64 0, .int .i64 0] 47 (0, 0)) zz189 NBE_H.out (by simp)); replace BKD := Aside0.mk (KeepBut.blk hk (g' := gbD) (o := .cells #[.int .i64 xU_2, .int .i64 xV_2] 47 (0, 0)) zz190 NBD_H.out (by simp)); replace HIH := Aside0.mk (hi); replace HB := Aside0.mk (hb); (try clear hb); (try clear hk); (try clear hi); have hnb87 := NBE_G.out; have hnc87 := NBG_E.out; have hnb88 := NBE_H.out; have hnc88 := NBH_E.out; obtain ⟨hcz89_0, hcz89_1, hfz89_0, hfz89_1⟩ := cz2 BKE.out))
       refine bodyPost_ret (results_ct rfl _ _ gbE 47 #[.int .i64 tAQ, .int .i64 tAR] (0, 0) _ rfl (by (with_reducible repeat (first | refine blk_drewN ?_ _ | refine blk_drew ?_ | refine blk_alloc ?_ _)); refine blk_put (cs := #[.int .i64 tAQ, .int .i64 0]) ?_ 1 _ rfl; (with_reducible repeat (first | refine blk_drewN ?_ _ | refine blk_drew ?_ | refine blk_alloc ?_ _)); refine blk_put (cs := #[.int .i64 0, .int .i64 0]) ?_ 0 _ rfl; (with_reducible repeat (first | refine blk_drewN ?_ _ | refine blk_drew ?_ | refine blk_alloc ?_ _)); exact BKE.out) Try.underlying47 rfl (by kernel_rfl)) rfl ?_; exact ⟨zz233, zz58⟩
end Go.Proofs.Ytgejkhbehoabdaa.Q
namespace Go.Proofs.Ytgejkhbehoabdaa.Q
open Go.RowKit Go.Proofs.YtgejkhbehoabdaaW.PrintWords Go.Proofs.YtgejkhbehoabdaaW.PrintLast Go.Proofs.YtgejkhbehoabdaaW.PrintMore
attribute [local go_sem] max2_int min2_int max_two min_two max_three min_three max_four min_four   -- for this text's walks alone
set_option linter.unusedVariables false
set_option linter.unusedSimpArgs false
def laws_FnExactMassOf.j0 : Nat → List (S43) → List (S43) → List (S47) → List (S47) → Bool → Option (Bool)
 | 0, _, _, _, _, _ => none
 | k + 1, x0, x1, x10, x11, x54 => if x54 = true then (some false) else ((laws_toRatS.f k x0).bind fun tA => ((laws_eqRatS.f k x10 tA).bind fun tB => (if tB = true then ((laws_toRatS.f k x1).bind fun tC => ((laws_eqRatS.f k x11 tC).bind fun tD => (if tD = true then (some true) else (some false)))) else (some false))))
def laws_FnExactMassOf.f (k : Nat) (l0 : List (S43)) (l1 : List (S43)) (a2_0 : Int) (a2_1 : Int) (a2_2 : Int) (a2_3 : Int) : Option (Bool) := (laws_szRatS.f l0 1048576).bind fun tA => (if tA < 0 then (some true) else ((laws_szRatS.f l1 tA).bind fun tB => (if tB < 0 then (some true) else ((laws_toRatS.f k l0).bind fun tC => ((laws_toRatS.f k l1).bind fun tD => ((laws_toInterval.f a2_0 a2_1 a2_2 a2_3).bind fun btE => ((spec_MassOf.f k tC tD btE.1 btE.2.1 btE.2.2.1 btE.2.2.2).bind fun btF => ((laws_toRatS.f k l0).bind fun tG => ((laws_toRatS.f k l1).bind fun tH => ((laws_toInterval.f a2_0 a2_1 a2_2 a2_3).bind fun btI => ((impl_MassOf.f k tG tH btI.1 btI.2.1 btI.2.2.1 btI.2.2.2).bind fun btJ => ((laws_eqRat.f btJ.1 btJ.2.1 btF.1 btF.2.1).bind fun tK => (if tK = true then (laws_FnExactMassOf.j0 k l0 l1 tG tH (btJ.2.2 != btF.2.2)) else (laws_FnExactMassOf.j0 k l0 l1 tG tH true))))))))))))))
def laws_FnExactMassOf.T8 : Bool × List (List Nat × List Nat) := (true, [([], []), ([0], [0]), ([], []), ([2, 1], [2]), ([], []), ([4, 3], [4]), ([1, 3, 5, 5], [1, 3, 5]), ([6], [6]), ([7], [7]), ([7], [7]), ([], []), ([10, 8, 6, 0, 1, 2, 3, 4, 5, 6, 7, 8, 10], [8, 10]), ([9, 11, 0, 1, 2, 3, 4, 5, 6, 7, 8, 9, 10, 11], [9])])
def laws_FnExactMassOf.B8 : List Nat := [0, 1, 0, 7, 0, 31, 63, 127, 255, 255, 0, 1535, 4095]
theorem laws_FnExactMassOf.tab8 : rtab .any (opsOf Try.f10 8) = laws_FnExactMassOf.T8 := by kernel_rfl
theorem laws_FnExactMassOf.bits8 : waitsOk laws_FnExactMassOf.T8.2 laws_FnExactMassOf.B8 = true := by kernel_rfl
theorem zz226 {p : Prop} (h : p := by (with_reducible repeat (first | apply Kd.R_alloc | apply Kd.R_drewN | apply Kd.R_drew)); exact HO_11.out) : p := h
theorem zz225 {p : Prop} (h : p := by (with_reducible repeat (first | apply Kd.R_alloc | apply Kd.R_drewN | apply Kd.R_drew)); exact HO_10.out) : p := h
theorem zz219 {p : Prop} (h : p := by (with_reducible repeat (first | apply Kd.R_alloc | apply Kd.R_drewN | apply Kd.R_drew)); exact HOA.out) : p := h
theorem zz218 {p : Prop} (h : p := by (with_reducible repeat (first | apply Kd.R_alloc | apply Kd.R_drewN | apply Kd.R_drew)); exact HOC.out) : p := h
theorem zz217 {p : Prop} (h : p := by (with_reducible repeat (first | apply Kd.R_alloc | apply Kd.R_drewN | apply Kd.R_drew)); exact HOD.out) : p := h
theorem zz216 {p : Prop} (h : p := by (with_reducible repeat (first | apply Kd.R_alloc | apply Kd.R_drewN | apply Kd.R_drew)); exact HOE.out) : p := h
theorem zz215 {p : Prop} (h : p := by (with_reducible repeat (first | apply Kd.R_alloc | apply Kd.R_drewN | apply Kd.R_drew)); exact HOG.out) : p := h
theorem zz214 {p : Prop} (h : p := by (with_reducible repeat (first | apply Kd.R_alloc | apply Kd.R_drewN | apply Kd.R_drew)); exact HOH.out) : p := h
theorem zz195 {p : Prop} (h : p := by (with_reducible repeat (first | refine blk_drewN ?_ _ | refine blk_drew ?_ | refine blk_alloc ?_ _)); exact BKI.out) : p := h
theorem zz194 {p : Prop} (h : p := by (with_reducible repeat (first | refine blk_drewN ?_ _ | refine blk_drew ?_ | refine blk_alloc ?_ _)); exact BKJ.out) : p := h
theorem zz193 {p : Prop} (h : p := by (with_reducible repeat (first | refine blk_drewN ?_ _ | refine blk_drew ?_ | refine blk_alloc ?_ _)); exact BKK.out) : p := h
theorem zz176 {p : Prop} (h : p := by (with_reducible repeat (first | apply Kd.R_alloc | apply Kd.R_drewN | apply Kd.R_drew)); exact Kd.R_mono HOH.out (fun _ hk => hk.2)) : p := h
theorem zz139 {p : Prop} (h : p := by repeat (first | (with_reducible first | exact HB.out | apply below_alloc | apply pw_below_drewN | apply below_drew1 | refine below_set ?_ GEK.out) | exact HB.out)) : p := h
theorem zz95 {p : Prop} (h : p := by repeat (first | (with_reducible first | exact HB.out | apply below_alloc | apply pw_below_drewN | apply below_drew1 | refine below_set ?_ GEK.out | refine below_set ?_ GEJ.out) | exact HB.out)) : p := h
theorem zz81 {p : Prop} (h : p := by first | (simp only [putAll, Act.put, List.setIfInBounds_toArray, List.set_cons_zero, List.set_cons_succ]; done) | (simp only [putAll, Act.put, List.setIfInBounds_toArray, List.set_cons_zero, List.set_cons_succ]; rfl)) : p := h
theorem zz70 {p : Prop} (h : p := by repeat (first | (with_reducible first | exact HB.out | apply below_alloc | apply pw_below_drewN | apply below_drew1 | refine below_set ?_ GEK.out | refine below_set ?_ GEJ.out | refine below_set ?_ GEI.out) | exact HB.out)) : p := h
theorem zz54 {p : Prop} (h : p := by (with_reducible repeat (first | apply Kd.R_alloc | apply Kd.R_drewN | apply Kd.R_drew)); exact (Kd.R_mono (Kd.R_far (p := ⟨gbI, 1, none⟩) (Kd.R_far (p := ⟨gbI, 0, none⟩) (Kd.R_mono HOD.out (fun k_ hk => (⟨hk, hk.2⟩ : _ ∧ k_ ≠ gbI))) (fun _ hk => hk.2) (.int .i64 tM)) (fun _ hk => hk.2) (.int .i64 tN)) (fun _ h_ => h_.1))) : p := h
theorem zz53 {p : Prop} (h : p := by (with_reducible repeat (first | apply Kd.R_alloc | apply Kd.R_drewN | apply Kd.R_drew)); exact (Kd.R_mono (Kd.R_far (p := ⟨gbI, 1, none⟩) (Kd.R_far (p := ⟨gbI, 0, none⟩) (Kd.R_mono HOE.out (fun k_ hk => (⟨hk, hk.2⟩ : _ ∧ k_ ≠ gbI))) (fun _ hk => hk.2) (.int .i64 tM)) (fun _ hk => hk.2) (.int .i64 tN)) (fun _ h_ => h_.1))) : p := h
theorem zz52 {p : Prop} (h : p := by (with_reducible repeat (first | apply Kd.R_alloc | apply Kd.R_drewN | apply Kd.R_drew)); exact (Kd.R_mono (Kd.R_far (p := ⟨gbI, 1, none⟩) (Kd.R_far (p := ⟨gbI, 0, none⟩) (Kd.R_mono HOG.out (fun k_ hk => (⟨hk, hk.2⟩ : _ ∧ k_ ≠ gbI))) (fun _ hk => hk.2) (.int .i64 tM)) (fun _ hk => hk.2) (.int .i64 tN)) (fun _ h_ => h_.1))) : p := h
theorem zz51 {p : Prop} (h : p := by (with_reducible repeat (first | apply Kd.R_alloc | apply Kd.R_drewN | apply Kd.R_drew)); exact (Kd.R_mono (Kd.R_far (p := ⟨gbI, 1, none⟩) (Kd.R_far (p := ⟨gbI, 0, none⟩) (Kd.R_mono HOH.out (fun k_ hk => (⟨hk, hk.2⟩ : _ ∧ k_ ≠ gbI))) (fun _ hk => hk.2) (.int .i64 tM)) (fun _ hk => hk.2) (.int .i64 tN)) (fun _ h_ => h_.1))) : p := h
theorem zz50 {p : Prop} (h : p := by (with_reducible repeat (first | apply Kd.R_alloc | apply Kd.R_drewN | apply Kd.R_drew)); exact (Kd.R_mono (Kd.R_far (p := ⟨gbJ, 1, none⟩) (Kd.R_far (p := ⟨gbJ, 0, none⟩) (Kd.R_mono HOG.out (fun k_ hk => (⟨hk, hk.2⟩ : _ ∧ k_ ≠ gbJ))) (fun _ hk => hk.2) (.int .i64 tO)) (fun _ hk => hk.2) (.int .i64 tP)) (fun _ h_ => h_.1))) : p := h
theorem zz49 {p : Prop} (h : p := by (with_reducible repeat (first | apply Kd.R_alloc | apply Kd.R_drewN | apply Kd.R_drew)); exact (Kd.R_mono (Kd.R_far (p := ⟨gbJ, 1, none⟩) (Kd.R_far (p := ⟨gbJ, 0, none⟩) (Kd.R_mono HOH.out (fun k_ hk => (⟨hk, hk.2⟩ : _ ∧ k_ ≠ gbJ))) (fun _ hk => hk.2) (.int .i64 tO)) (fun _ hk => hk.2) (.int .i64 tP)) (fun _ h_ => h_.1))) : p := h
theorem zz41 {p : Prop} (h : p := by (with_reducible repeat (first | refine blk_drewN ?_ _ | refine blk_drew ?_ | refine blk_alloc ?_ _)); refine blk_far ?_ NBJ_I.out _; (with_reducible repeat (first | refine blk_drewN ?_ _ | refine blk_drew ?_ | refine blk_alloc ?_ _)); refine blk_far ?_ NBJ_I.out _; (with_reducible repeat (first | refine blk_drewN ?_ _ | refine blk_drew ?_ | refine blk_alloc ?_ _)); exact BKJ.out) : p := h
theorem zz40 {p : Prop} (h : p := by (with_reducible repeat (first | refine blk_drewN ?_ _ | refine blk_drew ?_ | refine blk_alloc ?_ _)); refine blk_far ?_ NBK_I.out _; (with_reducible repeat (first | refine blk_drewN ?_ _ | refine blk_drew ?_ | refine blk_alloc ?_ _)); refine blk_far ?_ NBK_I.out _; (with_reducible repeat (first | refine blk_drewN ?_ _ | refine blk_drew ?_ | refine blk_alloc ?_ _)); exact BKK.out) : p := h
theorem zz34 {p : Prop} (h : p := by (with_reducible repeat (first | refine blk_drewN ?_ _ | refine blk_drew ?_ | refine blk_alloc ?_ _)); refine blk_put (cs := #[.int .i64 tM, .int .i64 0]) ?_ 1 _ rfl; (with_reducible repeat (first | refine blk_drewN ?_ _ | refine blk_drew ?_ | refine blk_alloc ?_ _)); refine blk_put (cs := #[.int .i64 0, .int .i64 0]) ?_ 0 _ rfl; (with_reducible repeat (first | refine blk_drewN ?_ _ | refine blk_drew ?_ | refine blk_alloc ?_ _)); exact BKI.out) : p := h
theorem zz33 {p : Prop} (h : p := by (with_reducible repeat (first | refine blk_drewN ?_ _ | refine blk_drew ?_ | refine blk_alloc ?_ _)); refine blk_put (cs := #[.int .i64 tO, .int .i64 0]) ?_ 1 _ rfl; (with_reducible repeat (first | refine blk_drewN ?_ _ | refine blk_drew ?_ | refine blk_alloc ?_ _)); refine blk_put (cs := #[.int .i64 0, .int .i64 0]) ?_ 0 _ rfl; (with_reducible repeat (first | refine blk_drewN ?_ _ | refine blk_drew ?_ | refine blk_alloc ?_ _)); exact BKJ.out) : p := h
set_option maxHeartbeats 8000000 in
set_option maxRecDepth 100000 in
theorem laws_FnExactMassOf.calls (k : Nat) (A0 : Option Addr) (c0 : Nat) (l0 : List (S43)) (A1 : Option Addr) (c1 : Nat) (l1 : List (S43)) (a2_0 : Int) (a2_1 : Int) (a2_2 : Int) (a2_3 : Int) (r : Bool) (w : World) (hr0 : Kd.C k43 w A0 l0.length l0) (hc0 : l0.length ≤ c0) (hr1 : Kd.C k43 w A1 l1.length l1) (hc1 : l1.length ≤ c1) (h : laws_FnExactMassOf.f k l0 l1 a2_0 a2_1 a2_2 a2_3 = some r) :
  Calls Try.prog 10 #[.slice A0 l0.length c0, .slice A1 l1.length c1, .agg #[.int .i64 a2_0, .int .i64 a2_1, .int .i64 a2_2, .int .i64 a2_3]] w fun e w' => e = .returned (.bool r) ∧ Below w.heap.size w w' := by
 have hu60 := Try.underlying60; have hu47 := Try.underlying47; have HR0 := Aside0.mk hr0; have HC0 := Aside0.mk hc0; clear hr0 hc0; have HR1 := Aside0.mk hr1; have HC1 := Aside0.mk hc1; clear hr1 hc1; have HB := Aside0.mk (Below.refl w.heap.size w); have H : ((laws_szRatS.f l0 1048576).bind fun tQ => (if tQ < 0 then (some true) else ((laws_szRatS.f l1 tQ).bind fun tR => (if tR < 0 then (some true) else ((laws_toRatS.f k l0).bind fun tS => ((laws_toRatS.f k l1).bind fun tU => ((laws_toInterval.f a2_0 a2_1 a2_2 a2_3).bind fun btV => ((spec_MassOf.f k tS tU btV.1 btV.2.1 btV.2.2.1 btV.2.2.2).bind fun btO => ((laws_toRatS.f k l0).bind fun tW => ((laws_toRatS.f k l1).bind fun tX => ((laws_toInterval.f a2_0 a2_1 a2_2 a2_3).bind fun btY => ((impl_MassOf.f k tW tX btY.1 btY.2.1 btY.2.2.1 btY.2.2.2).bind fun btM => ((laws_eqRat.f btM.1 btM.2.1 btO.1 btO.2.1).bind fun tZ => (if tZ = true then (laws_FnExactMassOf.j0 k l0 l1 tW tX (btM.2.2 != btO.2.2)) else (laws_FnExactMassOf.j0 k l0 l1 tW tX true))))))))))))))) = some r := h; clear h; replace H := Option.bind_eq_some_iff.mp H; obtain ⟨tQ, A40, H⟩ := H; replace H : (if tQ < 0 then (some true) else ((laws_szRatS.f l1 tQ).bind fun tR => (if tR < 0 then (some true) else ((laws_toRatS.f k l0).bind fun tS => ((laws_toRatS.f k l1).bind fun tU => ((laws_toInterval.f a2_0 a2_1 a2_2 a2_3).bind fun btV => ((spec_MassOf.f k tS tU btV.1 btV.2.1 btV.2.2.1 btV.2.2.2).bind fun btO => ((laws_toRatS.f k l0).bind fun tW => ((laws_toRatS.f k l1).bind fun tX => ((laws_toInterval.f a2_0 a2_1 a2_2 a2_3).bind fun btY => ((impl_MassOf.f k tW tX btY.1 btY.2.1 btY.2.2.1 btY.2.2.2).bind fun btM => ((laws_eqRat.f btM.1 btM.2.1 btO.1 btO.2.1).bind fun tZ => (if tZ = true then (laws_FnExactMassOf.j0 k l0 l1 tW tX (btM.2.2 != btO.2.2)) else (laws_FnExactMassOf.j0 k l0 l1 tW tX true)))))))))))))) = some r := H; have A4 := Aside0.mk A40; clear A40; by_cases c5 : tQ < 0
 ·rw [if_pos c5] at H; have c5b0 : decide (tQ < 0) = true := decide_eq_true c5; clear c5; obtain rfl := Option.some.inj H; go_enter Try.func10, Try.ntmps10
  go_wp2_with (first | ((with_reducible refine gate_dst (N := 5) rfl ?_); refine boxE 5 #[.int .i64 a2_0, .int .i64 a2_1, .int .i64 a2_2, .int .i64 a2_3] 60 ?_; intro gbK hg w6 hbox hb; have GWK := gwA (below_size zz177) hg; have GEK := GWK; have BKK := Aside0.mk (hbox); replace HB := Aside0.mk (below_step zz177 hb); clear hb hbox hg) | ((with_reducible refine gate_callee (f := 15) rfl ?_); refine goesL_ (some 16) rfl rfl Try.func15 (by kernel_rfl) rfl #[.slice A0 l0.length c0, .int .i64 1048576] rfl zz175 ?_; (with_reducible refine (laws_szRatS.calls _ _ l0 1048576 tQ _ ?side1 ?side2 A4.out).mono ?_); (case side1 => repeat (first | exact (Kd.C_below HR0.out HB.out) | (with_reducible refine Kd.C_alloc ?_ _) | (with_reducible refine Kd.C_drewN ?_ _) | (with_reducible refine Kd.C_drew ?_))); (case side2 => exact HC0.out); rintro e w' ⟨rfl, ⟨nd, rfl⟩⟩; refine ⟨_, rfl, ?_⟩))
  go_ret
  exact ⟨zz233, zz139⟩
 ·rw [if_neg c5] at H; have c5b0 : decide (tQ < 0) = false := decide_eq_false c5; clear c5; replace H := Option.bind_eq_some_iff.mp H; obtain ⟨tR, A70, H⟩ := H; replace H : (if tR < 0 then (some true) else ((laws_toRatS.f k l0).bind fun tS => ((laws_toRatS.f k l1).bind fun tU => ((laws_toInterval.f a2_0 a2_1 a2_2 a2_3).bind fun btV => ((spec_MassOf.f k tS tU btV.1 btV.2.1 btV.2.2.1 btV.2.2.2).bind fun btO => ((laws_toRatS.f k l0).bind fun tW => ((laws_toRatS.f k l1).bind fun tX => ((laws_toInterval.f a2_0 a2_1 a2_2 a2_3).bind fun btY => ((impl_MassOf.f k tW tX btY.1 btY.2.1 btY.2.2.1 btY.2.2.2).bind fun btM => ((laws_eqRat.f btM.1 btM.2.1 btO.1 btO.2.1).bind fun tZ => (if tZ = true then (laws_FnExactMassOf.j0 k l0 l1 tW tX (btM.2.2 != btO.2.2)) else (laws_FnExactMassOf.j0 k l0 l1 tW tX true)))))))))))) = some r := H; have A7 := Aside0.mk A70; clear A70; by_cases c8 : tR < 0
  ·rw [if_pos c8] at H; have c8b0 : decide (tR < 0) = true := decide_eq_true c8; clear c8; obtain rfl := Option.some.inj H; go_enter Try.func10, Try.ntmps10
   go_wp2_with (first | ((with_reducible refine gate_dst (N := 5) rfl ?_); refine boxE 5 #[.int .i64 a2_0, .int .i64 a2_1, .int .i64 a2_2, .int .i64 a2_3] 60 ?_; intro gbK hg w9 hbox hb; have GWK := gwA (below_size zz177) hg; have GEK := GWK; have BKK := Aside0.mk (hbox); replace HB := Aside0.mk (below_step zz177 hb); clear hb hbox hg) | ((with_reducible refine gate_callee (f := 15) rfl ?_); refine goesL_ (some 16) rfl rfl Try.func15 (by kernel_rfl) rfl #[.slice A0 l0.length c0, .int .i64 1048576] rfl zz175 ?_; (with_reducible refine (laws_szRatS.calls _ _ l0 1048576 tQ _ ?side1 ?side2 A4.out).mono ?_); (case side1 => repeat (first | exact (Kd.C_below HR0.out HB.out) | (with_reducible refine Kd.C_alloc ?_ _) | (with_reducible refine Kd.C_drewN ?_ _) | (with_reducible refine Kd.C_drew ?_))); (case side2 => exact HC0.out); rintro e w' ⟨rfl, ⟨nd, rfl⟩⟩; refine ⟨_, rfl, ?_⟩) | ((with_reducible refine gate_callee (f := 15) rfl ?_); refine goesL_ (some 21) rfl rfl Try.func15 (by kernel_rfl) rfl #[.slice A1 l1.length c1, .int .i64 tQ] rfl zz175 ?_; (with_reducible refine (laws_szRatS.calls _ _ l1 tQ tR _ ?side1 ?side2 A7.out).mono ?_); (case side1 => repeat (first | exact (Kd.C_below HR1.out zz139) | (with_reducible refine Kd.C_alloc ?_ _) | (with_reducible refine Kd.C_drewN ?_ _) | (with_reducible refine Kd.C_drew ?_))); (case side2 => exact HC1.out); rintro e w' ⟨rfl, ⟨nd, rfl⟩⟩; refine ⟨_, rfl, ?_⟩))
   go_ret
   exact ⟨zz233, zz139⟩
  ·rw [if_neg c8] at H; have c8b0 : decide (tR < 0) = false := decide_eq_false c8; clear c8; replace H := Option.bind_eq_some_iff.mp H; obtain ⟨tS, AAA, H⟩ := H; replace H : ((laws_toRatS.f k l1).bind fun tU => ((laws_toInterval.f a2_0 a2_1 a2_2 a2_3).bind fun btV => ((spec_MassOf.f k tS tU btV.1 btV.2.1 btV.2.2.1 btV.2.2.2).bind fun btO => ((laws_toRatS.f k l0).bind fun tW => ((laws_toRatS.f k l1).bind fun tX => ((laws_toInterval.f a2_0 a2_1 a2_2 a2_3).bind fun btY => ((impl_MassOf.f k tW tX btY.1 btY.2.1 btY.2.2.1 btY.2.2.2).bind fun btM => ((laws_eqRat.f btM.1 btM.2.1 btO.1 btO.2.1).bind fun tZ => (if tZ = true then (laws_FnExactMassOf.j0 k l0 l1 tW tX (btM.2.2 != btO.2.2)) else (laws_FnExactMassOf.j0 k l0 l1 tW tX true)))))))))) = some r := H; have A10 := Aside0.mk AAA; clear AAA; replace H := Option.bind_eq_some_iff.mp H; obtain ⟨tU, AAB, H⟩ := H; replace H : ((laws_toInterval.f a2_0 a2_1 a2_2 a2_3).bind fun btV => ((spec_MassOf.f k tS tU btV.1 btV.2.1 btV.2.2.1 btV.2.2.2).bind fun btO => ((laws_toRatS.f k l0).bind fun tW => ((laws_toRatS.f k l1).bind fun tX => ((laws_toInterval.f a2_0 a2_1 a2_2 a2_3).bind fun btY => ((impl_MassOf.f k tW tX btY.1 btY.2.1 btY.2.2.1 btY.2.2.2).bind fun btM => ((laws_eqRat.f btM.1 btM.2.1 btO.1 btO.2.1).bind fun tZ => (if tZ = true then (laws_FnExactMassOf.j0 k l0 l1 tW tX (btM.2.2 != btO.2.2)) else (laws_FnExactMassOf.j0 k l0 l1 tW tX true))))))))) = some r := H; have A11 := Aside0.mk AAB; clear AAB; replace H := Option.bind_eq_some_iff.mp H; obtain ⟨⟨tV, tAC, tAD, tAE⟩, AAF, H⟩ := H; replace H : ((spec_MassOf.f k tS tU tV tAC tAD tAE).bind fun btO => ((laws_toRatS.f k l0).bind fun tW => ((laws_toRatS.f k l1).bind fun tX => ((laws_toInterval.f a2_0 a2_1 a2_2 a2_3).bind fun btY => ((impl_MassOf.f k tW tX btY.1 btY.2.1 btY.2.2.1 btY.2.2.2).bind fun btM => ((laws_eqRat.f btM.1 btM.2.1 btO.1 btO.2.1).bind fun tZ => (if tZ = true then (laws_FnExactMassOf.j0 k l0 l1 tW tX (btM.2.2 != btO.2.2)) else (laws_FnExactMassOf.j0 k l0 l1 tW tX true)))))))) = some r := H; have A12 := Aside0.mk AAF; clear AAF; replace H := Option.bind_eq_some_iff.mp H; obtain ⟨⟨tO, tP, tAG⟩, AAH, H⟩ := H; replace H : ((laws_toRatS.f k l0).bind fun tW => ((laws_toRatS.f k l1).bind fun tX => ((laws_toInterval.f a2_0 a2_1 a2_2 a2_3).bind fun btY => ((impl_MassOf.f k tW tX btY.1 btY.2.1 btY.2.2.1 btY.2.2.2).bind fun btM => ((laws_eqRat.f btM.1 btM.2.1 tO tP).bind fun tZ => (if tZ = true then (laws_FnExactMassOf.j0 k l0 l1 tW tX (btM.2.2 != tAG)) else (laws_FnExactMassOf.j0 k l0 l1 tW tX true))))))) = some r := H; have A13 := Aside0.mk AAH; clear AAH; replace H := Option.bind_eq_some_iff.mp H; obtain ⟨tW, AAI, H⟩ := H; replace H : ((laws_toRatS.f k l1).bind fun tX => ((laws_toInterval.f a2_0 a2_1 a2_2 a2_3).bind fun btY => ((impl_MassOf.f k tW tX btY.1 btY.2.1 btY.2.2.1 btY.2.2.2).bind fun btM => ((laws_eqRat.f btM.1 btM.2.1 tO tP).bind fun tZ => (if tZ = true then (laws_FnExactMassOf.j0 k l0 l1 tW tX (btM.2.2 != tAG)) else (laws_FnExactMassOf.j0 k l0 l1 tW tX true)))))) = some r := H; have A14 := Aside0.mk AAI; clear AAI; replace H := Option.bind_eq_some_iff.mp H; obtain ⟨tX, AAJ, H⟩ := H; replace H : ((laws_toInterval.f a2_0 a2_1 a2_2 a2_3).bind fun btY => ((impl_MassOf.f k tW tX btY.1 btY.2.1 btY.2.2.1 btY.2.2.2).bind fun btM => ((laws_eqRat.f btM.1 btM.2.1 tO tP).bind fun tZ => (if tZ = true then (laws_FnExactMassOf.j0 k l0 l1 tW tX (btM.2.2 != tAG)) else (laws_FnExactMassOf.j0 k l0 l1 tW tX true))))) = some r := H; have A15 := Aside0.mk AAJ; clear AAJ; replace H := Option.bind_eq_some_iff.mp H; obtain ⟨⟨tY, tAK, tAL, tAM⟩, AAN, H⟩ := H; replace H : ((impl_MassOf.f k tW tX tY tAK tAL tAM).bind fun btM => ((laws_eqRat.f btM.1 btM.2.1 tO tP).bind fun tZ => (if tZ = true then (laws_FnExactMassOf.j0 k l0 l1 tW tX (btM.2.2 != tAG)) else (laws_FnExactMassOf.j0 k l0 l1 tW tX true)))) = some r := H; have A16 := Aside0.mk AAN; clear AAN; replace H := Option.bind_eq_some_iff.mp H; obtain ⟨⟨tM, tN, tAO⟩, AAP, H⟩ := H; replace H : ((laws_eqRat.f tM tN tO tP).bind fun tZ => (if tZ = true then (laws_FnExactMassOf.j0 k l0 l1 tW tX (tAO != tAG)) else (laws_FnExactMassOf.j0 k l0 l1 tW tX true))) = some r := H; have A17 := Aside0.mk AAP; clear AAP; have HC18 := Aside0.mk H; clear H; go_enter Try.func10, Try.ntmps10
   try go_wp2_with (first | ((with_reducible refine gate_dst (N := 5) rfl ?_); refine boxE 5 #[.int .i64 a2_0, .int .i64 a2_1, .int .i64 a2_2, .int .i64 a2_3] 60 ?_; intro gbK hg w19 hbox hb; have GWK := gwA (below_size zz177) hg; have GEK := GWK; have BKK := Aside0.mk (hbox); replace HB := Aside0.mk (below_step zz177 hb); clear hb hbox hg) | ((with_reducible refine gate_callee (f := 15) rfl ?_); refine goesL_ (some 16) rfl rfl Try.func15 (by kernel_rfl) rfl #[.slice A0 l0.length c0, .int .i64 1048576] rfl zz175 ?_; (with_reducible refine (laws_szRatS.calls _ _ l0 1048576 tQ _ ?side1 ?side2 A4.out).mono ?_); (case side1 => repeat (first | exact (Kd.C_below HR0.out HB.out) | (with_reducible refine Kd.C_alloc ?_ _) | (with_reducible refine Kd.C_drewN ?_ _) | (with_reducible refine Kd.C_drew ?_))); (case side2 => exact HC0.out); rintro e w' ⟨rfl, ⟨nd, rfl⟩⟩; refine ⟨_, rfl, ?_⟩; (try (rw [drewN_self w19]; generalize hq_ : World.drewN w19 _ = w19; have n0_ : Aside0 (w19.heap[gbK]? = some (.cells #[.int .i64 a2_0, .int .i64 a2_1, .int .i64 a2_2, .int .i64 a2_3] 60 (0, 0))) := ⟨by rw [← hq_]; exact zz193⟩; have n1_ : Aside0 (Below w.heap.size w w19) := ⟨by rw [← hq_]; exact zz139⟩; clear BKK HB hq_; have BKK := n0_; have HB := n1_; clear n0_ n1_))) | ((with_reducible refine gate_callee (f := 15) rfl ?_); refine goesL_ (some 21) rfl rfl Try.func15 (by kernel_rfl) rfl #[.slice A1 l1.length c1, .int .i64 tQ] rfl zz175 ?_; (with_reducible refine (laws_szRatS.calls _ _ l1 tQ tR _ ?side1 ?side2 A7.out).mono ?_); (case side1 => repeat (first | exact (Kd.C_below HR1.out HB.out) | (with_reducible refine Kd.C_alloc ?_ _) | (with_reducible refine Kd.C_drewN ?_ _) | (with_reducible refine Kd.C_drew ?_))); (case side2 => exact HC1.out); rintro e w' ⟨rfl, ⟨nd, rfl⟩⟩; refine ⟨_, rfl, ?_⟩; (try (rw [drewN_self w19]; generalize hq_ : World.drewN w19 _ = w19; have n0_ : Aside0 (w19.heap[gbK]? = some (.cells #[.int .i64 a2_0, .int .i64 a2_1, .int .i64 a2_2, .int .i64 a2_3] 60 (0, 0))) := ⟨by rw [← hq_]; exact zz193⟩; have n1_ : Aside0 (Below w.heap.size w w19) := ⟨by rw [← hq_]; exact zz139⟩; clear BKK HB hq_; have BKK := n0_; have HB := n1_; clear n0_ n1_))))
   replace BKK := Aside0.mk (blk_drew BKK.out); replace HB := Aside0.mk (below_drew1 HB.out); refine start_ (n := 13) (S := fun w' => w'.cell? ⟨gbK, 0, none⟩ = some (.int .i64 a2_0) ∧ w'.cell? ⟨gbK, 1, none⟩ = some (.int .i64 a2_1) ∧ w'.cell? ⟨gbK, 2, none⟩ = some (.int .i64 a2_2) ∧ w'.cell? ⟨gbK, 3, none⟩ = some (.int .i64 a2_3)) (ds := []) (.replicate 13 fF) (by kernel_rfl) rfl rfl ⟨bcA BKK 0, bcA BKK 1, bcA BKK 2, bcA BKK 3⟩ (fun hHeld => ?_); refine with_tabW laws_FnExactMassOf.tab8 laws_FnExactMassOf.bits8 (fun HT_ HW_ => ?_); generalize w19.drew = w20 at BKK HB hHeld ⊢; refine pureA 0 (some 25) (bB 13 1) HT_ ?_; refine pureA 2 (some 27) (bB 13 5) HT_ ?_; refine takeA0 4 (some 29) (bB 13 21) HT_ HW_ hHeld ?_; refine join_ (σ := Value × Value × Nat) 2 (bB 13 2047) (fun s_ => [(26, s_.1), (28, s_.2.1), (30, .agg #[.int .i64 tV, .int .i64 tAC, .int .i64 tAD, .int .i64 tAE]), (31, .tuple #[.agg #[.int .i64 tO, .int .i64 tP], .bool tAG]), (8, .pointer (some ⟨s_.2.2, 0, none⟩)), (24, .tuple #[.agg #[.int .i64 tO, .int .i64 tP], .bool tAG]), (32, .agg #[.int .i64 tO, .int .i64 tP]), (33, .bool tAG)]) (fun s_ w' => (w'.cell? ⟨gbK, 0, none⟩ = some (.int .i64 a2_0) ∧ w'.cell? ⟨gbK, 1, none⟩ = some (.int .i64 a2_1) ∧ w'.cell? ⟨gbK, 2, none⟩ = some (.int .i64 a2_2) ∧ w'.cell? ⟨gbK, 3, none⟩ = some (.int .i64 a2_3)) ∧ (Kd.R k47 47 w' w.heap.size (fun k_ => some k_ ≠ (s_.2.1 : Value).ownBlock ∧ k_ ≠ s_.2.2) s_.1 tS) ∧ (Kd.R k47 47 w' w.heap.size (fun k_ => some k_ ≠ (s_.1 : Value).ownBlock ∧ k_ ≠ s_.2.2) s_.2.1 tU) ∧ (w'.heap[gbK]? = some (.cells #[.int .i64 a2_0, .int .i64 a2_1, .int .i64 a2_2, .int .i64 a2_3] 60 (0, 0))) ∧ (w'.heap[s_.2.2]? = some (.cells #[.int .i64 0, .int .i64 0] 47 (0, 0))) ∧ (w.heap.size ≤ s_.2.2) ∧ (w.heap.size ≤ s_.2.2) ∧ (gbK ≠ s_.2.2) ∧ (s_.2.2 ≠ gbK) ∧ (Below w.heap.size w w')) ?_ ?_; rotate_left
   ·intro hJ1_3_5_6_10; refine join_ (σ := Value × Value) 3 (bB 13 1023) (fun s_ => [(26, s_.1), (28, s_.2), (30, .agg #[.int .i64 tV, .int .i64 tAC, .int .i64 tAD, .int .i64 tAE]), (31, .tuple #[.agg #[.int .i64 tO, .int .i64 tP], .bool tAG]), (24, .tuple #[.agg #[.int .i64 tO, .int .i64 tP], .bool tAG]), (32, .agg #[.int .i64 tO, .int .i64 tP]), (33, .bool tAG)]) (fun s_ w' => (w'.cell? ⟨gbK, 0, none⟩ = some (.int .i64 a2_0) ∧ w'.cell? ⟨gbK, 1, none⟩ = some (.int .i64 a2_1) ∧ w'.cell? ⟨gbK, 2, none⟩ = some (.int .i64 a2_2) ∧ w'.cell? ⟨gbK, 3, none⟩ = some (.int .i64 a2_3)) ∧ (Kd.R k47 47 w' w.heap.size (fun k_ => some k_ ≠ (s_.2 : Value).ownBlock) s_.1 tS) ∧ (Kd.R k47 47 w' w.heap.size (fun k_ => some k_ ≠ (s_.1 : Value).ownBlock) s_.2 tU) ∧ (w'.heap[gbK]? = some (.cells #[.int .i64 a2_0, .int .i64 a2_1, .int .i64 a2_2, .int .i64 a2_3] 60 (0, 0))) ∧ (Below w.heap.size w w')) ?_ ?_; rotate_left
    ·intro hJ1_3_5_6; refine join_ (σ := Value × Value × Nat) 6 (bB 13 1087) (fun s_ => [(26, s_.1), (28, s_.2.1), (30, .agg #[.int .i64 tV, .int .i64 tAC, .int .i64 tAD, .int .i64 tAE]), (8, .pointer (some ⟨s_.2.2, 0, none⟩))]) (fun s_ w' => (w'.cell? ⟨gbK, 0, none⟩ = some (.int .i64 a2_0) ∧ w'.cell? ⟨gbK, 1, none⟩ = some (.int .i64 a2_1) ∧ w'.cell? ⟨gbK, 2, none⟩ = some (.int .i64 a2_2) ∧ w'.cell? ⟨gbK, 3, none⟩ = some (.int .i64 a2_3)) ∧ (Kd.R k47 47 w' w.heap.size (fun k_ => some k_ ≠ (s_.2.1 : Value).ownBlock ∧ k_ ≠ s_.2.2) s_.1 tS) ∧ (Kd.R k47 47 w' w.heap.size (fun k_ => some k_ ≠ (s_.1 : Value).ownBlock ∧ k_ ≠ s_.2.2) s_.2.1 tU) ∧ (w'.heap[gbK]? = some (.cells #[.int .i64 a2_0, .int .i64 a2_1, .int .i64 a2_2, .int .i64 a2_3] 60 (0, 0))) ∧ (w'.heap[s_.2.2]? = some (.cells #[.int .i64 0, .int .i64 0] 47 (0, 0))) ∧ (w.heap.size ≤ s_.2.2) ∧ (w.heap.size ≤ s_.2.2) ∧ (gbK ≠ s_.2.2) ∧ (s_.2.2 ≠ gbK) ∧ (Below w.heap.size w w')) ?_ ?_; rotate_left
     ·intro hJ1_3_5_10; refine join_ (σ := Value × Value) 7 (bB 13 63) (fun s_ => [(26, s_.1), (28, s_.2), (30, .agg #[.int .i64 tV, .int .i64 tAC, .int .i64 tAD, .int .i64 tAE])]) (fun s_ w' => (w'.cell? ⟨gbK, 0, none⟩ = some (.int .i64 a2_0) ∧ w'.cell? ⟨gbK, 1, none⟩ = some (.int .i64 a2_1) ∧ w'.cell? ⟨gbK, 2, none⟩ = some (.int .i64 a2_2) ∧ w'.cell? ⟨gbK, 3, none⟩ = some (.int .i64 a2_3)) ∧ (Kd.R k47 47 w' w.heap.size (fun k_ => some k_ ≠ (s_.2 : Value).ownBlock) s_.1 tS) ∧ (Kd.R k47 47 w' w.heap.size (fun k_ => some k_ ≠ (s_.1 : Value).ownBlock) s_.2 tU) ∧ (w'.heap[gbK]? = some (.cells #[.int .i64 a2_0, .int .i64 a2_1, .int .i64 a2_2, .int .i64 a2_3] 60 (0, 0))) ∧ (Below w.heap.size w w')) ?_ ?_; rotate_left
      ·intro hJ1_3_5; refine join_ (σ := Value × Value × Nat) 7 (bB 13 1055) (fun s_ => [(26, s_.1), (28, s_.2.1), (8, .pointer (some ⟨s_.2.2, 0, none⟩))]) (fun s_ w' => (w'.cell? ⟨gbK, 0, none⟩ = some (.int .i64 a2_0) ∧ w'.cell? ⟨gbK, 1, none⟩ = some (.int .i64 a2_1) ∧ w'.cell? ⟨gbK, 2, none⟩ = some (.int .i64 a2_2) ∧ w'.cell? ⟨gbK, 3, none⟩ = some (.int .i64 a2_3)) ∧ (Kd.R k47 47 w' w.heap.size (fun k_ => some k_ ≠ (s_.2.1 : Value).ownBlock ∧ k_ ≠ s_.2.2) s_.1 tS) ∧ (Kd.R k47 47 w' w.heap.size (fun k_ => some k_ ≠ (s_.1 : Value).ownBlock ∧ k_ ≠ s_.2.2) s_.2.1 tU) ∧ (w'.heap[gbK]? = some (.cells #[.int .i64 a2_0, .int .i64 a2_1, .int .i64 a2_2, .int .i64 a2_3] 60 (0, 0))) ∧ (w'.heap[s_.2.2]? = some (.cells #[.int .i64 0, .int .i64 0] 47 (0, 0))) ∧ (w.heap.size ≤ s_.2.2) ∧ (w.heap.size ≤ s_.2.2) ∧ (gbK ≠ s_.2.2) ∧ (s_.2.2 ≠ gbK) ∧ (Below w.heap.size w w')) ?_ ?_; rotate_left
       ·intro hJ1_3_10; refine join_ (σ := Value × Value) 8 (bB 13 31) (fun s_ => [(26, s_.1), (28, s_.2)]) (fun s_ w' => (w'.cell? ⟨gbK, 0, none⟩ = some (.int .i64 a2_0) ∧ w'.cell? ⟨gbK, 1, none⟩ = some (.int .i64 a2_1) ∧ w'.cell? ⟨gbK, 2, none⟩ = some (.int .i64 a2_2) ∧ w'.cell? ⟨gbK, 3, none⟩ = some (.int .i64 a2_3)) ∧ (Kd.R k47 47 w' w.heap.size (fun k_ => some k_ ≠ (s_.2 : Value).ownBlock) s_.1 tS) ∧ (Kd.R k47 47 w' w.heap.size (fun k_ => some k_ ≠ (s_.1 : Value).ownBlock) s_.2 tU) ∧ (w'.heap[gbK]? = some (.cells #[.int .i64 a2_0, .int .i64 a2_1, .int .i64 a2_2, .int .i64 a2_3] 60 (0, 0))) ∧ (Below w.heap.size w w')) ?_ ?_; rotate_left
        ·intro hJ1_3; refine join_ (σ := Value × Nat) 8 (bB 13 1047) (fun s_ => [(26, s_.1), (8, .pointer (some ⟨s_.2, 0, none⟩))]) (fun s_ w' => (w'.cell? ⟨gbK, 0, none⟩ = some (.int .i64 a2_0) ∧ w'.cell? ⟨gbK, 1, none⟩ = some (.int .i64 a2_1) ∧ w'.cell? ⟨gbK, 2, none⟩ = some (.int .i64 a2_2) ∧ w'.cell? ⟨gbK, 3, none⟩ = some (.int .i64 a2_3)) ∧ (Kd.R k47 47 w' w.heap.size (fun k_ => k_ ≠ s_.2) s_.1 tS) ∧ (w'.heap[gbK]? = some (.cells #[.int .i64 a2_0, .int .i64 a2_1, .int .i64 a2_2, .int .i64 a2_3] 60 (0, 0))) ∧ (w'.heap[s_.2]? = some (.cells #[.int .i64 0, .int .i64 0] 47 (0, 0))) ∧ (w.heap.size ≤ s_.2) ∧ (w.heap.size ≤ s_.2) ∧ (gbK ≠ s_.2) ∧ (s_.2 ≠ gbK) ∧ (Below w.heap.size w w')) ?_ ?_; rotate_left
         ·intro hJ1_10; refine join_ (σ := Value) 9 (bB 13 23) (fun s_ => [(26, s_)]) (fun s_ w' => (w'.cell? ⟨gbK, 0, none⟩ = some (.int .i64 a2_0) ∧ w'.cell? ⟨gbK, 1, none⟩ = some (.int .i64 a2_1) ∧ w'.cell? ⟨gbK, 2, none⟩ = some (.int .i64 a2_2) ∧ w'.cell? ⟨gbK, 3, none⟩ = some (.int .i64 a2_3)) ∧ (Kd.R k47 47 w' w.heap.size (fun _ => True) s_ tS) ∧ (w'.heap[gbK]? = some (.cells #[.int .i64 a2_0, .int .i64 a2_1, .int .i64 a2_2, .int .i64 a2_3] 60 (0, 0))) ∧ (Below w.heap.size w w')) ?_ ?_; rotate_left
          ·intro hJ1; refine join_ (σ := Nat) 9 (bB 13 1045) (fun s_ => [(8, .pointer (some ⟨s_, 0, none⟩))]) (fun s_ w' => (w'.cell? ⟨gbK, 0, none⟩ = some (.int .i64 a2_0) ∧ w'.cell? ⟨gbK, 1, none⟩ = some (.int .i64 a2_1) ∧ w'.cell? ⟨gbK, 2, none⟩ = some (.int .i64 a2_2) ∧ w'.cell? ⟨gbK, 3, none⟩ = some (.int .i64 a2_3)) ∧ (w'.heap[gbK]? = some (.cells #[.int .i64 a2_0, .int .i64 a2_1, .int .i64 a2_2, .int .i64 a2_3] 60 (0, 0))) ∧ (w'.heap[s_]? = some (.cells #[.int .i64 0, .int .i64 0] 47 (0, 0))) ∧ (w.heap.size ≤ s_) ∧ (w.heap.size ≤ s_) ∧ (gbK ≠ s_) ∧ (s_ ≠ gbK) ∧ (Below w.heap.size w w')) ?_ ?_; rotate_left
           ·intro hJ10; refine two_ (i := 1) (j := 10) (Ni := some 26) (Nj := some 8) (bB 13 23) (bB 13 1045) rfl rfl rfl rfl (two_of HT_.out (by kernel_rfl)) (by decide) (by decide) (fun K hK => ?_) (fun K hK => ?_)
            ·skip
             refine goes_ Try.func17 (by kernel_rfl) rfl #[.slice A0 l0.length c0] (by rfl) rfl rfl zz175 ?_; with_reducible refine (laws_toRatS.calls k _ _ l0 tS _ ?side1 ?side2 A10.out).mono ?_
             (case side1 => repeat (first | exact (Kd.C_below HR0.out HB.out) | (with_reducible refine Kd.C_alloc ?_ _) | (with_reducible refine Kd.C_drewN ?_ _) | (with_reducible refine Kd.C_drew ?_))); (case side2 => exact HC0.out); rintro e w21 ⟨vAQ, rfl, ho0, hb⟩; refine ⟨_, rfl, ?_⟩; have HOH := Aside0.mk (Kd.R_lower ho0 (below_size zz139)); replace BKK := blkA BKK hb; replace HB := Aside0.mk (below_step zz139 hb); (try clear hb); (try clear ho0); refine hK.out _ _ ⟨bcA BKK 0, bcA BKK 1, bcA BKK 2, bcA BKK 3⟩ (fun hHeld => ?_); clear hK K; refine normA (some 26) ?_; exact norm_ zz81 (hJ1 (vAQ) _ ⟨hHeld, zz214, zz193, zz139⟩)
            ·skip
             refine boxS 8 #[.int .i64 0, .int .i64 0] 47 ?_; intro gbJ hg w21 hbox hb; have GWJ := gwA (below_size zz139) hg; have GEJ := GWJ; have NBK_J := nltA BKK hg; have NBJ_K := ngtA BKK hg; replace BKK := blkA BKK hb; have BKJ := Aside0.mk (hbox); replace HB := Aside0.mk (below_step zz139 hb); clear hb hbox hg; refine hK.out _ _ ⟨bcA BKK 0, bcA BKK 1, bcA BKK 2, bcA BKK 3⟩ (fun hHeld => ?_); clear hK K; refine normA (some 8) ?_; exact norm_ zz81 (hJ10 (gbJ) _ ⟨hHeld, zz193, zz194, GWJ.out, GEJ.out, NBK_J.out, NBJ_K.out, zz95⟩)
           ·skip
            rintro gbJ w22 ⟨hS_, h0_, h1_, h2_, h3_, h4_, h5_, h6_⟩; replace BKK : Aside0 (w22.heap[gbK]? = some (.cells #[.int .i64 a2_0, .int .i64 a2_1, .int .i64 a2_2, .int .i64 a2_3] 60 (0, 0))) := ⟨h0_⟩; have BKJ : Aside0 (w22.heap[gbJ]? = some (.cells #[.int .i64 0, .int .i64 0] 47 (0, 0))) := ⟨h1_⟩; have GWJ : Aside0 (w.heap.size ≤ gbJ) := ⟨h2_⟩; have GEJ : Aside0 (w.heap.size ≤ gbJ) := ⟨h3_⟩; have NBK_J : Aside0 (gbK ≠ gbJ) := ⟨h4_⟩; have NBJ_K : Aside0 (gbJ ≠ gbK) := ⟨h5_⟩; replace HB : Aside0 (Below w.heap.size w w22) := ⟨h6_⟩; clear h0_ h1_ h2_ h3_ h4_ h5_ h6_; have hHeld : w22.cell? ⟨gbK, 0, none⟩ = some (.int .i64 a2_0) ∧ w22.cell? ⟨gbK, 1, none⟩ = some (.int .i64 a2_1) ∧ w22.cell? ⟨gbK, 2, none⟩ = some (.int .i64 a2_2) ∧ w22.cell? ⟨gbK, 3, none⟩ = some (.int .i64 a2_3) := hS_; refine norm_ (a' := ?_) ?_ ?_; rotate_left
            ·simp only [putAll, Act.put, List.setIfInBounds_toArray, List.set_cons_zero, List.set_cons_succ]; rfl
            refine one_ (i := 1) (N := some 26) (bB 13 1047) rfl rfl (one_of HT_.out (by kernel_rfl)) (by decide) (fun K hK => ?_); refine goes_ Try.func17 (by kernel_rfl) rfl #[.slice A0 l0.length c0] (by rfl) rfl rfl zz175 ?_; with_reducible refine (laws_toRatS.calls k _ _ l0 tS _ ?side1 ?side2 A10.out).mono ?_
            (case side1 => repeat (first | exact (Kd.C_below HR0.out HB.out) | (with_reducible refine Kd.C_alloc ?_ _) | (with_reducible refine Kd.C_drewN ?_ _) | (with_reducible refine Kd.C_drew ?_))); (case side2 => exact HC0.out); rintro e w23 ⟨vAQ, rfl, ho0, hb⟩; refine ⟨_, rfl, ?_⟩; have HOH := Aside0.mk (Kd.R_lower (Kd.R_newB ho0 (g := gbJ) (o := .cells #[.int .i64 0, .int .i64 0] 47 (0, 0)) zz194) (below_size zz95)); replace BKK := blkA BKK hb; replace BKJ := blkA BKJ hb; replace HB := Aside0.mk (below_step zz95 hb); (try clear hb); (try clear ho0); refine hK.out _ _ ⟨bcA BKK 0, bcA BKK 1, bcA BKK 2, bcA BKK 3⟩ (fun hHeld => ?_); clear hK K; refine normA (some 26) ?_; exact norm_ zz81 (hJ1_10 (vAQ, gbJ) _ ⟨hHeld, zz176, zz193, zz194, GWJ.out, GEJ.out, NBK_J.out, NBJ_K.out, zz95⟩)
          ·skip
           rintro vAQ w22 ⟨hS_, h0_, h1_, h2_⟩; have HOH : Aside0 (Kd.R k47 47 w22 w.heap.size (fun _ => True) vAQ tS) := ⟨h0_⟩; replace BKK : Aside0 (w22.heap[gbK]? = some (.cells #[.int .i64 a2_0, .int .i64 a2_1, .int .i64 a2_2, .int .i64 a2_3] 60 (0, 0))) := ⟨h1_⟩; replace HB : Aside0 (Below w.heap.size w w22) := ⟨h2_⟩; clear h0_ h1_ h2_; have hHeld : w22.cell? ⟨gbK, 0, none⟩ = some (.int .i64 a2_0) ∧ w22.cell? ⟨gbK, 1, none⟩ = some (.int .i64 a2_1) ∧ w22.cell? ⟨gbK, 2, none⟩ = some (.int .i64 a2_2) ∧ w22.cell? ⟨gbK, 3, none⟩ = some (.int .i64 a2_3) := hS_; refine norm_ (a' := ?_) ?_ ?_; rotate_left
           ·simp only [putAll, Act.put, List.setIfInBounds_toArray, List.set_cons_zero, List.set_cons_succ]; rfl
           refine two_ (i := 3) (j := 10) (Ni := some 28) (Nj := some 8) (bB 13 31) (bB 13 1047) rfl rfl rfl rfl (two_of HT_.out (by kernel_rfl)) (by decide) (by decide) (fun K hK => ?_) (fun K hK => ?_)
           ·skip
            refine goes_ Try.func17 (by kernel_rfl) rfl #[.slice A1 l1.length c1] (by rfl) rfl rfl zz175 ?_; with_reducible refine (laws_toRatS.calls k _ _ l1 tU _ ?side1 ?side2 A11.out).mono ?_
            (case side1 => repeat (first | exact (Kd.C_below HR1.out HB.out) | (with_reducible refine Kd.C_alloc ?_ _) | (with_reducible refine Kd.C_drewN ?_ _) | (with_reducible refine Kd.C_drew ?_))); (case side2 => exact HC1.out); rintro e w23 ⟨vAR, rfl, ho0, hb⟩; refine ⟨_, rfl, ?_⟩; have n0_ := Aside0.mk (Kd.R_elder' zz214 (Kd.R_base ho0) hb); have HOG := Aside0.mk (Kd.R_lower (Kd.R_new' ho0 (Kd.R_lt zz214)) (below_size zz139)); clear HOH; have HOH := n0_; clear n0_; replace BKK := blkA BKK hb; replace HB := Aside0.mk (below_step zz139 hb); (try clear hb); (try clear ho0); refine hK.out _ _ ⟨bcA BKK 0, bcA BKK 1, bcA BKK 2, bcA BKK 3⟩ (fun hHeld => ?_); clear hK K; refine normA (some 28) ?_; exact norm_ zz81 (hJ1_3 (vAQ, vAR) _ ⟨hHeld, zz176, (by (with_reducible repeat (first | apply Kd.R_alloc | apply Kd.R_drewN | apply Kd.R_drew)); exact Kd.R_mono HOG.out (fun _ hk => hk.2)), zz193, zz139⟩)
           ·skip
            refine boxS 8 #[.int .i64 0, .int .i64 0] 47 ?_; intro gbJ hg w23 hbox hb; replace HOH := Aside0.mk (Kd.R_below (Kd.R_elderB zz214 gbJ (Nat.le_of_eq hg.symm)) hb); have GWJ := gwA (below_size zz139) hg; have GEJ := GWJ; have NBK_J := nltA BKK hg; have NBJ_K := ngtA BKK hg; replace BKK := blkA BKK hb; have BKJ := Aside0.mk (hbox); replace HB := Aside0.mk (below_step zz139 hb); clear hb hbox hg; refine hK.out _ _ ⟨bcA BKK 0, bcA BKK 1, bcA BKK 2, bcA BKK 3⟩ (fun hHeld => ?_); clear hK K; refine normA (some 8) ?_; exact norm_ zz81 (hJ1_10 (vAQ, gbJ) _ ⟨hHeld, zz176, zz193, zz194, GWJ.out, GEJ.out, NBK_J.out, NBJ_K.out, zz95⟩)
         ·skip
          rintro ⟨vAQ, gbJ⟩ w23 ⟨hS_, h0_, h1_, h2_, h3_, h4_, h5_, h6_, h7_⟩; have HOH : Aside0 (Kd.R k47 47 w23 w.heap.size (fun k_ => k_ ≠ gbJ) vAQ tS) := ⟨h0_⟩; replace BKK : Aside0 (w23.heap[gbK]? = some (.cells #[.int .i64 a2_0, .int .i64 a2_1, .int .i64 a2_2, .int .i64 a2_3] 60 (0, 0))) := ⟨h1_⟩; have BKJ : Aside0 (w23.heap[gbJ]? = some (.cells #[.int .i64 0, .int .i64 0] 47 (0, 0))) := ⟨h2_⟩; have GWJ : Aside0 (w.heap.size ≤ gbJ) := ⟨h3_⟩; have GEJ : Aside0 (w.heap.size ≤ gbJ) := ⟨h4_⟩; have NBK_J : Aside0 (gbK ≠ gbJ) := ⟨h5_⟩; have NBJ_K : Aside0 (gbJ ≠ gbK) := ⟨h6_⟩; replace HB : Aside0 (Below w.heap.size w w23) := ⟨h7_⟩; clear h0_ h1_ h2_ h3_ h4_ h5_ h6_ h7_; have hHeld : w23.cell? ⟨gbK, 0, none⟩ = some (.int .i64 a2_0) ∧ w23.cell? ⟨gbK, 1, none⟩ = some (.int .i64 a2_1) ∧ w23.cell? ⟨gbK, 2, none⟩ = some (.int .i64 a2_2) ∧ w23.cell? ⟨gbK, 3, none⟩ = some (.int .i64 a2_3) := hS_; refine norm_ (a' := ?_) ?_ ?_; rotate_left
          ·simp only [putAll, Act.put, List.setIfInBounds_toArray, List.set_cons_zero, List.set_cons_succ]; rfl
          refine one_ (i := 3) (N := some 28) (bB 13 1055) rfl rfl (one_of HT_.out (by kernel_rfl)) (by decide) (fun K hK => ?_); refine goes_ Try.func17 (by kernel_rfl) rfl #[.slice A1 l1.length c1] (by rfl) rfl rfl zz175 ?_; with_reducible refine (laws_toRatS.calls k _ _ l1 tU _ ?side1 ?side2 A11.out).mono ?_
          (case side1 => repeat (first | exact (Kd.C_below HR1.out HB.out) | (with_reducible refine Kd.C_alloc ?_ _) | (with_reducible refine Kd.C_drewN ?_ _) | (with_reducible refine Kd.C_drew ?_))); (case side2 => exact HC1.out); rintro e w24 ⟨vAR, rfl, ho0, hb⟩; refine ⟨_, rfl, ?_⟩; have n0_ := Aside0.mk (Kd.R_elder' zz214 (Kd.R_base ho0) hb); have HOG := Aside0.mk (Kd.R_lower (Kd.R_newB (Kd.R_new' ho0 (Kd.R_lt zz214)) (g := gbJ) (o := .cells #[.int .i64 0, .int .i64 0] 47 (0, 0)) zz194) (below_size zz95)); clear HOH; have HOH := n0_; clear n0_; replace BKK := blkA BKK hb; replace BKJ := blkA BKJ hb; replace HB := Aside0.mk (below_step zz95 hb); (try clear hb); (try clear ho0); refine hK.out _ _ ⟨bcA BKK 0, bcA BKK 1, bcA BKK 2, bcA BKK 3⟩ (fun hHeld => ?_); clear hK K; refine normA (some 28) ?_; exact norm_ zz81 (hJ1_3_10 (vAQ, vAR, gbJ) _ ⟨hHeld, (by (with_reducible repeat (first | apply Kd.R_alloc | apply Kd.R_drewN | apply Kd.R_drew)); exact Kd.R_mono HOH.out (fun _ hk => ⟨hk.2, hk.1⟩)), (by (with_reducible repeat (first | apply Kd.R_alloc | apply Kd.R_drewN | apply Kd.R_drew)); exact Kd.R_mono HOG.out (fun _ hk => ⟨hk.1.2, hk.2⟩)), zz193, zz194, GWJ.out, GEJ.out, NBK_J.out, NBJ_K.out, zz95⟩)
        ·skip
         rintro ⟨vAQ, vAR⟩ w23 ⟨hS_, h0_, h1_, h2_, h3_⟩; have HOH : Aside0 (Kd.R k47 47 w23 w.heap.size (fun k_ => some k_ ≠ (vAR : Value).ownBlock) vAQ tS) := ⟨h0_⟩; have HOG : Aside0 (Kd.R k47 47 w23 w.heap.size (fun k_ => some k_ ≠ (vAQ : Value).ownBlock) vAR tU) := ⟨h1_⟩; replace BKK : Aside0 (w23.heap[gbK]? = some (.cells #[.int .i64 a2_0, .int .i64 a2_1, .int .i64 a2_2, .int .i64 a2_3] 60 (0, 0))) := ⟨h2_⟩; replace HB : Aside0 (Below w.heap.size w w23) := ⟨h3_⟩; clear h0_ h1_ h2_ h3_; have hHeld : w23.cell? ⟨gbK, 0, none⟩ = some (.int .i64 a2_0) ∧ w23.cell? ⟨gbK, 1, none⟩ = some (.int .i64 a2_1) ∧ w23.cell? ⟨gbK, 2, none⟩ = some (.int .i64 a2_2) ∧ w23.cell? ⟨gbK, 3, none⟩ = some (.int .i64 a2_3) := hS_; refine norm_ (a' := ?_) ?_ ?_; rotate_left
         ·simp only [putAll, Act.put, List.setIfInBounds_toArray, List.set_cons_zero, List.set_cons_succ]; rfl
         refine two_ (i := 5) (j := 10) (Ni := some 30) (Nj := some 8) (bB 13 63) (bB 13 1055) rfl rfl rfl rfl (two_of HT_.out (by kernel_rfl)) (by decide) (by decide) (fun K hK => ?_) (fun K hK => ?_)
         ·skip
          refine goes_ Try.func45 (by kernel_rfl) rfl #[.agg #[.int .i64 a2_0, .int .i64 a2_1, .int .i64 a2_2, .int .i64 a2_3]] (by rfl) rfl rfl zz175 ?_; with_reducible refine (laws_toInterval.calls a2_0 a2_1 a2_2 a2_3 tV tAC tAD tAE _ A12.out).mono ?_
          rintro e w24 ⟨rfl, hb⟩; refine ⟨_, rfl, ?_⟩; replace HOH := Aside0.mk (Kd.R_below zz214 hb); replace HOG := Aside0.mk (Kd.R_below zz215 hb); replace BKK := blkA BKK hb; replace HB := Aside0.mk (below_step zz139 hb); (try clear hb); refine hK.out _ _ ⟨bcA BKK 0, bcA BKK 1, bcA BKK 2, bcA BKK 3⟩ (fun hHeld => ?_); clear hK K; refine normA (some 30) ?_; exact norm_ zz81 (hJ1_3_5 (vAQ, vAR) _ ⟨hHeld, zz214, zz215, zz193, zz139⟩)
         ·skip
          refine boxS 8 #[.int .i64 0, .int .i64 0] 47 ?_; intro gbJ hg w24 hbox hb; replace HOH := Aside0.mk (Kd.R_below (Kd.R_elderB zz214 gbJ (Nat.le_of_eq hg.symm)) hb); replace HOG := Aside0.mk (Kd.R_below (Kd.R_elderB zz215 gbJ (Nat.le_of_eq hg.symm)) hb); have GWJ := gwA (below_size zz139) hg; have GEJ := GWJ; have NBK_J := nltA BKK hg; have NBJ_K := ngtA BKK hg; replace BKK := blkA BKK hb; have BKJ := Aside0.mk (hbox); replace HB := Aside0.mk (below_step zz139 hb); clear hb hbox hg; refine hK.out _ _ ⟨bcA BKK 0, bcA BKK 1, bcA BKK 2, bcA BKK 3⟩ (fun hHeld => ?_); clear hK K; refine normA (some 8) ?_; exact norm_ zz81 (hJ1_3_10 (vAQ, vAR, gbJ) _ ⟨hHeld, zz214, zz215, zz193, zz194, GWJ.out, GEJ.out, NBK_J.out, NBJ_K.out, zz95⟩)
       ·skip
        rintro ⟨vAQ, vAR, gbJ⟩ w24 ⟨hS_, h0_, h1_, h2_, h3_, h4_, h5_, h6_, h7_, h8_⟩; have HOH : Aside0 (Kd.R k47 47 w24 w.heap.size (fun k_ => some k_ ≠ (vAR : Value).ownBlock ∧ k_ ≠ gbJ) vAQ tS) := ⟨h0_⟩; have HOG : Aside0 (Kd.R k47 47 w24 w.heap.size (fun k_ => some k_ ≠ (vAQ : Value).ownBlock ∧ k_ ≠ gbJ) vAR tU) := ⟨h1_⟩; replace BKK : Aside0 (w24.heap[gbK]? = some (.cells #[.int .i64 a2_0, .int .i64 a2_1, .int .i64 a2_2, .int .i64 a2_3] 60 (0, 0))) := ⟨h2_⟩; have BKJ : Aside0 (w24.heap[gbJ]? = some (.cells #[.int .i64 0, .int .i64 0] 47 (0, 0))) := ⟨h3_⟩; have GWJ : Aside0 (w.heap.size ≤ gbJ) := ⟨h4_⟩; have GEJ : Aside0 (w.heap.size ≤ gbJ) := ⟨h5_⟩; have NBK_J : Aside0 (gbK ≠ gbJ) := ⟨h6_⟩; have NBJ_K : Aside0 (gbJ ≠ gbK) := ⟨h7_⟩; replace HB : Aside0 (Below w.heap.size w w24) := ⟨h8_⟩; clear h0_ h1_ h2_ h3_ h4_ h5_ h6_ h7_ h8_; have hHeld : w24.cell? ⟨gbK, 0, none⟩ = some (.int .i64 a2_0) ∧ w24.cell? ⟨gbK, 1, none⟩ = some (.int .i64 a2_1) ∧ w24.cell? ⟨gbK, 2, none⟩ = some (.int .i64 a2_2) ∧ w24.cell? ⟨gbK, 3, none⟩ = some (.int .i64 a2_3) := hS_; refine norm_ (a' := ?_) ?_ ?_; rotate_left
        ·simp only [putAll, Act.put, List.setIfInBounds_toArray, List.set_cons_zero, List.set_cons_succ]; rfl
        refine one_ (i := 5) (N := some 30) (bB 13 1087) rfl rfl (one_of HT_.out (by kernel_rfl)) (by decide) (fun K hK => ?_); refine goes_ Try.func45 (by kernel_rfl) rfl #[.agg #[.int .i64 a2_0, .int .i64 a2_1, .int .i64 a2_2, .int .i64 a2_3]] (by rfl) rfl rfl zz175 ?_; with_reducible refine (laws_toInterval.calls a2_0 a2_1 a2_2 a2_3 tV tAC tAD tAE _ A12.out).mono ?_
        rintro e w25 ⟨rfl, hb⟩; refine ⟨_, rfl, ?_⟩; replace HOH := Aside0.mk (Kd.R_below zz214 hb); replace HOG := Aside0.mk (Kd.R_below zz215 hb); replace BKK := blkA BKK hb; replace BKJ := blkA BKJ hb; replace HB := Aside0.mk (below_step zz95 hb); (try clear hb); refine hK.out _ _ ⟨bcA BKK 0, bcA BKK 1, bcA BKK 2, bcA BKK 3⟩ (fun hHeld => ?_); clear hK K; refine normA (some 30) ?_; exact norm_ zz81 (hJ1_3_5_10 (vAQ, vAR, gbJ) _ ⟨hHeld, zz214, zz215, zz193, zz194, GWJ.out, GEJ.out, NBK_J.out, NBJ_K.out, zz95⟩)
      ·skip
       rintro ⟨vAQ, vAR⟩ w24 ⟨hS_, h0_, h1_, h2_, h3_⟩; have HOH : Aside0 (Kd.R k47 47 w24 w.heap.size (fun k_ => some k_ ≠ (vAR : Value).ownBlock) vAQ tS) := ⟨h0_⟩; have HOG : Aside0 (Kd.R k47 47 w24 w.heap.size (fun k_ => some k_ ≠ (vAQ : Value).ownBlock) vAR tU) := ⟨h1_⟩; replace BKK : Aside0 (w24.heap[gbK]? = some (.cells #[.int .i64 a2_0, .int .i64 a2_1, .int .i64 a2_2, .int .i64 a2_3] 60 (0, 0))) := ⟨h2_⟩; replace HB : Aside0 (Below w.heap.size w w24) := ⟨h3_⟩; clear h0_ h1_ h2_ h3_; have hHeld : w24.cell? ⟨gbK, 0, none⟩ = some (.int .i64 a2_0) ∧ w24.cell? ⟨gbK, 1, none⟩ = some (.int .i64 a2_1) ∧ w24.cell? ⟨gbK, 2, none⟩ = some (.int .i64 a2_2) ∧ w24.cell? ⟨gbK, 3, none⟩ = some (.int .i64 a2_3) := hS_; obtain ⟨Ao25, co25, eo25⟩ := Kd.R_slice HOH.out; (first | subst eo25 | (injection eo25 with f1_ f2_ f3_; have f4_ := f1_.symm; have f5_ := f3_.symm; clear f1_ f2_ f3_; subst f4_; subst f5_))
       obtain ⟨Ao26, co26, eo26⟩ := Kd.R_slice HOG.out; (first | subst eo26 | (injection eo26 with f1_ f2_ f3_; have f4_ := f1_.symm; have f5_ := f3_.symm; clear f1_ f2_ f3_; subst f4_; subst f5_))
       refine norm_ (a' := ?_) ?_ ?_; rotate_left
       ·simp only [putAll, Act.put, List.setIfInBounds_toArray, List.set_cons_zero, List.set_cons_succ]; rfl
       refine two_ (i := 6) (j := 10) (Ni := some 31) (Nj := some 8) (bB 13 127) (bB 13 1087) rfl rfl rfl rfl (two_of HT_.out (by kernel_rfl)) (by decide) (by decide) (fun K hK => ?_) (fun K hK => ?_)
       ·skip
        refine goes_ Try.func44 (by kernel_rfl) rfl #[.slice Ao25 tS.length co25, .slice Ao26 tU.length co26, .agg #[.int .i64 tV, .int .i64 tAC, .int .i64 tAD, .int .i64 tAE]] (by rfl) rfl rfl zz175 ?_; with_reducible refine (spec_MassOf.calls k _ _ tS _ _ tU tV tAC tAD tAE tO tP tAG _ ?side1 ?side2 ?side3 ?side4 A13.out).mono ?_
        (case side1 => repeat (first | exact (Kd.R_reads' HOH.out).2.2 | (with_reducible refine Kd.C_alloc ?_ _) | (with_reducible refine Kd.C_drewN ?_ _) | (with_reducible refine Kd.C_drew ?_))); (case side2 => exact (Kd.R_reads' HOH.out).2.1); (case side3 => repeat (first | exact (Kd.R_reads' HOG.out).2.2 | (with_reducible refine Kd.C_alloc ?_ _) | (with_reducible refine Kd.C_drewN ?_ _) | (with_reducible refine Kd.C_drew ?_))); (case side4 => exact (Kd.R_reads' HOG.out).2.1); rintro e w27 ⟨rfl, hb⟩; refine ⟨_, rfl, ?_⟩; replace HOH := Aside0.mk (Kd.R_below zz214 hb); replace HOG := Aside0.mk (Kd.R_below zz215 hb); replace BKK := blkA BKK hb; replace HB := Aside0.mk (below_step zz139 hb); (try clear hb); refine hK.out _ _ ⟨bcA BKK 0, bcA BKK 1, bcA BKK 2, bcA BKK 3⟩ (fun hHeld => ?_); clear hK K; refine normA (some 31) ?_; refine pureA 7 (some 24) (bB 13 255) HT_ ?_; refine pureA 8 (some 32) (bB 13 511) HT_ ?_; refine pureA 9 (some 33) (bB 13 1023) HT_ ?_; exact norm_ zz81 (hJ1_3_5_6 (.slice Ao25 tS.length co25, .slice Ao26 tU.length co26) _ ⟨hHeld, zz214, zz215, zz193, zz139⟩)
       ·skip
        refine boxS 8 #[.int .i64 0, .int .i64 0] 47 ?_; intro gbJ hg w25 hbox hb; replace HOH := Aside0.mk (Kd.R_below (Kd.R_elderB zz214 gbJ (Nat.le_of_eq hg.symm)) hb); replace HOG := Aside0.mk (Kd.R_below (Kd.R_elderB zz215 gbJ (Nat.le_of_eq hg.symm)) hb); have GWJ := gwA (below_size zz139) hg; have GEJ := GWJ; have NBK_J := nltA BKK hg; have NBJ_K := ngtA BKK hg; replace BKK := blkA BKK hb; have BKJ := Aside0.mk (hbox); replace HB := Aside0.mk (below_step zz139 hb); clear hb hbox hg; refine hK.out _ _ ⟨bcA BKK 0, bcA BKK 1, bcA BKK 2, bcA BKK 3⟩ (fun hHeld => ?_); clear hK K; refine normA (some 8) ?_; exact norm_ zz81 (hJ1_3_5_10 (.slice Ao25 tS.length co25, .slice Ao26 tU.length co26, gbJ) _ ⟨hHeld, zz214, zz215, zz193, zz194, GWJ.out, GEJ.out, NBK_J.out, NBJ_K.out, zz95⟩)
     ·skip
      rintro ⟨vAQ, vAR, gbJ⟩ w25 ⟨hS_, h0_, h1_, h2_, h3_, h4_, h5_, h6_, h7_, h8_⟩; have HOH : Aside0 (Kd.R k47 47 w25 w.heap.size (fun k_ => some k_ ≠ (vAR : Value).ownBlock ∧ k_ ≠ gbJ) vAQ tS) := ⟨h0_⟩; have HOG : Aside0 (Kd.R k47 47 w25 w.heap.size (fun k_ => some k_ ≠ (vAQ : Value).ownBlock ∧ k_ ≠ gbJ) vAR tU) := ⟨h1_⟩; replace BKK : Aside0 (w25.heap[gbK]? = some (.cells #[.int .i64 a2_0, .int .i64 a2_1, .int .i64 a2_2, .int .i64 a2_3] 60 (0, 0))) := ⟨h2_⟩; have BKJ : Aside0 (w25.heap[gbJ]? = some (.cells #[.int .i64 0, .int .i64 0] 47 (0, 0))) := ⟨h3_⟩; have GWJ : Aside0 (w.heap.size ≤ gbJ) := ⟨h4_⟩; have GEJ : Aside0 (w.heap.size ≤ gbJ) := ⟨h5_⟩; have NBK_J : Aside0 (gbK ≠ gbJ) := ⟨h6_⟩; have NBJ_K : Aside0 (gbJ ≠ gbK) := ⟨h7_⟩; replace HB : Aside0 (Below w.heap.size w w25) := ⟨h8_⟩; clear h0_ h1_ h2_ h3_ h4_ h5_ h6_ h7_ h8_; have hHeld : w25.cell? ⟨gbK, 0, none⟩ = some (.int .i64 a2_0) ∧ w25.cell? ⟨gbK, 1, none⟩ = some (.int .i64 a2_1) ∧ w25.cell? ⟨gbK, 2, none⟩ = some (.int .i64 a2_2) ∧ w25.cell? ⟨gbK, 3, none⟩ = some (.int .i64 a2_3) := hS_; obtain ⟨Ao26, co26, eo26⟩ := Kd.R_slice HOH.out; (first | subst eo26 | (injection eo26 with f1_ f2_ f3_; have f4_ := f1_.symm; have f5_ := f3_.symm; clear f1_ f2_ f3_; subst f4_; subst f5_))
      obtain ⟨Ao27, co27, eo27⟩ := Kd.R_slice HOG.out; (first | subst eo27 | (injection eo27 with f1_ f2_ f3_; have f4_ := f1_.symm; have f5_ := f3_.symm; clear f1_ f2_ f3_; subst f4_; subst f5_))
      refine norm_ (a' := ?_) ?_ ?_; rotate_left
      ·simp only [putAll, Act.put, List.setIfInBounds_toArray, List.set_cons_zero, List.set_cons_succ]; rfl
      refine one_ (i := 6) (N := some 31) (bB 13 1151) rfl rfl (one_of HT_.out (by kernel_rfl)) (by decide) (fun K hK => ?_); refine goes_ Try.func44 (by kernel_rfl) rfl #[.slice Ao26 tS.length co26, .slice Ao27 tU.length co27, .agg #[.int .i64 tV, .int .i64 tAC, .int .i64 tAD, .int .i64 tAE]] (by rfl) rfl rfl zz175 ?_; with_reducible refine (spec_MassOf.calls k _ _ tS _ _ tU tV tAC tAD tAE tO tP tAG _ ?side1 ?side2 ?side3 ?side4 A13.out).mono ?_
      (case side1 => repeat (first | exact (Kd.R_reads' HOH.out).2.2 | (with_reducible refine Kd.C_alloc ?_ _) | (with_reducible refine Kd.C_drewN ?_ _) | (with_reducible refine Kd.C_drew ?_))); (case side2 => exact (Kd.R_reads' HOH.out).2.1); (case side3 => repeat (first | exact (Kd.R_reads' HOG.out).2.2 | (with_reducible refine Kd.C_alloc ?_ _) | (with_reducible refine Kd.C_drewN ?_ _) | (with_reducible refine Kd.C_drew ?_))); (case side4 => exact (Kd.R_reads' HOG.out).2.1); rintro e w28 ⟨rfl, hb⟩; refine ⟨_, rfl, ?_⟩; replace HOH := Aside0.mk (Kd.R_below zz214 hb); replace HOG := Aside0.mk (Kd.R_below zz215 hb); replace BKK := blkA BKK hb; replace BKJ := blkA BKJ hb; replace HB := Aside0.mk (below_step zz95 hb); (try clear hb); refine hK.out _ _ ⟨bcA BKK 0, bcA BKK 1, bcA BKK 2, bcA BKK 3⟩ (fun hHeld => ?_); clear hK K; refine normA (some 31) ?_; refine pureA 7 (some 24) (bB 13 1279) HT_ ?_; refine pureA 8 (some 32) (bB 13 1535) HT_ ?_; refine pureA 9 (some 33) (bB 13 2047) HT_ ?_; exact norm_ zz81 (hJ1_3_5_6_10 (.slice Ao26 tS.length co26, .slice Ao27 tU.length co27, gbJ) _ ⟨hHeld, zz214, zz215, zz193, zz194, GWJ.out, GEJ.out, NBK_J.out, NBJ_K.out, zz95⟩)
    ·skip
     rintro ⟨vAQ, vAR⟩ w27 ⟨hS_, h0_, h1_, h2_, h3_⟩; have HOH : Aside0 (Kd.R k47 47 w27 w.heap.size (fun k_ => some k_ ≠ (vAR : Value).ownBlock) vAQ tS) := ⟨h0_⟩; have HOG : Aside0 (Kd.R k47 47 w27 w.heap.size (fun k_ => some k_ ≠ (vAQ : Value).ownBlock) vAR tU) := ⟨h1_⟩; replace BKK : Aside0 (w27.heap[gbK]? = some (.cells #[.int .i64 a2_0, .int .i64 a2_1, .int .i64 a2_2, .int .i64 a2_3] 60 (0, 0))) := ⟨h2_⟩; replace HB : Aside0 (Below w.heap.size w w27) := ⟨h3_⟩; clear h0_ h1_ h2_ h3_; have hHeld : w27.cell? ⟨gbK, 0, none⟩ = some (.int .i64 a2_0) ∧ w27.cell? ⟨gbK, 1, none⟩ = some (.int .i64 a2_1) ∧ w27.cell? ⟨gbK, 2, none⟩ = some (.int .i64 a2_2) ∧ w27.cell? ⟨gbK, 3, none⟩ = some (.int .i64 a2_3) := hS_; refine norm_ (a' := ?_) ?_ ?_; rotate_left
     ·simp only [putAll, Act.put, List.setIfInBounds_toArray, List.set_cons_zero, List.set_cons_succ]; rfl
     refine one_ (i := 10) (N := some 8) (bB 13 2047) rfl rfl (one_of HT_.out (by kernel_rfl)) (by decide) (fun K hK => ?_); refine boxS 8 #[.int .i64 0, .int .i64 0] 47 ?_; intro gbJ hg w28 hbox hb; replace HOH := Aside0.mk (Kd.R_below (Kd.R_elderB zz214 gbJ (Nat.le_of_eq hg.symm)) hb); replace HOG := Aside0.mk (Kd.R_below (Kd.R_elderB zz215 gbJ (Nat.le_of_eq hg.symm)) hb); have GWJ := gwA (below_size zz139) hg; have GEJ := GWJ; have NBK_J := nltA BKK hg; have NBJ_K := ngtA BKK hg; replace BKK := blkA BKK hb; have BKJ := Aside0.mk (hbox); replace HB := Aside0.mk (below_step zz139 hb); clear hb hbox hg; refine hK.out _ _ ⟨bcA BKK 0, bcA BKK 1, bcA BKK 2, bcA BKK 3⟩ (fun hHeld => ?_); clear hK K; refine normA (some 8) ?_; exact norm_ zz81 (hJ1_3_5_6_10 (vAQ, vAR, gbJ) _ ⟨hHeld, zz214, zz215, zz193, zz194, GWJ.out, GEJ.out, NBK_J.out, NBJ_K.out, zz95⟩)
   rintro ⟨vAQ, vAR, gbJ⟩ w28 ⟨hS_, h0_, h1_, h2_, h3_, h4_, h5_, h6_, h7_, h8_⟩; have HOH : Aside0 (Kd.R k47 47 w28 w.heap.size (fun k_ => some k_ ≠ (vAR : Value).ownBlock ∧ k_ ≠ gbJ) vAQ tS) := ⟨h0_⟩; have HOG : Aside0 (Kd.R k47 47 w28 w.heap.size (fun k_ => some k_ ≠ (vAQ : Value).ownBlock ∧ k_ ≠ gbJ) vAR tU) := ⟨h1_⟩; replace BKK : Aside0 (w28.heap[gbK]? = some (.cells #[.int .i64 a2_0, .int .i64 a2_1, .int .i64 a2_2, .int .i64 a2_3] 60 (0, 0))) := ⟨h2_⟩; have BKJ : Aside0 (w28.heap[gbJ]? = some (.cells #[.int .i64 0, .int .i64 0] 47 (0, 0))) := ⟨h3_⟩; have GWJ : Aside0 (w.heap.size ≤ gbJ) := ⟨h4_⟩; have GEJ : Aside0 (w.heap.size ≤ gbJ) := ⟨h5_⟩; have NBK_J : Aside0 (gbK ≠ gbJ) := ⟨h6_⟩; have NBJ_K : Aside0 (gbJ ≠ gbK) := ⟨h7_⟩; replace HB : Aside0 (Below w.heap.size w w28) := ⟨h8_⟩; clear h0_ h1_ h2_ h3_ h4_ h5_ h6_ h7_ h8_; have hHeld : w28.cell? ⟨gbK, 0, none⟩ = some (.int .i64 a2_0) ∧ w28.cell? ⟨gbK, 1, none⟩ = some (.int .i64 a2_1) ∧ w28.cell? ⟨gbK, 2, none⟩ = some (.int .i64 a2_2) ∧ w28.cell? ⟨gbK, 3, none⟩ = some (.int .i64 a2_3) := hS_; refine norm_ (a' := ?_) ?_ ?_; rotate_left
   ·simp only [putAll, Act.put, List.setIfInBounds_toArray, List.set_cons_zero, List.set_cons_succ]; rfl
   refine one_ (i := 11) (N := none) (bB 13 4095) rfl rfl (one_of HT_.out (by kernel_rfl)) (by decide) (fun K hK => ?_); have hs29 : w28.cell? ⟨gbJ, 0, none⟩ = some (.int .i64 0) := bcA BKJ 0; have hfs29 := blk_frozen BKJ.out 0; have hns29_0 := NBK_J.out; have hms29_0 := NBJ_K.out; have hs30 : w28.cell? ⟨gbJ, 1, none⟩ = some (.int .i64 0) := bcA BKJ 1; have hfs30 := blk_frozen BKJ.out 1; have hns30_0 := NBK_J.out; have hms30_0 := NBJ_K.out; refine skip_ (w1 := ?_) (by rfl) rfl ?_ ?_; rotate_left
   ·go_simp
    rfl
   refine hK.out _ _ ⟨((cell_far (p := ⟨gbJ, _, none⟩) NBK_J.out _).trans (((cell_far (p := ⟨gbJ, _, none⟩) NBK_J.out _).trans (hHeld.1)))), ((cell_far (p := ⟨gbJ, _, none⟩) NBK_J.out _).trans (((cell_far (p := ⟨gbJ, _, none⟩) NBK_J.out _).trans (hHeld.2.1)))), ((cell_far (p := ⟨gbJ, _, none⟩) NBK_J.out _).trans (((cell_far (p := ⟨gbJ, _, none⟩) NBK_J.out _).trans (hHeld.2.2.1)))), ((cell_far (p := ⟨gbJ, _, none⟩) NBK_J.out _).trans (((cell_far (p := ⟨gbJ, _, none⟩) NBK_J.out _).trans (hHeld.2.2.2))))⟩ (fun hHeld => ?_); clear hK K; refine pureA 12 (some 9) (bB 13 8191) HT_ ?_; refine done_ (done_of HT_.out (by kernel_rfl)) ?_; go_upto_region 12 with (first | ((with_reducible refine gate_callee (f := 17) rfl ?_); refine goesL_ (some 35) rfl rfl Try.func17 (by kernel_rfl) rfl #[.slice A0 l0.length c0] rfl zz175 ?_; (with_reducible refine (laws_toRatS.calls k _ _ l0 tW _ ?side1 ?side2 A14.out).mono ?_); (case side1 => exact Kd.C_below HR0.out zz95); (case side2 => exact HC0.out); rintro e w31 ⟨vAS, rfl, ho0, hb⟩; refine ⟨_, rfl, ?_⟩; have n0_ := Aside0.mk (Kd.R_elder' zz49 (Kd.R_base ho0) hb); have n1_ := Aside0.mk (Kd.R_elder' zz50 (Kd.R_base ho0) hb); have n2_ := Aside0.mk (Kd.R_lower (Kd.R_newB (Kd.R_new' (Kd.R_new' ho0 (Kd.R_lt zz49)) (Kd.R_lt zz50)) (g := gbJ) (o := .cells #[.int .i64 tO, .int .i64 tP] 47 (0, 0)) zz33) (below_size zz95)); have n3_ := Aside0.mk (blk_below (g := gbK) (o := .cells #[.int .i64 a2_0, .int .i64 a2_1, .int .i64 a2_2, .int .i64 a2_3] 60 (0, 0)) (by (with_reducible repeat (first | refine blk_drewN ?_ _ | refine blk_drew ?_ | refine blk_alloc ?_ _)); refine blk_far ?_ NBK_J.out _; (with_reducible repeat (first | refine blk_drewN ?_ _ | refine blk_drew ?_ | refine blk_alloc ?_ _)); refine blk_far ?_ NBK_J.out _; (with_reducible repeat (first | refine blk_drewN ?_ _ | refine blk_drew ?_ | refine blk_alloc ?_ _)); exact BKK.out) hb); replace BKJ := Aside0.mk (blk_below (g := gbJ) (o := .cells #[.int .i64 tO, .int .i64 tP] 47 (0, 0)) zz33 hb); clear HOH HOG BKK; have HOH := n0_; have HOG := n1_; have HOE := n2_; have BKK := n3_; clear n0_ n1_ n2_ n3_; replace HB := Aside0.mk (below_step zz95 hb)) | ((with_reducible refine gate_callee (f := 17) rfl ?_); refine goesL_ (some 37) rfl rfl Try.func17 (by kernel_rfl) rfl #[.slice A1 l1.length c1] rfl zz175 ?_; (with_reducible refine (laws_toRatS.calls k _ _ l1 tX _ ?side1 ?side2 A15.out).mono ?_); (case side1 => repeat (first | exact (Kd.C_below HR1.out HB.out) | (with_reducible refine Kd.C_alloc ?_ _) | (with_reducible refine Kd.C_drewN ?_ _) | (with_reducible refine Kd.C_drew ?_))); (case side2 => exact HC1.out); rintro e w32 ⟨vAT, rfl, ho0, hb⟩; refine ⟨_, rfl, ?_⟩; have n0_ := Aside0.mk (Kd.R_elder' zz214 (Kd.R_base ho0) hb); have n1_ := Aside0.mk (Kd.R_elder' zz215 (Kd.R_base ho0) hb); have n2_ := Aside0.mk (Kd.R_elder' zz216 (Kd.R_base ho0) hb); have HOD := Aside0.mk (Kd.R_lower (Kd.R_newB (Kd.R_new' (Kd.R_new' (Kd.R_new' ho0 (Kd.R_lt zz214)) (Kd.R_lt zz215)) (Kd.R_lt zz216)) (g := gbJ) (o := .cells #[.int .i64 tO, .int .i64 tP] 47 (0, 0)) zz194) (below_size zz95)); clear HOH HOG HOE; have HOH := n0_; have HOG := n1_; have HOE := n2_; clear n0_ n1_ n2_; replace BKK := blkA BKK hb; replace BKJ := blkA BKJ hb; replace HB := Aside0.mk (below_step zz95 hb); (try clear hb); (try clear ho0); have hnb33 := NBK_J.out; have hnc33 := NBJ_K.out; obtain ⟨hcz34_0, hcz34_1, hcz34_2, hcz34_3, hfz34_0, hfz34_1, hfz34_2, hfz34_3⟩ := cz4 BKK.out) | ((with_reducible refine gate_callee (f := 45) rfl ?_); refine goesL_ (some 42) rfl rfl Try.func45 (by kernel_rfl) rfl #[.agg #[.int .i64 a2_0, .int .i64 a2_1, .int .i64 a2_2, .int .i64 a2_3]] rfl zz175 ?_; (with_reducible refine (laws_toInterval.calls a2_0 a2_1 a2_2 a2_3 tY tAK tAL tAM _ A16.out).mono ?_); rintro e w35 ⟨rfl, hb⟩; refine ⟨_, rfl, ?_⟩; replace HOH := Aside0.mk (Kd.R_below zz214 hb); replace HOG := Aside0.mk (Kd.R_below zz215 hb); replace HOE := Aside0.mk (Kd.R_below zz216 hb); replace HOD := Aside0.mk (Kd.R_below zz217 hb); replace BKK := blkA BKK hb; replace BKJ := blkA BKJ hb; replace HB := Aside0.mk (below_step zz95 hb); (try clear hb); obtain ⟨Ao36, co36, eo36⟩ := Kd.R_slice HOE.out; subst eo36; obtain ⟨Ao37, co37, eo37⟩ := Kd.R_slice HOD.out; subst eo37) | ((with_reducible refine gate_callee (f := 46) rfl ?_); refine goesL_ (some 43) rfl rfl Try.func46 (by kernel_rfl) rfl #[.slice Ao36 tW.length co36, .slice Ao37 tX.length co37, .agg #[.int .i64 tY, .int .i64 tAK, .int .i64 tAL, .int .i64 tAM]] rfl zz175 ?_; (with_reducible refine (impl_MassOf.calls k _ _ tW _ _ tX tY tAK tAL tAM tM tN tAO _ ?side1 ?side2 ?side3 ?side4 A17.out).mono ?_); (case side1 => repeat (first | exact (Kd.R_reads' HOE.out).2.2 | (with_reducible refine Kd.C_alloc ?_ _) | (with_reducible refine Kd.C_drewN ?_ _) | (with_reducible refine Kd.C_drew ?_))); (case side2 => exact (Kd.R_reads' HOE.out).2.1); (case side3 => repeat (first | exact (Kd.R_reads' HOD.out).2.2 | (with_reducible refine Kd.C_alloc ?_ _) | (with_reducible refine Kd.C_drewN ?_ _) | (with_reducible refine Kd.C_drew ?_))); (case side4 => exact (Kd.R_reads' HOD.out).2.1); rintro e w38 ⟨rfl, hb⟩; refine ⟨_, rfl, ?_⟩; replace HOH := Aside0.mk (Kd.R_below zz214 hb); replace HOG := Aside0.mk (Kd.R_below zz215 hb); replace HOE := Aside0.mk (Kd.R_below zz216 hb); replace HOD := Aside0.mk (Kd.R_below zz217 hb); replace BKK := blkA BKK hb; replace BKJ := blkA BKJ hb; replace HB := Aside0.mk (below_step zz95 hb); (try clear hb)) | ((with_reducible refine gate_dst (N := 12) rfl ?_); refine boxE 12 #[.int .i64 0, .int .i64 0] 47 ?_; intro gbI hg w39 hbox hb; replace HOH := Aside0.mk (Kd.R_below (Kd.R_elderB zz214 gbI (Nat.le_of_eq hg.symm)) hb); replace HOG := Aside0.mk (Kd.R_below (Kd.R_elderB zz215 gbI (Nat.le_of_eq hg.symm)) hb); replace HOE := Aside0.mk (Kd.R_below (Kd.R_elderB zz216 gbI (Nat.le_of_eq hg.symm)) hb); replace HOD := Aside0.mk (Kd.R_below (Kd.R_elderB zz217 gbI (Nat.le_of_eq hg.symm)) hb); have GWI := gwA (below_size zz95) hg; have GEI := GWI; have NBK_I := nltA BKK hg; have NBI_K := ngtA BKK hg; have NBJ_I := nltA BKJ hg; have NBI_J := ngtA BKJ hg; replace BKK := blkA BKK hb; replace BKJ := blkA BKJ hb; have BKI := Aside0.mk (hbox); replace HB := Aside0.mk (below_step zz95 hb); clear hb hbox hg; have hnb40 := NBI_K.out; have hnc40 := NBK_I.out; have hnb41 := NBI_J.out; have hnc41 := NBJ_I.out; obtain ⟨hcz42_0, hcz42_1, hfz42_0, hfz42_1⟩ := cz2 BKI.out))
   (try simp only [Act.put, List.setIfInBounds_toArray, List.set_cons_zero, List.set_cons_succ]); go_cut [54] (fun v54 wc => ∃ (kq : Nat) (x54_17 : Bool), v54 = .bool x54_17 ∧ Aside0 (laws_FnExactMassOf.j0 kq l0 l1 tW tX x54_17 = some r) ∧ Aside0 (kq ≤ k) ∧ Aside0 (Kd.R k47 47 wc w.heap.size (fun k_ => some k_ ≠ ((.slice Ao37 tX.length co37) : Value).ownBlock ∧ k_ ≠ gbJ ∧ k_ ≠ gbI) (.slice Ao36 tW.length co36) tW) ∧ Aside0 (Kd.R k47 47 wc w.heap.size (fun k_ => some k_ ≠ ((.slice Ao36 tW.length co36) : Value).ownBlock ∧ k_ ≠ gbJ ∧ k_ ≠ gbI) (.slice Ao37 tX.length co37) tX) ∧ Aside0 (wc.heap[gbK]? = some (.cells #[.int .i64 a2_0, .int .i64 a2_1, .int .i64 a2_2, .int .i64 a2_3] 60 (0, 0))) ∧ Aside0 (wc.heap[gbJ]? = some (.cells #[.int .i64 tO, .int .i64 tP] 47 (0, 0))) ∧ Aside0 (wc.heap[gbI]? = some (.cells #[.int .i64 tM, .int .i64 tN] 47 (0, 0))) ∧ Aside0 (Below w.heap.size w wc))
   case first =>
    have H := HC18.out; clear HC18; replace H := Option.bind_eq_some_iff.mp H; obtain ⟨tZ, AAU, H⟩ := H; replace H : (if tZ = true then (laws_FnExactMassOf.j0 k l0 l1 tW tX (tAO != tAG)) else (laws_FnExactMassOf.j0 k l0 l1 tW tX true)) = some r := H; have A43 := Aside0.mk AAU; clear AAU; by_cases c44 : tZ = true
    ·subst c44; have H1 : (laws_FnExactMassOf.j0 k l0 l1 tW tX (tAO != tAG)) = some r := by rw [if_pos rfl] at H; exact H
     clear H; have H := H1; clear H1; have H' := Aside0.mk H; clear H; have hnb45 := NBI_K.out; have hnc45 := NBK_I.out; have hnb46 := NBI_J.out; have hnc46 := NBJ_I.out; obtain ⟨hcz47_0, hcz47_1, hfz47_0, hfz47_1⟩ := cz2 BKI.out; have hnb48 := NBJ_K.out; have hnc48 := NBK_J.out; obtain ⟨hcz49_0, hcz49_1, hfz49_0, hfz49_1⟩ := cz2 BKJ.out; go_wp2_with (first | ((with_reducible refine gate_callee (f := 37) rfl ?_); refine goesL_ (some 48) rfl rfl Try.func37 (by kernel_rfl) rfl #[.agg #[.int .i64 tM, .int .i64 tN], .agg #[.int .i64 tO, .int .i64 tP]] rfl zz175 ?_; (with_reducible refine (laws_eqRat.calls tM tN tO tP true _ A43.out).mono ?_); rintro e w50 ⟨rfl, hb⟩; refine ⟨_, rfl, ?_⟩; replace HOH := Aside0.mk (Kd.R_below zz51 hb); replace HOG := Aside0.mk (Kd.R_below zz52 hb); replace HOE := Aside0.mk (Kd.R_below zz53 hb); replace HOD := Aside0.mk (Kd.R_below zz54 hb); replace BKK := Aside0.mk (blk_below (g := gbK) (o := .cells #[.int .i64 a2_0, .int .i64 a2_1, .int .i64 a2_2, .int .i64 a2_3] 60 (0, 0)) zz40 hb); replace BKJ := Aside0.mk (blk_below (g := gbJ) (o := .cells #[.int .i64 tO, .int .i64 tP] 47 (0, 0)) zz41 hb); replace BKI := Aside0.mk (blk_below (g := gbI) (o := .cells #[.int .i64 tM, .int .i64 tN] 47 (0, 0)) zz34 hb); replace HB := Aside0.mk (below_step zz70 hb)))
     go_meet
     case rel => exact ⟨_, ((tAO != tAG)), zz248, H', ⟨by first | omega | exact Nat.le_refl _⟩, ⟨by (with_reducible repeat (first | apply Kd.R_alloc | apply Kd.R_drewN | apply Kd.R_drew)); exact Kd.R_mono HOE.out (fun _ hk => ⟨hk.1.2, ⟨hk.1.1.2, hk.2⟩⟩)⟩, ⟨by (with_reducible repeat (first | apply Kd.R_alloc | apply Kd.R_drewN | apply Kd.R_drew)); exact Kd.R_mono HOD.out (fun _ hk => ⟨hk.1.1.2, ⟨hk.1.2, hk.2⟩⟩)⟩, ⟨by (with_reducible repeat (first | refine blk_drewN ?_ _ | refine blk_drew ?_ | refine blk_alloc ?_ _)); exact BKK.out⟩, ⟨by (with_reducible repeat (first | refine blk_drewN ?_ _ | refine blk_drew ?_ | refine blk_alloc ?_ _)); exact BKJ.out⟩, ⟨by (with_reducible repeat (first | refine blk_drewN ?_ _ | refine blk_drew ?_ | refine blk_alloc ?_ _)); exact BKI.out⟩, ⟨by repeat (first | (with_reducible first | exact HB.out | apply below_alloc | apply pw_below_drewN | apply below_drew1 | refine below_set ?_ GEK.out | refine below_set ?_ GEJ.out | refine below_set ?_ GEI.out) | exact HB.out)⟩⟩
    ·replace c44 := Bool.eq_false_iff.mpr c44; subst c44; have H1 : (laws_FnExactMassOf.j0 k l0 l1 tW tX true) = some r := by rw [if_neg (show ¬ (false = true) by decide)] at H; exact H
     clear H; have H := H1; clear H1; have H' := Aside0.mk H; clear H; have hnb51 := NBI_K.out; have hnc51 := NBK_I.out; have hnb52 := NBI_J.out; have hnc52 := NBJ_I.out; obtain ⟨hcz53_0, hcz53_1, hfz53_0, hfz53_1⟩ := cz2 BKI.out; have hnb54 := NBJ_K.out; have hnc54 := NBK_J.out; obtain ⟨hcz55_0, hcz55_1, hfz55_0, hfz55_1⟩ := cz2 BKJ.out; go_wp2_with (first | ((with_reducible refine gate_callee (f := 37) rfl ?_); refine goesL_ (some 48) rfl rfl Try.func37 (by kernel_rfl) rfl #[.agg #[.int .i64 tM, .int .i64 tN], .agg #[.int .i64 tO, .int .i64 tP]] rfl zz175 ?_; (with_reducible refine (laws_eqRat.calls tM tN tO tP false _ A43.out).mono ?_); rintro e w56 ⟨rfl, hb⟩; refine ⟨_, rfl, ?_⟩; replace HOH := Aside0.mk (Kd.R_below zz51 hb); replace HOG := Aside0.mk (Kd.R_below zz52 hb); replace HOE := Aside0.mk (Kd.R_below zz53 hb); replace HOD := Aside0.mk (Kd.R_below zz54 hb); replace BKK := Aside0.mk (blk_below (g := gbK) (o := .cells #[.int .i64 a2_0, .int .i64 a2_1, .int .i64 a2_2, .int .i64 a2_3] 60 (0, 0)) zz40 hb); replace BKJ := Aside0.mk (blk_below (g := gbJ) (o := .cells #[.int .i64 tO, .int .i64 tP] 47 (0, 0)) zz41 hb); replace BKI := Aside0.mk (blk_below (g := gbI) (o := .cells #[.int .i64 tM, .int .i64 tN] 47 (0, 0)) zz34 hb); replace HB := Aside0.mk (below_step zz70 hb)))
     go_meet
     case rel => exact ⟨_, (true), zz248, H', ⟨by first | omega | exact Nat.le_refl _⟩, ⟨by (with_reducible repeat (first | apply Kd.R_alloc | apply Kd.R_drewN | apply Kd.R_drew)); exact Kd.R_mono HOE.out (fun _ hk => ⟨hk.1.2, ⟨hk.1.1.2, hk.2⟩⟩)⟩, ⟨by (with_reducible repeat (first | apply Kd.R_alloc | apply Kd.R_drewN | apply Kd.R_drew)); exact Kd.R_mono HOD.out (fun _ hk => ⟨hk.1.1.2, ⟨hk.1.2, hk.2⟩⟩)⟩, ⟨by (with_reducible repeat (first | refine blk_drewN ?_ _ | refine blk_drew ?_ | refine blk_alloc ?_ _)); exact BKK.out⟩, ⟨by (with_reducible repeat (first | refine blk_drewN ?_ _ | refine blk_drew ?_ | refine blk_alloc ?_ _)); exact BKJ.out⟩, ⟨by (with_reducible repeat (first | refine blk_drewN ?_ _ | refine blk_drew ?_ | refine blk_alloc ?_ _)); exact BKI.out⟩, ⟨by repeat (first | (with_reducible first | exact HB.out | apply below_alloc | apply pw_below_drewN | apply below_drew1 | refine below_set ?_ GEK.out | refine below_set ?_ GEJ.out | refine below_set ?_ GEI.out) | exact HB.out)⟩⟩
   case rest =>
    clear HC18; try clear c1
    try clear p2
    try clear c3
    try clear c4
    try clear c5
    try clear c17
    try clear c33
    try clear c37
    try clear c40
    try clear c41
    try clear c44
    try clear c45
    try clear c46
    try clear c48
    try clear c51
    try clear c52
    try clear c54
    try clear hcz34_0
    try clear hcz34_1
    try clear hcz34_2
    try clear hcz34_3
    try clear hcz42_0
    try clear hcz42_1
    try clear hcz47_0
    try clear hcz47_1
    try clear hcz49_0
    try clear hcz49_1
    try clear hcz53_0
    try clear hcz53_1
    try clear hcz55_0
    try clear hcz55_1
    try clear hfz34_0
    try clear hfz34_1
    try clear hfz34_2
    try clear hfz34_3
    try clear hfz42_0
    try clear hfz42_1
    try clear hfz47_0
    try clear hfz47_1
    try clear hfz49_0
    try clear hfz49_1
    try clear hfz53_0
    try clear hfz53_1
    try clear hfz55_0
    try clear hfz55_1
    obtain ⟨kq, x54_17, rfl, HA, HJ17, HO_10, HO_11, BKK, BKJ, BKI, HB⟩ := hcut; cases kq with
    | zero => exact absurd HA.out (by simp [laws_FnExactMassOf.j0])
    | succ kj17 =>
     have H := HA.out; clear HA; simp only [laws_FnExactMassOf.j0] at H; by_cases c57 : x54_17 = true
     ·subst c57; have H1 : (some false) = some r := by rw [if_pos rfl] at H; exact H
      clear H; have H := H1; clear H1; obtain rfl := Option.some.inj H; go_wp2
      go_ret
      exact ⟨zz233, zz70⟩
     ·replace c57 := Bool.eq_false_iff.mpr c57; subst c57; have H1 : ((laws_toRatS.f kj17 l0).bind fun tAV => ((laws_eqRatS.f kj17 tW tAV).bind fun tAW => (if tAW = true then ((laws_toRatS.f kj17 l1).bind fun tAX => ((laws_eqRatS.f kj17 tX tAX).bind fun tAY => (if tAY = true then (some true) else (some false)))) else (some false)))) = some r := by rw [if_neg (show ¬ (false = true) by decide)] at H; exact H
      clear H; have H := H1; clear H1; replace H := Option.bind_eq_some_iff.mp H; obtain ⟨tAV, AAZ, H⟩ := H; replace H : ((laws_eqRatS.f kj17 tW tAV).bind fun tAW => (if tAW = true then ((laws_toRatS.f kj17 l1).bind fun tAX => ((laws_eqRatS.f kj17 tX tAX).bind fun tAY => (if tAY = true then (some true) else (some false)))) else (some false))) = some r := H; have A58 := Aside0.mk AAZ; clear AAZ; replace H := Option.bind_eq_some_iff.mp H; obtain ⟨tAW, ABA, H⟩ := H; replace H : (if tAW = true then ((laws_toRatS.f kj17 l1).bind fun tAX => ((laws_eqRatS.f kj17 tX tAX).bind fun tAY => (if tAY = true then (some true) else (some false)))) else (some false)) = some r := H; have A59 := Aside0.mk ABA; clear ABA; by_cases c60 : tAW = true
      ·subst c60; have H1 : ((laws_toRatS.f kj17 l1).bind fun tAX => ((laws_eqRatS.f kj17 tX tAX).bind fun tAY => (if tAY = true then (some true) else (some false)))) = some r := by rw [if_pos rfl] at H; exact H
       clear H; have H := H1; clear H1; replace H := Option.bind_eq_some_iff.mp H; obtain ⟨tAX, ABB, H⟩ := H; replace H : ((laws_eqRatS.f kj17 tX tAX).bind fun tAY => (if tAY = true then (some true) else (some false))) = some r := H; have A61 := Aside0.mk ABB; clear ABB; replace H := Option.bind_eq_some_iff.mp H; obtain ⟨tAY, ABC, H⟩ := H; replace H : (if tAY = true then (some true) else (some false)) = some r := H; have A62 := Aside0.mk ABC; clear ABC; by_cases c63 : tAY = true
       ·subst c63; have H1 : (some true) = some r := by rw [if_pos rfl] at H; exact H
        clear H; have H := H1; clear H1; obtain rfl := Option.some.inj H; go_wp2_with (first | ((with_reducible refine gate_callee (f := 17) rfl ?_); refine goesL_ (some 57) rfl rfl Try.func17 (by kernel_rfl) rfl #[.slice A0 l0.length c0] rfl zz175 ?_; (with_reducible refine (laws_toRatS.calls kj17 _ _ l0 tAV _ ?side1 ?side2 A58.out).mono ?_); (case side1 => repeat (first | exact (Kd.C_below HR0.out HB.out) | (with_reducible refine Kd.C_alloc ?_ _) | (with_reducible refine Kd.C_drewN ?_ _) | (with_reducible refine Kd.C_drew ?_))); (case side2 => exact HC0.out); rintro e w64 ⟨vBD, rfl, ho0, hb⟩; refine ⟨_, rfl, ?_⟩; have n0_ := Aside0.mk (Kd.R_elder' zz225 (Kd.R_base ho0) hb); have n1_ := Aside0.mk (Kd.R_elder' zz226 (Kd.R_base ho0) hb); have HOC := Aside0.mk (Kd.R_lower (Kd.R_newB (Kd.R_newB (Kd.R_new' (Kd.R_new' ho0 (Kd.R_lt zz225)) (Kd.R_lt zz226)) (g := gbJ) (o := .cells #[.int .i64 tO, .int .i64 tP] 47 (0, 0)) zz194) (g := gbI) (o := .cells #[.int .i64 tM, .int .i64 tN] 47 (0, 0)) zz195) (below_size zz70)); clear HO_10 HO_11; have HO_10 := n0_; have HO_11 := n1_; clear n0_ n1_; replace BKK := blkA BKK hb; replace BKJ := blkA BKJ hb; replace BKI := blkA BKI hb; replace HB := Aside0.mk (below_step zz70 hb); (try clear hb); (try clear ho0); obtain ⟨Ao65, co65, eo65⟩ := Kd.R_slice HOC.out; subst eo65) | ((with_reducible refine gate_callee (f := 19) rfl ?_); refine goesL_ (some 58) rfl rfl Try.func19 (by kernel_rfl) rfl #[.slice Ao36 tW.length co36, .slice Ao65 tAV.length co65] rfl zz175 ?_; (with_reducible refine (laws_eqRatS.calls kj17 _ _ tW _ _ tAV true _ ?side1 ?side2 ?side3 ?side4 A59.out).mono ?_); (case side1 => repeat (first | exact (Kd.R_reads' HO_10.out).2.2 | (with_reducible refine Kd.C_alloc ?_ _) | (with_reducible refine Kd.C_drewN ?_ _) | (with_reducible refine Kd.C_drew ?_))); (case side2 => exact (Kd.R_reads' HO_10.out).2.1); (case side3 => repeat (first | exact (Kd.R_reads' HOC.out).2.2 | (with_reducible refine Kd.C_alloc ?_ _) | (with_reducible refine Kd.C_drewN ?_ _) | (with_reducible refine Kd.C_drew ?_))); (case side4 => exact (Kd.R_reads' HOC.out).2.1); rintro e w66 ⟨rfl, hb⟩; refine ⟨_, rfl, ?_⟩; replace HO_10 := Aside0.mk (Kd.R_below zz225 hb); replace HO_11 := Aside0.mk (Kd.R_below zz226 hb); replace HOC := Aside0.mk (Kd.R_below zz218 hb); replace BKK := blkA BKK hb; replace BKJ := blkA BKJ hb; replace BKI := blkA BKI hb; replace HB := Aside0.mk (below_step zz70 hb); (try clear hb)) | ((with_reducible refine gate_callee (f := 17) rfl ?_); refine goesL_ (some 62) rfl rfl Try.func17 (by kernel_rfl) rfl #[.slice A1 l1.length c1] rfl zz175 ?_; (with_reducible refine (laws_toRatS.calls kj17 _ _ l1 tAX _ ?side1 ?side2 A61.out).mono ?_); (case side1 => repeat (first | exact (Kd.C_below HR1.out HB.out) | (with_reducible refine Kd.C_alloc ?_ _) | (with_reducible refine Kd.C_drewN ?_ _) | (with_reducible refine Kd.C_drew ?_))); (case side2 => exact HC1.out); rintro e w67 ⟨vBE, rfl, ho0, hb⟩; refine ⟨_, rfl, ?_⟩; have n0_ := Aside0.mk (Kd.R_elder' zz225 (Kd.R_base ho0) hb); have n1_ := Aside0.mk (Kd.R_elder' zz226 (Kd.R_base ho0) hb); have n2_ := Aside0.mk (Kd.R_elder' zz218 (Kd.R_base ho0) hb); have HOA := Aside0.mk (Kd.R_lower (Kd.R_newB (Kd.R_newB (Kd.R_new' (Kd.R_new' (Kd.R_new' ho0 (Kd.R_lt zz225)) (Kd.R_lt zz226)) (Kd.R_lt zz218)) (g := gbJ) (o := .cells #[.int .i64 tO, .int .i64 tP] 47 (0, 0)) zz194) (g := gbI) (o := .cells #[.int .i64 tM, .int .i64 tN] 47 (0, 0)) zz195) (below_size zz70)); clear HO_10 HO_11 HOC; have HO_10 := n0_; have HO_11 := n1_; have HOC := n2_; clear n0_ n1_ n2_; replace BKK := blkA BKK hb; replace BKJ := blkA BKJ hb; replace BKI := blkA BKI hb; replace HB := Aside0.mk (below_step zz70 hb); (try clear hb); (try clear ho0); obtain ⟨Ao68, co68, eo68⟩ := Kd.R_slice HOA.out; subst eo68) | ((with_reducible refine gate_callee (f := 19) rfl ?_); refine goesL_ (some 63) rfl rfl Try.func19 (by kernel_rfl) rfl #[.slice Ao37 tX.length co37, .slice Ao68 tAX.length co68] rfl zz175 ?_; (with_reducible refine (laws_eqRatS.calls kj17 _ _ tX _ _ tAX true _ ?side1 ?side2 ?side3 ?side4 A62.out).mono ?_); (case side1 => repeat (first | exact (Kd.R_reads' HO_11.out).2.2 | (with_reducible refine Kd.C_alloc ?_ _) | (with_reducible refine Kd.C_drewN ?_ _) | (with_reducible refine Kd.C_drew ?_))); (case side2 => exact (Kd.R_reads' HO_11.out).2.1); (case side3 => repeat (first | exact (Kd.R_reads' HOA.out).2.2 | (with_reducible refine Kd.C_alloc ?_ _) | (with_reducible refine Kd.C_drewN ?_ _) | (with_reducible refine Kd.C_drew ?_))); (case side4 => exact (Kd.R_reads' HOA.out).2.1); rintro e w69 ⟨rfl, hb⟩; refine ⟨_, rfl, ?_⟩; replace HO_10 := Aside0.mk (Kd.R_below zz225 hb); replace HO_11 := Aside0.mk (Kd.R_below zz226 hb); replace HOC := Aside0.mk (Kd.R_below zz218 hb); replace HOA := Aside0.mk (Kd.R_below zz219 hb); replace BKK := blkA BKK hb; replace BKJ := blkA BKJ hb; replace BKI := blkA BKI hb; replace HB := Aside0.mk (below_step zz70 hb); (try clear hb)))
        go_ret
        exact ⟨zz233, zz70⟩
       ·replace c63 := Bool.eq_false_iff.mpr c63; subst c63; have H1 : (some false) = some r := by rw [if_neg (show ¬ (false = true) by decide)] at H; exact H
        clear H; have H := H1; clear H1; obtain rfl := Option.some.inj H; go_wp2_with (first | ((with_reducible refine gate_callee (f := 17) rfl ?_); refine goesL_ (some 57) rfl rfl Try.func17 (by kernel_rfl) rfl #[.slice A0 l0.length c0] rfl zz175 ?_; (with_reducible refine (laws_toRatS.calls kj17 _ _ l0 tAV _ ?side1 ?side2 A58.out).mono ?_); (case side1 => repeat (first | exact (Kd.C_below HR0.out HB.out) | (with_reducible refine Kd.C_alloc ?_ _) | (with_reducible refine Kd.C_drewN ?_ _) | (with_reducible refine Kd.C_drew ?_))); (case side2 => exact HC0.out); rintro e w70 ⟨vBD, rfl, ho0, hb⟩; refine ⟨_, rfl, ?_⟩; have n0_ := Aside0.mk (Kd.R_elder' zz225 (Kd.R_base ho0) hb); have n1_ := Aside0.mk (Kd.R_elder' zz226 (Kd.R_base ho0) hb); have HOC := Aside0.mk (Kd.R_lower (Kd.R_newB (Kd.R_newB (Kd.R_new' (Kd.R_new' ho0 (Kd.R_lt zz225)) (Kd.R_lt zz226)) (g := gbJ) (o := .cells #[.int .i64 tO, .int .i64 tP] 47 (0, 0)) zz194) (g := gbI) (o := .cells #[.int .i64 tM, .int .i64 tN] 47 (0, 0)) zz195) (below_size zz70)); clear HO_10 HO_11; have HO_10 := n0_; have HO_11 := n1_; clear n0_ n1_; replace BKK := blkA BKK hb; replace BKJ := blkA BKJ hb; replace BKI := blkA BKI hb; replace HB := Aside0.mk (below_step zz70 hb); (try clear hb); (try clear ho0); obtain ⟨Ao71, co71, eo71⟩ := Kd.R_slice HOC.out; subst eo71) | ((with_reducible refine gate_callee (f := 19) rfl ?_); refine goesL_ (some 58) rfl rfl Try.func19 (by kernel_rfl) rfl #[.slice Ao36 tW.length co36, .slice Ao71 tAV.length co71] rfl zz175 ?_; (with_reducible refine (laws_eqRatS.calls kj17 _ _ tW _ _ tAV true _ ?side1 ?side2 ?side3 ?side4 A59.out).mono ?_); (case side1 => repeat (first | exact (Kd.R_reads' HO_10.out).2.2 | (with_reducible refine Kd.C_alloc ?_ _) | (with_reducible refine Kd.C_drewN ?_ _) | (with_reducible refine Kd.C_drew ?_))); (case side2 => exact (Kd.R_reads' HO_10.out).2.1); (case side3 => repeat (first | exact (Kd.R_reads' HOC.out).2.2 | (with_reducible refine Kd.C_alloc ?_ _) | (with_reducible refine Kd.C_drewN ?_ _) | (with_reducible refine Kd.C_drew ?_))); (case side4 => exact (Kd.R_reads' HOC.out).2.1); rintro e w72 ⟨rfl, hb⟩; refine ⟨_, rfl, ?_⟩; replace HO_10 := Aside0.mk (Kd.R_below zz225 hb); replace HO_11 := Aside0.mk (Kd.R_below zz226 hb); replace HOC := Aside0.mk (Kd.R_below zz218 hb); replace BKK := blkA BKK hb; replace BKJ := blkA BKJ hb; replace BKI := blkA BKI hb; replace HB := Aside0.mk (below_step zz70 hb); (try clear hb)) | ((with_reducible refine gate_callee (f := 17) rfl ?_); refine goesL_ (some 62) rfl rfl Try.func17 (by kernel_rfl) rfl #[.slice A1 l1.length c1] rfl zz175 ?_; (with_reducible refine (laws_toRatS.calls kj17 _ _ l1 tAX _ ?side1 ?side2 A61.out).mono ?_); (case side1 => repeat (first | exact (Kd.C_below HR1.out HB.out) | (with_reducible refine Kd.C_alloc ?_ _) | (with_reducible refine Kd.C_drewN ?_ _) | (with_reducible refine Kd.C_drew ?_))); (case side2 => exact HC1.out); rintro e w73 ⟨vBE, rfl, ho0, hb⟩; refine ⟨_, rfl, ?_⟩; have n0_ := Aside0.mk (Kd.R_elder' zz225 (Kd.R_base ho0) hb); have n1_ := Aside0.mk (Kd.R_elder' zz226 (Kd.R_base ho0) hb); have n2_ := Aside0.mk (Kd.R_elder' zz218 (Kd.R_base ho0) hb); have HOA := Aside0.mk (Kd.R_lower (Kd.R_newB (Kd.R_newB (Kd.R_new' (Kd.R_new' (Kd.R_new' ho0 (Kd.R_lt zz225)) (Kd.R_lt zz226)) (Kd.R_lt zz218)) (g := gbJ) (o := .cells #[.int .i64 tO, .int .i64 tP] 47 (0, 0)) zz194) (g := gbI) (o := .cells #[.int .i64 tM, .int .i64 tN] 47 (0, 0)) zz195) (below_size zz70)); clear HO_10 HO_11 HOC; have HO_10 := n0_; have HO_11 := n1_; have HOC := n2_; clear n0_ n1_ n2_; replace BKK := blkA BKK hb; replace BKJ := blkA BKJ hb; replace BKI := blkA BKI hb; replace HB := Aside0.mk (below_step zz70 hb); (try clear hb); (try clear ho0); obtain ⟨Ao74, co74, eo74⟩ := Kd.R_slice HOA.out; subst eo74) | ((with_reducible refine gate_callee (f := 19) rfl ?_); refine goesL_ (some 63) rfl rfl Try.func19 (by kernel_rfl) rfl #[.slice Ao37 tX.length co37, .slice Ao74 tAX.length co74] rfl zz175 ?_; (with_reducible refine (laws_eqRatS.calls kj17 _ _ tX _ _ tAX false _ ?side1 ?side2 ?side3 ?side4 A62.out).mono ?_); (case side1 => repeat (first | exact (Kd.R_reads' HO_11.out).2.2 | (with_reducible refine Kd.C_alloc ?_ _) | (with_reducible refine Kd.C_drewN ?_ _) | (with_reducible refine Kd.C_drew ?_))); (case side2 => exact (Kd.R_reads' HO_11.out).2.1); (case side3 => repeat (first | exact (Kd.R_reads' HOA.out).2.2 | (with_reducible refine Kd.C_alloc ?_ _) | (with_reducible refine Kd.C_drewN ?_ _) | (with_reducible refine Kd.C_drew ?_))); (case side4 => exact (Kd.R_reads' HOA.out).2.1); rintro e w75 ⟨rfl, hb⟩; refine ⟨_, rfl, ?_⟩; replace HO_10 := Aside0.mk (Kd.R_below zz225 hb); replace HO_11 := Aside0.mk (Kd.R_below zz226 hb); replace HOC := Aside0.mk (Kd.R_below zz218 hb); replace HOA := Aside0.mk (Kd.R_below zz219 hb); replace BKK := blkA BKK hb; replace BKJ := blkA BKJ hb; replace BKI := blkA BKI hb; replace HB := Aside0.mk (below_step zz70 hb); (try clear hb)))
        go_ret
        exact ⟨zz233, zz70⟩
      ·replace c60 := Bool.eq_false_iff.mpr c60; subst c60; have H1 : (some false) = some r := by rw [if_neg (show ¬ (false = true) by decide)] at H; exact H
       clear H; have H := H1; clear H1; obtain rfl := Option.some.inj H; go_wp2_with (first | ((with_reducible refine gate_callee (f := 17) rfl ?_); refine goesL_ (some 57) rfl rfl Try.func17 (by kernel_rfl) rfl #[.slice A0 l0.length c0] rfl zz175 ?_; (with_reducible refine (laws_toRatS.calls kj17 _ _ l0 tAV _ ?side1 ?side2 A58.out).mono ?_); (case side1 => repeat (first | exact (Kd.C_below HR0.out HB.out) | (with_reducible refine Kd.C_alloc ?_ _) | (with_reducible refine Kd.C_drewN ?_ _) | (with_reducible refine Kd.C_drew ?_))); (case side2 => exact HC0.out); rintro e w76 ⟨vBD, rfl, ho0, hb⟩; refine ⟨_, rfl, ?_⟩; have n0_ := Aside0.mk (Kd.R_elder' zz225 (Kd.R_base ho0) hb); have n1_ := Aside0.mk (Kd.R_elder' zz226 (Kd.R_base ho0) hb); have HOC := Aside0.mk (Kd.R_lower (Kd.R_newB (Kd.R_newB (Kd.R_new' (Kd.R_new' ho0 (Kd.R_lt zz225)) (Kd.R_lt zz226)) (g := gbJ) (o := .cells #[.int .i64 tO, .int .i64 tP] 47 (0, 0)) zz194) (g := gbI) (o := .cells #[.int .i64 tM, .int .i64 tN] 47 (0, 0)) zz195) (below_size zz70)); clear HO_10 HO_11; have HO_10 := n0_; have HO_11 := n1_; clear n0_ n1_; replace BKK := blkA BKK hb; replace BKJ := blkA BKJ hb; replace BKI := blkA BKI hb; replace HB := Aside0.mk (below_step zz70 hb); (try clear hb); (try clear ho0); obtain ⟨Ao77, co77, eo77⟩ := Kd.R_slice HOC.out; subst eo77) | ((with_reducible refine gate_callee (f := 19) rfl ?_); refine goesL_ (some 58) rfl rfl Try.func19 (by kernel_rfl) rfl #[.slice Ao36 tW.length co36, .slice Ao77 tAV.length co77] rfl zz175 ?_; (with_reducible refine (laws_eqRatS.calls kj17 _ _ tW _ _ tAV false _ ?side1 ?side2 ?side3 ?side4 A59.out).mono ?_); (case side1 => repeat (first | exact (Kd.R_reads' HO_10.out).2.2 | (with_reducible refine Kd.C_alloc ?_ _) | (with_reducible refine Kd.C_drewN ?_ _) | (with_reducible refine Kd.C_drew ?_))); (case side2 => exact (Kd.R_reads' HO_10.out).2.1); (case side3 => repeat (first | exact (Kd.R_reads' HOC.out).2.2 | (with_reducible refine Kd.C_alloc ?_ _) | (with_reducible refine Kd.C_drewN ?_ _) | (with_reducible refine Kd.C_drew ?_))); (case side4 => exact (Kd.R_reads' HOC.out).2.1); rintro e w78 ⟨rfl, hb⟩; refine ⟨_, rfl, ?_⟩; replace HO_10 := Aside0.mk (Kd.R_below zz225 hb); replace HO_11 := Aside0.mk (Kd.R_below zz226 hb); replace HOC := Aside0.mk (Kd.R_below zz218 hb); replace BKK := blkA BKK hb; replace BKJ := blkA BKJ hb; replace BKI := blkA BKI hb; replace HB := Aside0.mk (below_step zz70 hb); (try clear hb)))
       go_ret
       exact ⟨zz233, zz70⟩
def laws_FnExactMassOf.Pure : Prop := ∀ (l0 : List (S43)) (l1 : List (S43)) (a2_0 : Int) (a2_1 : Int) (a2_2 : Int) (a2_3 : Int), l0.length ≤ maxLen → (∀ x ∈ l0, ((Lit.int .i64 x.f0).wf = true ∧ (Lit.int .i64 x.f1).wf = true)) → l1.length ≤ maxLen → (∀ x ∈ l1, ((Lit.int .i64 x.f0).wf = true ∧ (Lit.int .i64 x.f1).wf = true)) → (Lit.int .i64 a2_0).wf = true → (Lit.int .i64 a2_1).wf = true → (Lit.int .i64 a2_2).wf = true → (Lit.int .i64 a2_3).wf = true → ∃ k, laws_FnExactMassOf.f k l0 l1 a2_0 a2_1 a2_2 a2_3 = some true
end Go.Proofs.Ytgejkhbehoabdaa.Q
set_option linter.unusedVariables false
set_option linter.unusedSimpArgs false
namespace Go.Proofs.Ytgejkhbehoabdaa.Pu
open Go.RowKit Go.Proofs.Ytgejkhbehoabdaa.Q Go.Proofs.YtgejkhbehoabdaaW.PrintWords Go.Proofs.YtgejkhbehoabdaaW.PrintLast Go.Proofs.YtgejkhbehoabdaaW.PrintMore
theorem wr (x : Int) (h : -9223372036854775808 ≤ x ∧ x ≤ 9223372036854775807) : wrap64 x = x := by unfold wrap64; omega
theorem getD_setG {α : Type} (l : List α) (i j : Nat) (v d : α) (hi : i < l.length) : (l.set i v).getD j d = if i = j then v else l.getD j d := by
  simp only [List.getD_eq_getElem?_getD, List.getElem?_set]
  by_cases e : i = j
  · subst e; simp [hi]
  · simp [e]
theorem ext_getDG {α : Type} (d : α) (a b : List α) (hl : a.length = b.length) (h : ∀ j, j < a.length → a.getD j d = b.getD j d) : a = b := by
  apply List.ext_getElem hl
  intro j h1 h2
  have := h j h1
  simpa [List.getD_eq_getElem?_getD, h1, h2] using this
theorem half_lt (b r n : Nat) (hb : b < 2 ^ (n + 1)) (hr : r < b) (h0 : 0 < r) : b % r < 2 ^ n := by
  have h1 : b % r < r := Nat.mod_lt _ h0
  have h2 := Nat.div_add_mod b r
  have h3 : 1 ≤ b / r := (Nat.one_le_div_iff h0).2 (Nat.le_of_lt hr)
  have h4 : r * 1 ≤ r * (b / r) := Nat.mul_le_mul_left r h3
  have h5 : 2 ^ (n + 1) = 2 * 2 ^ n := by rw [Nat.pow_succ]; omega
  omega
theorem gcd_l : ∀ (n k a b : Nat), b < 2 ^ n → 2 * n + 1 < k → impl_greatestDivisor.l0 k (a : Int) (b : Int) = some ((Nat.gcd a b : Nat) : Int) := by
  intro n
  induction n with
  | zero =>
    intro k a b hb hk
    obtain ⟨k, rfl⟩ : ∃ m, k = m + 1 := ⟨k - 1, by omega⟩
    have : b = 0 := by simpa using hb
    subst this
    simp [impl_greatestDivisor.l0]
  | succ n ih =>
    intro k a b hb hk
    obtain ⟨k, rfl⟩ : ∃ m, k = m + 2 := ⟨k - 2, by omega⟩
    simp only [impl_greatestDivisor.l0]
    by_cases h0 : b = 0
    · subst h0; simp
    · rw [if_neg (by omega), ← Int.ofNat_tmod]
      by_cases h1 : a % b = 0
      · rw [h1, if_pos (by rfl), Nat.gcd_comm, Nat.gcd_rec, h1, Nat.gcd_zero_left]
      · rw [if_neg (by omega), ← Int.ofNat_tmod, ih k _ _ (half_lt b (a % b) n hb (Nat.mod_lt _ (by omega)) (by omega)) (by omega)]
        congr 2
        rw [Nat.gcd_comm a b, Nat.gcd_rec b a, Nat.gcd_rec (a % b) b, Nat.gcd_comm]
theorem raCommon_l : ∀ (n k a b : Nat), b < 2 ^ n → 2 * n + 1 < k → spec_raCommon.l0 k (a : Int) (b : Int) = some ((Nat.gcd a b : Nat) : Int) := by
  intro n
  induction n with
  | zero =>
    intro k a b hb hk
    obtain ⟨k, rfl⟩ : ∃ m, k = m + 1 := ⟨k - 1, by omega⟩
    have : b = 0 := by simpa using hb
    subst this
    simp [spec_raCommon.l0]
  | succ n ih =>
    intro k a b hb hk
    obtain ⟨k, rfl⟩ : ∃ m, k = m + 2 := ⟨k - 2, by omega⟩
    simp only [spec_raCommon.l0]
    by_cases h0 : b = 0
    · subst h0; simp
    · rw [if_pos (by omega), if_neg (by omega), ← Int.ofNat_tmod]
      by_cases h1 : a % b = 0
      · rw [h1, if_neg (by simp), Nat.gcd_comm, Nat.gcd_rec, h1, Nat.gcd_zero_left]
      · rw [if_pos (by omega), if_neg (by omega), ← Int.ofNat_tmod, ih k _ _ (half_lt b (a % b) n hb (Nat.mod_lt _ (by omega)) (by omega)) (by omega)]
        congr 2
        rw [Nat.gcd_comm a b, Nat.gcd_rec b a, Nat.gcd_rec (a % b) b, Nat.gcd_comm]
theorem abs_eq (a : Int) (h : -9223372036854775807 ≤ a ∧ a ≤ 9223372036854775807) : impl_abs.f a = some (a.natAbs : Int) := by
  unfold impl_abs.f
  split
  · rw [wr _ (by omega)]; congr 1; omega
  · congr 1; omega
theorem l1Abs_eq (a : Int) (h : -9223372036854775807 ≤ a ∧ a ≤ 9223372036854775807) : spec_l1Abs.f a = some (a.natAbs : Int) := by
  unfold spec_l1Abs.f spec_l1Most.f
  rw [wr _ (by omega)]
  split
  · simp only [Option.bind_some]; congr 1; omega
  · simp only [Option.bind_some]; congr 1; omega
theorem gcd_eq (a b : Int) (ha : -9223372036854775807 ≤ a ∧ a ≤ 9223372036854775807) (hb : -9223372036854775807 ≤ b ∧ b ≤ 9223372036854775807) (k : Nat) (hk : 200 ≤ k) : impl_greatestDivisor.f k a b = some ((Int.gcd a b : Nat) : Int) := by
  unfold impl_greatestDivisor.f
  rw [abs_eq a ha, abs_eq b hb]
  simp only [Option.bind_some]
  rw [gcd_l 64 k _ _ (by omega) (by omega)]
  rfl
def OkR (n d : Int) : Prop := 1 ≤ d ∧ d ≤ 1000000000 ∧ -1000000000 ≤ n ∧ n ≤ 1000000000 ∧ Int.gcd n d = 1
instance (n d : Int) : Decidable (OkR n d) := by unfold OkR; infer_instance
theorem isRat_eq (n d : Int) (k : Nat) (hk : 200 ≤ k) : impl_isRat.f k n d = some (decide (OkR n d)) := by
  unfold impl_isRat.f impl_within.f OkR
  by_cases h1 : 1 ≤ d
  · rw [if_pos h1]
    simp only [Option.bind_some]
    by_cases h2 : d ≤ 1000000000
    · rw [if_pos (by simpa using h2)]
      by_cases h3 : -1000000000 ≤ n
      · rw [if_pos h3]
        simp only [Option.bind_some]
        by_cases h4 : n ≤ 1000000000
        · rw [if_pos (by simpa using h4), gcd_eq n d (by omega) (by omega) k hk]
          simp only [Option.bind_some]
          congr 1
          simp only [h1, h2, h3, h4, true_and]
          rw [Bool.eq_iff_iff]
          simp only [beq_iff_eq, decide_eq_true_eq]
          omega
        · rw [if_neg (by simpa using h4)]; simp [h4]
      · rw [if_neg h3]; simp [h3]
    · rw [if_neg (by simpa using h2)]; simp [h2]
  · rw [if_neg h1]; simp [h1]
theorem raGood_eq (n d : Int) (k : Nat) (hk : 200 ≤ k) : spec_raGood.f k n d = some (decide (OkR n d)) := by
  unfold spec_raGood.f spec_l1In.f OkR
  by_cases h1 : 1 ≤ d
  · rw [if_pos h1]
    simp only [Option.bind_some]
    by_cases h2 : d ≤ 1000000000
    · rw [if_pos (by simpa using h2)]
      by_cases h3 : -1000000000 ≤ n
      · rw [if_pos h3]
        simp only [Option.bind_some]
        by_cases h4 : n ≤ 1000000000
        · rw [if_pos (by simpa using h4), l1Abs_eq n (by omega)]
          simp only [Option.bind_some]
          unfold spec_raCommon.f
          have := raCommon_l 64 k n.natAbs d.natAbs (by omega) (by omega)
          rw [show (d.natAbs : Int) = d by omega] at this
          rw [this]
          simp only [Option.bind_some]
          congr 1
          simp only [h1, h2, h3, h4, true_and]
          rw [Bool.eq_iff_iff, Int.gcd_eq_natAbs_gcd_natAbs]
          simp only [beq_iff_eq, decide_eq_true_eq]
          omega
        · rw [if_neg (by simpa using h4)]; simp [h4]
      · rw [if_neg h3]; simp [h3]
    · rw [if_neg (by simpa using h2)]; simp [h2]
  · rw [if_neg h1]; simp [h1]
def sg (n d : Int) : Int := if d < 0 then -(Int.gcd n d : Int) else (Int.gcd n d : Int)
def mk (n d : Int) : Int × Int × Bool := if OkR (n.tdiv (sg n d)) (d.tdiv (sg n d)) then (n.tdiv (sg n d), d.tdiv (sg n d), true) else (0, 0, false)
theorem tdiv_bd (n q : Int) (h : -9223372036854775807 ≤ n ∧ n ≤ 9223372036854775807) : -9223372036854775808 ≤ n.tdiv q ∧ n.tdiv q ≤ 9223372036854775807 := by
  have h1 := Int.natAbs_tdiv n q
  have h2 : n.natAbs.div q.natAbs ≤ n.natAbs := Nat.div_le_self _ _
  omega
theorem gcd_pos (n d : Int) (hd : d ≠ 0) : 0 < Int.gcd n d := by
  rw [Int.gcd_eq_natAbs_gcd_natAbs]
  exact Nat.gcd_pos_of_pos_right _ (by omega)
theorem gcd_le (n d : Int) (hd : d ≠ 0) : Int.gcd n d ≤ d.natAbs := by
  rw [Int.gcd_eq_natAbs_gcd_natAbs]
  exact Nat.gcd_le_right _ (by omega)
theorem lowest_eq (n d : Int) (hd : d ≠ 0) (hn : -9223372036854775807 ≤ n ∧ n ≤ 9223372036854775807) (hd2 : -9223372036854775807 ≤ d ∧ d ≤ 9223372036854775807) (k : Nat) (hk : 200 ≤ k) : impl_lowest.f k n d = some (mk n d) := by
  unfold impl_lowest.f mk
  have h1 := gcd_pos n d hd
  have h2 := gcd_le n d hd
  rw [gcd_eq n d hn hd2 k hk]
  simp only [Option.bind_some]
  unfold sg
  split
  · rw [wr (-(Int.gcd n d : Int)) (by omega), if_neg (by omega), wr _ (tdiv_bd _ _ hn), wr _ (tdiv_bd _ _ hd2), isRat_eq _ _ k hk]
    simp only [Option.bind_some, decide_eq_true_eq]
    split <;> rfl
  · rw [if_neg (by omega), wr _ (tdiv_bd _ _ hn), wr _ (tdiv_bd _ _ hd2), isRat_eq _ _ k hk]
    simp only [Option.bind_some, decide_eq_true_eq]
    split <;> rfl
theorem raMake_eq (n d : Int) (hd : d ≠ 0) (hn : -9223372036854775807 ≤ n ∧ n ≤ 9223372036854775807) (hd2 : -9223372036854775807 ≤ d ∧ d ≤ 9223372036854775807) (k : Nat) (hk : 200 ≤ k) : spec_raMake.f k n d = some (mk n d) := by
  unfold spec_raMake.f mk
  have h1 := gcd_pos n d hd
  have h2 := gcd_le n d hd
  rw [if_neg hd, l1Abs_eq n hn, l1Abs_eq d hd2]
  simp only [Option.bind_some]
  unfold spec_raCommon.f
  rw [raCommon_l 64 k _ _ (by omega) (by omega)]
  simp only [Option.bind_some]
  rw [← Int.gcd_eq_natAbs_gcd_natAbs]
  unfold sg
  split
  · rw [wr (-(Int.gcd n d : Int)) (by omega), if_neg (by omega), wr _ (tdiv_bd _ _ hn), wr _ (tdiv_bd _ _ hd2), raGood_eq _ _ k hk]
    simp only [Option.bind_some, decide_eq_true_eq]
    split <;> rfl
  · rw [if_neg (by omega), wr _ (tdiv_bd _ _ hn), wr _ (tdiv_bd _ _ hd2), raGood_eq _ _ k hk]
    simp only [Option.bind_some, decide_eq_true_eq]
    split <;> rfl
theorem mk_ok (n d : Int) (h : (mk n d).2.2 = true) : OkR (mk n d).1 (mk n d).2.1 := by
  unfold mk at h ⊢
  split
  · rename_i h1; exact h1
  · rename_i h1; rw [if_neg h1] at h; cases h
end Go.Proofs.Ytgejkhbehoabdaa.Pu
set_option linter.unusedVariables false
set_option linter.unusedSimpArgs false
namespace Go.Proofs.Ytgejkhbehoabdaa.Pu
open Go.RowKit Go.Proofs.Ytgejkhbehoabdaa.Q Go.Proofs.YtgejkhbehoabdaaW.PrintWords Go.Proofs.YtgejkhbehoabdaaW.PrintLast Go.Proofs.YtgejkhbehoabdaaW.PrintMore
theorem rdRat (l : List S47) (i : Nat) : rd_T47 l (i : Int) = l.getD i z47 := by simp [rd_T47]
theorem rdlRat (l : List S43) (i : Nat) : rd_T43 l (i : Int) = l.getD i z43 := by simp [rd_T43]
def cvRat (x : S43) : S47 := ⟨x.f0, x.f1⟩
theorem cvRat_getD (l : List S43) (i : Nat) (h : i < l.length) : (l.map cvRat).getD i z47 = cvRat (l.getD i z43) := by
  simp [List.getD_eq_getElem?_getD, h]
theorem toRatS_l (x0 : List S43) (hb : x0.length ≤ 9000000000000000000) : ∀ (d k : Nat) (x3 : List S47) (i : Nat), i + d = x0.length → x3.length = x0.length → (∀ j, j < i → x3.getD j z47 = cvRat (x0.getD j z43)) → d < k → laws_toRatS.l0 k x0 x3 (i : Int) = some (x0.map cvRat) := by
  intro d
  induction d with
  | zero =>
    intro k x3 i hi hl hj hk
    obtain ⟨k, rfl⟩ : ∃ m, k = m + 1 := ⟨k - 1, by omega⟩
    simp only [laws_toRatS.l0]
    rw [if_neg (by omega), ext_getDG z47 x3 (x0.map cvRat) (by simpa using hl) (fun j h => by rw [hj j (by omega), cvRat_getD _ _ (by omega)])]
  | succ d ih =>
    intro k x3 i hi hl hj hk
    obtain ⟨k, rfl⟩ : ∃ m, k = m + 1 := ⟨k - 1, by omega⟩
    simp only [laws_toRatS.l0, laws_toRat.f, laws_toRat.f, Option.bind_some]
    rw [if_pos (by omega), if_pos (by omega), if_pos (by omega), wr _ (by omega), Int.toNat_natCast, rdlRat]
    refine ih k _ (i + 1) (by omega) (by simpa using hl) (fun j h => ?_) (by omega)
    rw [getD_setG _ _ _ _ _ (by omega)]
    split
    · rename_i e; rw [← e]; rfl
    · exact hj j (by omega)
theorem toRatS (l : List S43) (hb : l.length ≤ 1048576) (k : Nat) (hk : l.length < k) : laws_toRatS.f k l = some (l.map cvRat) := by
  unfold laws_toRatS.f
  rw [if_pos (by omega), if_pos (by omega)]
  exact toRatS_l l (by omega) l.length k _ 0 (by omega) (by simp) (fun j h => by omega) hk
theorem eqRat_self (x : S47) : laws_eqRat.f x.f0 x.f1 x.f0 x.f1 = some true := by
  simp [laws_eqRat.f, laws_eqRat.f]
theorem eqRatS_l (a : List S47) (hb : a.length ≤ 9000000000000000000) : ∀ (d k : Nat) (i : Nat), i + d = a.length → d < k → laws_eqRatS.l0 k a a (i : Int) = some true := by
  intro d
  induction d with
  | zero =>
    intro k i hi hk
    obtain ⟨k, rfl⟩ : ∃ m, k = m + 1 := ⟨k - 1, by omega⟩
    simp only [laws_eqRatS.l0]
    rw [if_neg (by omega)]
  | succ d ih =>
    intro k i hi hk
    obtain ⟨k, rfl⟩ : ∃ m, k = m + 1 := ⟨k - 1, by omega⟩
    simp only [laws_eqRatS.l0, eqRat_self, Option.bind_some]
    rw [if_pos (by omega), if_pos (by omega), if_pos (by omega), wr _ (by omega)]
    exact ih k (i + 1) (by omega) (by omega)
theorem eqRatS_self (a : List S47) (hb : a.length ≤ 9000000000000000000) (k : Nat) (hk : a.length < k) : laws_eqRatS.f k a a = some true := by
  unfold laws_eqRatS.f
  rw [if_pos rfl]
  exact eqRatS_l a hb a.length k 0 (by omega) hk
end Go.Proofs.Ytgejkhbehoabdaa.Pu
set_option linter.unusedVariables false
set_option linter.unusedSimpArgs false
namespace Go.Proofs.Ytgejkhbehoabdaa.Pu
open Go.RowKit Go.Proofs.Ytgejkhbehoabdaa.Q Go.Proofs.YtgejkhbehoabdaaW.PrintWords Go.Proofs.YtgejkhbehoabdaaW.PrintLast Go.Proofs.YtgejkhbehoabdaaW.PrintMore
theorem mul_bd (x y : Int) (B C : Nat) (hx : x.natAbs ≤ B) (hy : y.natAbs ≤ C) : (x * y).natAbs ≤ B * C := by
  rw [Int.natAbs_mul]
  exact Nat.mul_le_mul hx hy
def Bd (n d : Int) : Prop := n.natAbs ≤ 1000000000 ∧ d.natAbs ≤ 1000000000
theorem OkR.bd {n d : Int} (h : OkR n d) : Bd n d := by
  obtain ⟨h1, h2, h3, h4, _⟩ := h
  exact ⟨by omega, by omega⟩
theorem cross_bd {a b c d : Int} (h1 : Bd a b) (h2 : Bd c d) : (a * d).natAbs ≤ 1000000000000000000 ∧ (c * b).natAbs ≤ 1000000000000000000 ∧ (b * d).natAbs ≤ 1000000000000000000 ∧ (a * c).natAbs ≤ 1000000000000000000 :=
  ⟨mul_bd a d _ _ h1.1 h2.2, mul_bd c b _ _ h2.1 h1.2, mul_bd b d _ _ h1.2 h2.2, mul_bd a c _ _ h1.1 h2.1⟩
theorem less_eq {a b c d : Int} (h1 : Bd a b) (h2 : Bd c d) : impl_less.f a b c d = some (decide (a * d < c * b)) := by
  obtain ⟨m1, m2, _⟩ := cross_bd h1 h2
  unfold impl_less.f impl_compare.f
  generalize a * d = p at *
  generalize c * b = q at *
  rw [wr p (by omega), wr q (by omega)]
  by_cases h : p < q
  · rw [if_pos h]; simp [h]
  · rw [if_neg h]
    by_cases h3 : p > q
    · rw [if_pos h3]; simp [h]
    · rw [if_neg h3]; simp [h]
theorem raCmp_eq {a b c d : Int} (h1 : Bd a b) (h2 : Bd c d) : ∃ t, spec_raCmp.f a b c d = some t ∧ (t < 0 ↔ a * d < c * b) ∧ (t = 0 ↔ a * d = c * b) := by
  obtain ⟨m1, m2, _⟩ := cross_bd h1 h2
  unfold spec_raCmp.f spec_l1Sign.f
  generalize a * d = p at *
  generalize c * b = q at *
  rw [wr p (by omega), wr q (by omega), wr (p - q) (by omega)]
  by_cases h : p - q > 0
  · rw [if_pos h]
    exact ⟨1, rfl, by omega, by omega⟩
  · rw [if_neg h]
    by_cases h3 : p - q < 0
    · rw [if_pos h3]
      exact ⟨-1, rfl, by omega, by omega⟩
    · rw [if_neg h3]
      exact ⟨0, rfl, by omega, by omega⟩
def OkU (n d : Int) : Prop := OkR n d ∧ 0 ≤ n ∧ n ≤ d
instance (n d : Int) : Decidable (OkU n d) := by unfold OkU; infer_instance
def Co (n d : Int) : Prop := OkU n d ∧ d ≤ 100
instance (n d : Int) : Decidable (Co n d) := by unfold Co; infer_instance
theorem isUnit_eq (n d : Int) (k : Nat) (hk : 200 ≤ k) : impl_isUnit.f k n d = some (decide (OkU n d)) := by
  unfold impl_isUnit.f OkU
  rw [isRat_eq n d k hk]
  simp only [Option.bind_some, decide_eq_true_eq]
  by_cases h : OkR n d
  · rw [if_pos h]
    by_cases h2 : n ≥ 0
    · rw [if_pos h2]; simp [h, h2]
    · rw [if_neg h2]; simp [h2]
  · rw [if_neg h]; simp [h]
theorem raUnit_eq (n d : Int) (k : Nat) (hk : 200 ≤ k) : spec_raUnit.f k n d = some (decide (OkU n d)) := by
  unfold spec_raUnit.f spec_l1In.f OkU
  rw [raGood_eq n d k hk]
  simp only [Option.bind_some, decide_eq_true_eq]
  by_cases h : OkR n d
  · rw [if_pos h]
    by_cases h2 : n ≥ 0
    · rw [if_pos h2]; simp [h, h2]
    · rw [if_neg h2]; simp [h2]
  · rw [if_neg h]; simp [h]
abbrev Ra := S47
abbrev Pt := S79
def nr (l : List Ra) (i : Nat) : Ra := l.getD i z47
def np (l : List Pt) (i : Nat) : Pt := l.getD i z79
theorem rd_nr (l : List Ra) (i : Nat) : rd_T47 l (i : Int) = nr l i := rdRat l i
theorem rd_nr0 (l : List Ra) : rd_T47 l 0 = nr l 0 := rdRat l 0
theorem nr_mem (l : List Ra) (i : Nat) (h : i < l.length) : nr l i ∈ l := getD_mem l i _ h
theorem mem_nr (l : List Ra) (x : Ra) (h : x ∈ l) : ∃ i, i < l.length ∧ nr l i = x := by
  obtain ⟨i, hi, e⟩ := List.mem_iff_getElem.1 h
  exact ⟨i, hi, by simp [nr, List.getD_eq_getElem?_getD, hi, e]⟩
def Lt (a b : Ra) : Prop := a.f0 * b.f1 < b.f0 * a.f1
instance (a b : Ra) : Decidable (Lt a b) := by unfold Lt; infer_instance
def BdR (a : Ra) : Prop := Bd a.f0 a.f1
theorem rising_l (l : List Ra) (hl : l.length ≤ 1048576) (hb : ∀ x ∈ l, BdR x) : ∀ (d k i : Nat), 1 ≤ i → i + d = l.length ∨ d = 0 ∧ l.length ≤ i ∧ i ≤ 1048577 → d < k →
    ∃ b, impl_isRising.l0 k l (i : Int) = some b ∧ (b = true ↔ ∀ j, i ≤ j → j < l.length → Lt (nr l (j - 1)) (nr l j)) := by
  intro d
  induction d with
  | zero =>
    intro k i h1 hi hk
    obtain ⟨k, rfl⟩ : ∃ m, k = m + 1 := ⟨k - 1, by omega⟩
    simp only [impl_isRising.l0]
    rw [if_neg (by omega)]
    exact ⟨true, rfl, by simp; intro j _ _; omega⟩
  | succ d ih =>
    intro k i h1 hi hk
    obtain ⟨k, rfl⟩ : ∃ m, k = m + 1 := ⟨k - 1, by omega⟩
    simp only [impl_isRising.l0]
    rw [wr (_ - 1) (by omega), wr (_ + 1) (by omega), if_pos (by omega), if_pos (by omega), if_pos (by omega), if_pos (by omega),
      show (i : Int) - 1 = ((i - 1 : Nat) : Int) by omega, show (i : Int) + 1 = ((i + 1 : Nat) : Int) by omega, rd_nr, rd_nr, less_eq (hb _ (nr_mem l _ (by omega))) (hb _ (nr_mem l _ (by omega)))]
    simp only [Option.bind_some, decide_eq_true_eq]
    by_cases h : Lt (nr l (i - 1)) (nr l i)
    · rw [if_pos (show (nr l (i - 1)).f0 * (nr l i).f1 < (nr l i).f0 * (nr l (i - 1)).f1 from h)]
      obtain ⟨b, e, hb2⟩ := ih k (i + 1) (by omega) (by omega) (by omega)
      refine ⟨b, e, hb2.trans ⟨fun hh j hj hl2 => ?_, fun hh j hj hl2 => hh j (by omega) hl2⟩⟩
      by_cases ej : j = i
      · subst ej; exact h
      · exact hh j (by omega) hl2
    · rw [if_neg (show ¬ (nr l (i - 1)).f0 * (nr l i).f1 < (nr l i).f0 * (nr l (i - 1)).f1 from h)]
      exact ⟨false, rfl, by simp; exact ⟨i, Nat.le_refl _, by omega, h⟩⟩
def Rising (l : List Ra) : Prop := ∀ j, 1 ≤ j → j < l.length → Lt (nr l (j - 1)) (nr l j)
theorem rising_eq (l : List Ra) (hl : l.length ≤ 1048576) (hb : ∀ x ∈ l, BdR x) (k : Nat) (hk : l.length < k) : ∃ b, impl_isRising.f k l = some b ∧ (b = true ↔ Rising l) := by
  unfold impl_isRising.f
  exact rising_l l hl hb (l.length - 1) k 1 (by omega) (by omega) (by omega)
def CoP (p : Pt) : Prop := Co p.f0.f0 p.f0.f1 ∧ Co p.f1.f0 p.f1.f1
instance (p : Pt) : Decidable (CoP p) := by unfold CoP; infer_instance
structure IsMap (l : List Pt) : Prop where
  two : 2 ≤ l.length
  most : l.length ≤ 12
  co : ∀ i, i < l.length → CoP (np l i)
  up : ∀ i, 1 ≤ i → i < l.length → Lt (np l (i - 1)).f0 (np l i).f0
  first : (np l 0).f0 = ⟨0, 1⟩
  last : (np l (l.length - 1)).f0 = ⟨1, 1⟩
theorem CoP.by {p : Pt} (h : CoP p) : BdR p.f1 := h.2.1.1.bd
end Go.Proofs.Ytgejkhbehoabdaa.Pu
set_option linter.unusedVariables false
set_option linter.unusedSimpArgs false
namespace Go.Proofs.Ytgejkhbehoabdaa.Pu
open Go.RowKit Go.Proofs.Ytgejkhbehoabdaa.Q Go.Proofs.YtgejkhbehoabdaaW.PrintWords Go.Proofs.YtgejkhbehoabdaaW.PrintLast Go.Proofs.YtgejkhbehoabdaaW.PrintMore
abbrev Tri := Int × Int × Bool
def kp (s : Bool) (m : Tri) : Tri := if m.2.2 = true then (m.1, m.2.1, s) else (0, 1, true)
theorem keep_eq (s : Bool) (m : Tri) : impl_calc_keep.f s m.1 m.2.1 m.2.2 = some (kp s m) := by
  unfold impl_calc_keep.f kp impl_zero.f
  split <;> rfl
theorem ok_zero : OkR 0 1 := by unfold OkR; decide
theorem kp_ok {s : Bool} {m : Tri} (h : m.2.2 = true → OkR m.1 m.2.1) : OkR (kp s m).1 (kp s m).2.1 := by
  unfold kp
  split
  · rename_i h1; exact h h1
  · exact ok_zero
theorem kp_bad (s : Bool) (m : Tri) : (kp s m).2.2 = (s || !m.2.2) := by
  unfold kp
  cases m.2.2 <;> simp
theorem kp_val {s : Bool} {m : Tri} (h : m.2.2 = true) : kp s m = (m.1, m.2.1, s) := by
  unfold kp
  rw [if_pos h]
theorem areRats2 (a b : Ra) (k : Nat) (hk : 300 ≤ k) : impl_areRats.f k [a, b] = some (decide (OkR a.f0 a.f1) && decide (OkR b.f0 b.f1)) := by
  unfold impl_areRats.f
  obtain ⟨k, rfl⟩ : ∃ m, k = m + 3 := ⟨k - 3, by omega⟩
  have r0 : rd_T47 [a, b] 0 = a := rfl
  have r1 : rd_T47 [a, b] 1 = b := rfl
  simp only [impl_areRats.l0, List.length_cons, List.length_nil]
  rw [if_pos (by decide), if_pos (by decide), if_pos (by decide), r0, isRat_eq _ _ _ (by omega)]
  simp only [Option.bind_some, decide_eq_true_eq]
  by_cases h : OkR a.f0 a.f1
  · rw [if_pos h]
    have e1 : wrap64 (0 + 1) = 1 := wr _ (by decide)
    have e2 : wrap64 (1 + 1) = 2 := wr _ (by decide)
    rw [e1, if_pos (by decide), if_pos (by decide), if_pos (by decide), r1, isRat_eq _ _ _ (by omega)]
    simp only [Option.bind_some, decide_eq_true_eq]
    by_cases h2 : OkR b.f0 b.f1
    · rw [if_pos h2, e2, if_neg (by decide)]
      simp [h, h2]
    · rw [if_neg h2]; simp [h2]
  · rw [if_neg h]; simp [h]
def addT (a b c d : Int) : Tri := mk (a * d + c * b) (b * d)
def subT (a b c d : Int) : Tri := mk (a * d - c * b) (b * d)
def mulT (a b c d : Int) : Tri := mk (a * c) (b * d)
theorem addT_ok (a b c d : Int) (h : (addT a b c d).2.2 = true) : OkR (addT a b c d).1 (addT a b c d).2.1 := mk_ok _ _ h
theorem subT_ok (a b c d : Int) (h : (subT a b c d).2.2 = true) : OkR (subT a b c d).1 (subT a b c d).2.1 := mk_ok _ _ h
theorem mulT_ok (a b c d : Int) (h : (mulT a b c d).2.2 = true) : OkR (mulT a b c d).1 (mulT a b c d).2.1 := mk_ok _ _ h
theorem den_pos {a b c d : Int} (h1 : OkR a b) (h2 : OkR c d) : b * d ≠ 0 := by
  have := Int.mul_pos (show 0 < b by have := h1.1; omega) (show 0 < d by have := h2.1; omega)
  omega
section
variable {a b c d : Int} (h1 : OkR a b) (h2 : OkR c d) (k : Nat)
include h1 h2
theorem addRats_eq (hk : 300 ≤ k) : impl_AddRats.f k a b c d = some (addT a b c d) := by
  unfold impl_AddRats.f
  rw [areRats2 _ _ k hk, decide_eq_true h1, decide_eq_true h2]
  simp only [Option.bind_some, Bool.and_true, if_true]
  obtain ⟨m1, m2, m3, _⟩ := cross_bd h1.bd h2.bd
  have hd := den_pos h1 h2
  rw [wr (a * d) (by omega), wr (c * b) (by omega), wr (b * d) (by omega), wr _ (by omega), lowest_eq _ _ hd (by omega) (by omega) k (by omega)]
  rfl
theorem raAdd_eq (hk : 300 ≤ k) : spec_raAdd.f k a b c d = some (addT a b c d) := by
  unfold spec_raAdd.f
  obtain ⟨m1, m2, m3, _⟩ := cross_bd h1.bd h2.bd
  have hd := den_pos h1 h2
  rw [wr (a * d) (by omega), wr (c * b) (by omega), wr (b * d) (by omega), wr _ (by omega), raMake_eq _ _ hd (by omega) (by omega) k (by omega)]
  rfl
theorem raSub_eq (hk : 300 ≤ k) : spec_raSub.f k a b c d = some (subT a b c d) := by
  unfold spec_raSub.f
  obtain ⟨m1, m2, m3, _⟩ := cross_bd h1.bd h2.bd
  have hd := den_pos h1 h2
  rw [wr (a * d) (by omega), wr (c * b) (by omega), wr (b * d) (by omega), wr _ (by omega), raMake_eq _ _ hd (by omega) (by omega) k (by omega)]
  rfl
theorem raMul_eq (hk : 300 ≤ k) : spec_raMul.f k a b c d = some (mulT a b c d) := by
  unfold spec_raMul.f
  obtain ⟨m1, m2, m3, m4⟩ := cross_bd h1.bd h2.bd
  have hd := den_pos h1 h2
  rw [wr (a * c) (by omega), wr (b * d) (by omega), raMake_eq _ _ hd (by omega) (by omega) k (by omega)]
  rfl
omit h1 in
theorem negated_ok : OkR (-c) d := by
  obtain ⟨e1, e2, e3, e4, e5⟩ := h2
  exact ⟨e1, e2, by omega, by omega, by rw [Int.neg_gcd]; exact e5⟩
theorem subRats_eq (hk : 300 ≤ k) : impl_SubtractRats.f k a b c d = some (subT a b c d) := by
  unfold impl_SubtractRats.f impl_negated.f
  have hb := h2.bd
  simp only [Option.bind_some]
  rw [wr (-c) (by unfold Bd at hb; omega), addRats_eq h1 (negated_ok h2) k hk]
  simp only [Option.bind_some]
  unfold addT subT
  rw [Int.neg_mul]
  rfl
theorem mulRats_eq (hk : 300 ≤ k) : impl_MultiplyRats.f k a b c d = some (mulT a b c d) := by
  unfold impl_MultiplyRats.f
  rw [areRats2 _ _ k hk, decide_eq_true h1, decide_eq_true h2]
  simp only [Option.bind_some, Bool.and_true, if_true]
  obtain ⟨m1, m2, m3, m4⟩ := cross_bd h1.bd h2.bd
  have hd := den_pos h1 h2
  rw [wr (a * c) (by omega), wr (b * d) (by omega), lowest_eq _ _ hd (by omega) (by omega) k (by omega)]
  rfl
theorem calc_add (s : Bool) (hk : 300 ≤ k) : impl_calc_add.f k s a b c d = some (kp s (addT a b c d)) := by
  unfold impl_calc_add.f
  rw [addRats_eq h1 h2 k hk, Option.bind_some, keep_eq, Option.bind_some]
theorem calc_sub (s : Bool) (hk : 300 ≤ k) : impl_calc_sub.f k s a b c d = some (kp s (subT a b c d)) := by
  unfold impl_calc_sub.f
  rw [subRats_eq h1 h2 k hk, Option.bind_some, keep_eq, Option.bind_some]
theorem calc_mul (s : Bool) (hk : 300 ≤ k) : impl_calc_mul.f k s a b c d = some (kp s (mulT a b c d)) := by
  unfold impl_calc_mul.f
  rw [mulRats_eq h1 h2 k hk, Option.bind_some, keep_eq, Option.bind_some]
end
structure Seg (p q : Pt) : Prop where
  cp : CoP p
  cq : CoP q
  lt : Lt p.f0 q.f0
theorem IsMap.seg {l : List Pt} (h : IsMap l) (i : Nat) (hi : i + 1 < l.length) : Seg (np l i) (np l (i + 1)) :=
  ⟨h.co i (by omega), h.co (i + 1) hi, by have := h.up (i + 1) (by omega) hi; rwa [Nat.add_sub_cancel] at this⟩
end Go.Proofs.Ytgejkhbehoabdaa.Pu
set_option linter.unusedVariables false
set_option linter.unusedSimpArgs false
namespace Go.Proofs.Ytgejkhbehoabdaa.Pu
open Go.RowKit Go.Proofs.Ytgejkhbehoabdaa.Q Go.Proofs.YtgejkhbehoabdaaW.PrintWords Go.Proofs.YtgejkhbehoabdaaW.PrintLast Go.Proofs.YtgejkhbehoabdaaW.PrintMore
structure Rel (s : Bool) (v m : Tri) : Prop where
  ok : OkR v.1 v.2.1
  bad : v.2.2 = (s || !m.2.2)
  val : m.2.2 = true → v.1 = m.1 ∧ v.2.1 = m.2.1
def Units (l : List Ra) : Prop := ∀ x ∈ l, OkU x.f0 x.f1
instance (l : List Ra) : Decidable (Units l) := by unfold Units; infer_instance
theorem areUnits_eq (l : List Ra) (k : Nat) (hk : 300 ≤ k) : impl_areUnits.f k l = some (decide (Units l)) := by
  unfold impl_areUnits.f ContainsFunc_impl_areUnits_1.f
  rw [anyS_of (p := fun x => !decide (OkU x.f0 x.f1)) (fun x _ => by
    unfold impl_areUnits_1.f
    rw [isUnit_eq _ _ k (by omega)]
    rfl), Option.bind_some]
  congr 1
  rw [Bool.eq_iff_iff]
  rw [Bool.not_eq_true', decide_eq_true_eq, ← Bool.not_eq_true, List.any_eq_true]
  constructor
  · intro h x hx
    by_cases hu : OkU x.f0 x.f1
    · exact hu
    · exact absurd ⟨x, hx, by simp [hu]⟩ h
  · rintro h ⟨x, hx, hn⟩
    simp [h x hx] at hn
def Pseudo (l : List Ra) : Prop := 1 ≤ l.length ∧ l.length ≤ 20 ∧ Units l
instance (l : List Ra) : Decidable (Pseudo l) := by unfold Pseudo; infer_instance
theorem Pseudo.unit {l : List Ra} (h : Pseudo l) (i : Nat) (hi : i < l.length) : OkU (nr l i).f0 (nr l i).f1 := h.2.2 _ (nr_mem l i hi)
end Go.Proofs.Ytgejkhbehoabdaa.Pu
set_option linter.unusedVariables false
set_option linter.unusedSimpArgs false
namespace Go.Proofs.Ytgejkhbehoabdaa.Pu
open Go.RowKit Go.Proofs.Ytgejkhbehoabdaa.Q Go.Proofs.YtgejkhbehoabdaaW.PrintWords Go.Proofs.YtgejkhbehoabdaaW.PrintLast Go.Proofs.YtgejkhbehoabdaaW.PrintMore
def buildO (g : Nat → Tri) : Nat → Nat → List Ra → Option (List Ra)
  | 0, _, out => some out
  | n + 1, i, out => if (g i).2.2 = true then buildO g n (i + 1) (out ++ [⟨(g i).1, (g i).2.1⟩]) else none
theorem buildO_len (g : Nat → Tri) : ∀ n i out o, buildO g n i out = some o → o.length = out.length + n := by
  intro n
  induction n with
  | zero => intro i out o h; cases h; rfl
  | succ n ih =>
    intro i out o h
    unfold buildO at h
    split at h
    · have := ih _ _ _ h
      simp at this
      omega
    · cases h
theorem buildO_ok (g : Nat → Tri) (hg : ∀ i, (g i).2.2 = true → OkR (g i).1 (g i).2.1) : ∀ n i out o, (∀ x ∈ out, OkR x.f0 x.f1) → buildO g n i out = some o → ∀ x ∈ o, OkR x.f0 x.f1 := by
  intro n
  induction n with
  | zero => intro i out o h1 h; cases h; exact h1
  | succ n ih =>
    intro i out o h1 h
    unfold buildO at h
    split at h
    · rename_i hh
      refine ih _ _ _ (fun x hx => ?_) h
      rcases List.mem_append.1 hx with hx | hx
      · exact h1 x hx
      · rw [List.mem_singleton.1 hx]; exact hg i hh
    · cases h
structure Flag (s : Bool) (o : List Ra) (t : Bool) (b : Option (List Ra)) (n : Nat) : Prop where
  len : o.length = n
  ok : ∀ x ∈ o, OkR x.f0 x.f1
  bad : s = true → t = true
  none : s = false → t = b.isNone
  val : s = false → ∀ z, b = some z → o = z
theorem flag_end (s : Bool) (out : List Ra) (h : ∀ x ∈ out, OkR x.f0 x.f1) : Flag s out s (some out) out.length := ⟨rfl, h, fun h => h, fun h => h, fun _ z hz => by cases hz; rfl⟩
theorem flag_step {g : Nat → Tri} {n i : Nat} {out o : List Ra} {s t : Bool} {m : Nat} (h : Flag (kp s (g i)).2.2 o t (buildO g n (i + 1) (out ++ [⟨(kp s (g i)).1, (kp s (g i)).2.1⟩])) m) : Flag s o t (buildO g (n + 1) i out) m := by
  refine ⟨h.len, h.ok, fun hs => h.bad (by rw [kp_bad, hs]; rfl), fun hs => ?_, fun hs z hz => ?_⟩
  · unfold buildO
    cases hg : (g i).2.2 with
    | true =>
      have h2 := h.none (by rw [kp_bad, hs, hg]; rfl)
      rw [if_pos rfl, h2, kp_val hg]
    | false =>
      rw [if_neg (by decide)]
      exact h.bad (by rw [kp_bad, hg]; simp)
  · unfold buildO at hz
    cases hg : (g i).2.2 with
    | true =>
      rw [hg, if_pos rfl] at hz
      refine h.val (by rw [kp_bad, hs, hg]; rfl) z ?_
      rw [kp_val hg]
      exact hz
    | false => rw [hg, if_neg (by decide)] at hz; cases hz
def Oks (l : List Ra) : Prop := ∀ x ∈ l, OkR x.f0 x.f1
theorem out_ok {out : List Ra} (h : Oks out) {a b : Int} (hx : OkR a b) : Oks (out ++ [(⟨a, b⟩ : Ra)]) := fun x hx2 => by
  rcases List.mem_append.1 hx2 with hx2 | hx2
  · exact h x hx2
  · rw [List.mem_singleton.1 hx2]; exact hx
def widthT (p : List Ra) (i : Nat) : Tri := subT (nr p i).f0 (nr p i).f1 (nr p (i - 1)).f0 (nr p (i - 1)).f1
def widthsO (p : List Ra) : Option (List Ra) := buildO (widthT p) (p.length - 1) 1 []
def retB (o : Option (List Ra)) : List Ra × Bool := match o with | some l => (l, true) | none => ([], false)
abbrev Iv := S63
def btL (p : List Ra) (d i : Nat) : List Iv := (List.range d).map fun (j : Nat) => ⟨nr p (i - 1 + j), nr p (i + j)⟩
theorem btL_succ (p : List Ra) (d i : Nat) (h : 1 ≤ i) : btL p (d + 1) i = ⟨nr p (i - 1), nr p i⟩ :: btL p d (i + 1) := by
  unfold btL
  rw [List.range_succ_eq_map, List.map_cons, List.map_map]
  congr 1
  apply List.map_congr_left
  intro j _
  simp only [Function.comp]
  congr 2 <;> omega
theorem between_l (p : List Ra) (hl : p.length ≤ 1048576) : ∀ (d k i : Nat) (out : List Iv), 1 ≤ i → i + d = p.length ∨ d = 0 ∧ p.length ≤ i → out.length ≤ i → d < k → impl_between.l0 k p out (i : Int) = some (out ++ btL p d i) := by
  intro d
  induction d with
  | zero =>
    intro k i out h1 hi ho hk
    obtain ⟨k, rfl⟩ : ∃ m, k = m + 1 := ⟨k - 1, by omega⟩
    simp only [impl_between.l0]
    rw [if_neg (by omega)]
    simp [btL]
  | succ d ih =>
    intro k i out h1 hi ho hk
    obtain ⟨k, rfl⟩ : ∃ m, k = m + 1 := ⟨k - 1, by omega⟩
    simp only [impl_between.l0]
    rw [wr (_ - 1) (by omega), wr (_ + 1) (by omega), if_pos (by omega), if_pos (by omega), if_pos (by omega), if_pos (by omega), if_pos (by omega), show (i : Int) - 1 = ((i - 1 : Nat) : Int) by omega, show (i : Int) + 1 = ((i + 1 : Nat) : Int) by omega, rd_nr, rd_nr, ih k (i + 1) _ (by omega) (by omega) (by simp; omega) (by omega), btL_succ p d i h1]
    simp
theorem between_eq (p : List Ra) (hl : p.length ≤ 1048576) (k : Nat) (hk : p.length + 1 < k) : impl_between.f k p = some (btL p (p.length - 1) 1) := by
  unfold impl_between.f
  have := between_l p hl (p.length - 1) k 1 [] (by omega) (by omega) (by simp) (by omega)
  simpa using this
theorem rd_bt (p : List Ra) (d i : Nat) (h : i < d) : rd_T63 (btL p d 1) (i : Int) = ⟨nr p i, nr p (i + 1)⟩ := by
  simp [rd_T63, btL, List.getD_eq_getElem?_getD, h, Nat.add_comm]
theorem impl_widths_l (p : List Ra) (hp : Oks p) (n : Nat) (hn : n + 1 = p.length) (hl : p.length ≤ 1048576) : ∀ (d k i : Nat) (out : List Ra) (s : Bool), i + d = n → out.length = i → Oks out → 400 + d < k →
    ∃ o t, impl_calc_widths.l0 k out (btL p n 1) (n : Int) (i : Int) s = some (o, t) ∧ Flag s o t (buildO (widthT p) d (i + 1) out) n := by
  intro d
  induction d with
  | zero =>
    intro k i out s hi ho hx hk
    obtain ⟨k, rfl⟩ : ∃ m, k = m + 1 := ⟨k - 1, by omega⟩
    simp only [impl_calc_widths.l0]
    rw [if_neg (by omega)]
    refine ⟨_, _, rfl, ?_⟩
    have := flag_end s out hx
    rw [show out.length = n by omega] at this
    exact this
  | succ d ih =>
    intro k i out s hi ho hx hk
    obtain ⟨k, rfl⟩ : ∃ m, k = m + 1 := ⟨k - 1, by omega⟩
    simp only [impl_calc_widths.l0]
    have hbl : (btL p n 1).length = n := by simp [btL]
    have h1 := hp _ (nr_mem p (i + 1) (by omega))
    have h0 := hp _ (nr_mem p i (by omega))
    rw [hbl, if_pos (by omega), if_pos (by omega), if_pos (by omega), rd_bt p n i (by omega), calc_sub h1 h0 k s (by omega), Option.bind_some, if_pos (by omega), wr _ (by omega), show (i : Int) + 1 = ((i + 1 : Nat) : Int) by omega]
    have hk2 : OkR (kp s (widthT p (i + 1))).1 (kp s (widthT p (i + 1))).2.1 := kp_ok (fun h => subT_ok _ _ _ _ h)
    obtain ⟨o, t, e, hf⟩ := ih k (i + 1) (out ++ [⟨(kp s (widthT p (i + 1))).1, (kp s (widthT p (i + 1))).2.1⟩]) (kp s (widthT p (i + 1))).2.2 (by omega) (by simp; omega) (out_ok hx hk2) (by omega)
    exact ⟨o, t, e, flag_step hf⟩
theorem impl_widths_eq (p : List Ra) (hp : Oks p) (h2 : 2 ≤ p.length) (hl : p.length ≤ 1000) (s : Bool) (k : Nat) (hk : 2000 ≤ k) : ∃ o t, impl_calc_widths.f k s p = some (o, t) ∧ Flag s o t (widthsO p) (p.length - 1) := by
  unfold impl_calc_widths.f widthsO
  rw [between_eq p (by omega) k (by omega), Option.bind_some, show (btL p (p.length - 1) 1).length = p.length - 1 by simp [btL]]
  exact impl_widths_l p hp (p.length - 1) (by omega) (by omega) (p.length - 1) k 0 [] s (by omega) rfl (fun x hx => by cases hx) (by omega)
theorem spec_widths_l (p : List Ra) (hp : Oks p) (hl : p.length ≤ 1048576) : ∀ (d k i : Nat) (out : List Ra), 1 ≤ i → i + d = p.length → out.length ≤ i → 400 + d < k → spec_mkWidths.l0 k p out (i : Int) = some (retB (buildO (widthT p) d i out)) := by
  intro d
  induction d with
  | zero =>
    intro k i out h1 hi ho hk
    obtain ⟨k, rfl⟩ : ∃ m, k = m + 1 := ⟨k - 1, by omega⟩
    simp only [spec_mkWidths.l0]
    rw [if_neg (by omega)]
    rfl
  | succ d ih =>
    intro k i out h1 hi ho hk
    obtain ⟨k, rfl⟩ : ∃ m, k = m + 1 := ⟨k - 1, by omega⟩
    simp only [spec_mkWidths.l0]
    have e1 := hp _ (nr_mem p i (by omega))
    have e0 := hp _ (nr_mem p (i - 1) (by omega))
    rw [wr (_ - 1) (by omega), wr (_ + 1) (by omega), if_pos (by omega), if_pos (by omega), if_pos (by omega), if_pos (by omega), show (i : Int) - 1 = ((i - 1 : Nat) : Int) by omega, show (i : Int) + 1 = ((i + 1 : Nat) : Int) by omega, rd_nr, rd_nr, raSub_eq e1 e0 k (by omega), Option.bind_some]
    unfold buildO
    rw [show subT (nr p i).f0 (nr p i).f1 (nr p (i - 1)).f0 (nr p (i - 1)).f1 = widthT p i from rfl]
    cases hg : (widthT p i).2.2 with
    | true => rw [if_pos rfl, if_pos rfl, if_pos (by omega), ih k (i + 1) _ (by omega) (by omega) (by simp; omega) (by omega)]
    | false => rw [if_neg (by decide), if_neg (by decide)]; rfl
theorem spec_widths_eq (p : List Ra) (hp : Oks p) (h2 : 2 ≤ p.length) (hl : p.length ≤ 1000) (k : Nat) (hk : 2000 ≤ k) : spec_mkWidths.f k p = some (retB (widthsO p)) := by
  unfold spec_mkWidths.f widthsO
  exact spec_widths_l p hp (by omega) (p.length - 1) k 1 [] (by omega) (by omega) (by simp) (by omega)
def sumO (l w : List Ra) : Nat → Nat → Ra → Option Ra
  | 0, _, a => some a
  | n + 1, i, a => if (mulT (nr l i).f0 (nr l i).f1 (nr w i).f0 (nr w i).f1).2.2 = true then
      if (addT a.f0 a.f1 (mulT (nr l i).f0 (nr l i).f1 (nr w i).f0 (nr w i).f1).1 (mulT (nr l i).f0 (nr l i).f1 (nr w i).f0 (nr w i).f1).2.1).2.2 = true then
        sumO l w n (i + 1) ⟨(addT a.f0 a.f1 (mulT (nr l i).f0 (nr l i).f1 (nr w i).f0 (nr w i).f1).1 (mulT (nr l i).f0 (nr l i).f1 (nr w i).f0 (nr w i).f1).2.1).1, (addT a.f0 a.f1 (mulT (nr l i).f0 (nr l i).f1 (nr w i).f0 (nr w i).f1).1 (mulT (nr l i).f0 (nr l i).f1 (nr w i).f0 (nr w i).f1).2.1).2.1⟩
      else none
    else none
def retS (o : Option Ra) : Tri := match o with | some s => (s.f0, s.f1, true) | none => (0, 0, false)
theorem spec_sum_l (l w : List Ra) (hl : Oks l) (hw : Oks w) (hlen : l.length ≤ w.length) (h9 : l.length ≤ 1000) : ∀ (d k i : Nat) (a : Ra), OkR a.f0 a.f1 → i + d = l.length → 400 + d < k → spec_dnSum.l0 k l w (l.length : Int) (i : Int) a.f0 a.f1 = some (retS (sumO l w d i a)) := by
  intro d
  induction d with
  | zero =>
    intro k i a ha hi hk
    obtain ⟨k, rfl⟩ : ∃ m, k = m + 1 := ⟨k - 1, by omega⟩
    simp only [spec_dnSum.l0]
    rw [if_neg (by omega)]
    rfl
  | succ d ih =>
    intro k i a ha hi hk
    obtain ⟨k, rfl⟩ : ∃ m, k = m + 1 := ⟨k - 1, by omega⟩
    simp only [spec_dnSum.l0]
    have e1 := hl _ (nr_mem l i (by omega))
    have e2 := hw _ (nr_mem w i (by omega))
    rw [if_pos (by omega), if_pos (by omega), if_pos (by omega), if_pos (by omega), rd_nr, rd_nr, raMul_eq e1 e2 k (by omega), Option.bind_some]
    unfold sumO
    have hmo := mulT_ok (nr l i).f0 (nr l i).f1 (nr w i).f0 (nr w i).f1
    generalize mulT (nr l i).f0 (nr l i).f1 (nr w i).f0 (nr w i).f1 = M at *
    cases hM : M.2.2 with
    | false => rw [if_neg (by decide), if_neg (by decide)]; rfl
    | true =>
      rw [if_pos rfl, if_pos rfl, raAdd_eq ha (hmo hM) k (by omega), Option.bind_some]
      have hao := addT_ok a.f0 a.f1 M.1 M.2.1
      generalize addT a.f0 a.f1 M.1 M.2.1 = A at *
      cases hA : A.2.2 with
      | false => rw [if_neg (by decide), if_neg (by decide)]; rfl
      | true =>
        rw [if_pos rfl, if_pos rfl, wr _ (by omega), show (i : Int) + 1 = ((i + 1 : Nat) : Int) by omega]
        exact ih k (i + 1) ⟨A.1, A.2.1⟩ (hao hA) (by omega) (by omega)
theorem spec_sum_eq (l w : List Ra) (hl : Oks l) (hw : Oks w) (hlen : l.length ≤ w.length) (h9 : l.length ≤ 1000) (k : Nat) (hk : 2000 ≤ k) : spec_dnSum.f k l w = some (retS (sumO l w l.length 0 ⟨0, 1⟩)) := by
  unfold spec_dnSum.f spec_raInt.f
  rw [Option.bind_some]
  exact spec_sum_l l w hl hw hlen h9 l.length k 0 ⟨0, 1⟩ ok_zero (by omega) (by omega)
theorem impl_sum_l (l w : List Ra) (hl : Oks l) (hw : Oks w) (hlen : l.length ≤ w.length) (h9 : l.length ≤ 1000) : ∀ (d k i : Nat) (a : Ra) (s : Bool), OkR a.f0 a.f1 → i + d = l.length → 400 + d < k →
    ∃ v : Tri, impl_calc_scalar.l0 k l w (l.length : Int) (i : Int) s a.f0 a.f1 = some v ∧ (s = true → v.2.2 = true) ∧ (s = false → v.2.2 = (sumO l w d i a).isNone ∧ ∀ z, sumO l w d i a = some z → v.1 = z.f0 ∧ v.2.1 = z.f1) := by
  intro d
  induction d with
  | zero =>
    intro k i a s ha hi hk
    obtain ⟨k, rfl⟩ : ∃ m, k = m + 1 := ⟨k - 1, by omega⟩
    simp only [impl_calc_scalar.l0]
    rw [if_neg (by omega)]
    exact ⟨_, rfl, fun h => h, fun h => ⟨h, fun z hz => by cases hz; exact ⟨rfl, rfl⟩⟩⟩
  | succ d ih =>
    intro k i a s ha hi hk
    obtain ⟨k, rfl⟩ : ∃ m, k = m + 1 := ⟨k - 1, by omega⟩
    simp only [impl_calc_scalar.l0]
    have e1 := hl _ (nr_mem l i (by omega))
    have e2 := hw _ (nr_mem w i (by omega))
    rw [if_pos (by omega), if_pos (by omega), if_pos (by omega), if_pos (by omega), rd_nr, rd_nr, calc_mul e1 e2 k s (by omega), Option.bind_some]
    unfold sumO
    have hmo := mulT_ok (nr l i).f0 (nr l i).f1 (nr w i).f0 (nr w i).f1
    generalize mulT (nr l i).f0 (nr l i).f1 (nr w i).f0 (nr w i).f1 = M at *
    have hkm : OkR (kp s M).1 (kp s M).2.1 := kp_ok hmo
    rw [calc_add ha hkm k (kp s M).2.2 (by omega), Option.bind_some, wr _ (by omega), show (i : Int) + 1 = ((i + 1 : Nat) : Int) by omega]
    have hao := addT_ok a.f0 a.f1 (kp s M).1 (kp s M).2.1
    have hka : OkR (kp (kp s M).2.2 (addT a.f0 a.f1 (kp s M).1 (kp s M).2.1)).1 (kp (kp s M).2.2 (addT a.f0 a.f1 (kp s M).1 (kp s M).2.1)).2.1 := kp_ok hao
    obtain ⟨v, ev, h1, h2⟩ := ih k (i + 1) ⟨(kp (kp s M).2.2 (addT a.f0 a.f1 (kp s M).1 (kp s M).2.1)).1, (kp (kp s M).2.2 (addT a.f0 a.f1 (kp s M).1 (kp s M).2.1)).2.1⟩ (kp (kp s M).2.2 (addT a.f0 a.f1 (kp s M).1 (kp s M).2.1)).2.2 hka (by omega) (by omega)
    refine ⟨v, ev, fun hs => h1 (by rw [kp_bad, kp_bad, hs]; rfl), fun hs => ?_⟩
    subst hs
    cases hM : M.2.2 with
    | false =>
      rw [if_neg (by decide)]
      exact ⟨h1 (by rw [kp_bad, kp_bad, hM]; rfl), fun z hz => by cases hz⟩
    | true =>
      rw [if_pos rfl]
      rw [kp_val hM] at h1 h2
      cases hA : (addT a.f0 a.f1 M.1 M.2.1).2.2 with
      | false =>
        rw [if_neg (by decide)]
        exact ⟨h1 (by rw [kp_bad, hA]; rfl), fun z hz => by cases hz⟩
      | true =>
        rw [if_pos rfl]
        rw [kp_val hA] at h2
        exact h2 rfl
theorem impl_sum_eq (l w : List Ra) (hl : Oks l) (hw : Oks w) (hlen : l.length ≤ w.length) (h9 : l.length ≤ 1000) (s : Bool) (k : Nat) (hk : 2000 ≤ k) :
    ∃ v : Tri, impl_calc_scalar.f k s l w = some v ∧ (s = true → v.2.2 = true) ∧ (s = false → v.2.2 = (sumO l w l.length 0 ⟨0, 1⟩).isNone ∧ ∀ z, sumO l w l.length 0 ⟨0, 1⟩ = some z → v.1 = z.f0 ∧ v.2.1 = z.f1) := by
  unfold impl_calc_scalar.f impl_zero.f
  rw [Option.bind_some]
  exact impl_sum_l l w hl hw hlen h9 l.length k 0 ⟨0, 1⟩ s ok_zero (by omega) (by omega)
structure Part (p : List Ra) : Prop where
  two : 2 ≤ p.length
  most : p.length ≤ 9
  unit : Units p
  up : Rising p
  first : (nr p 0).f0 = 0 ∧ (nr p 0).f1 = 1
  last : (nr p (p.length - 1)).f0 = 1 ∧ (nr p (p.length - 1)).f1 = 1
theorem Part.oks {p : List Ra} (h : Part p) : Oks p := fun x hx => (h.unit x hx).1
theorem isPart_eq (p : List Ra) (hl : p.length ≤ 1048576) (k : Nat) (hk : 2000 ≤ k) : ∃ b, impl_isPartition.f k p = some b ∧ (b = true ↔ Part p) := by
  unfold impl_isPartition.f impl_within.f impl_zero.f impl_oneRat.f
  by_cases h2 : 2 ≤ (p.length : Int)
  · rw [if_pos h2, Option.bind_some]
    by_cases h9 : (p.length : Int) ≤ 9
    · rw [if_pos (decide_eq_true h9), areUnits_eq p k (by omega), Option.bind_some]
      by_cases hu : Units p
      · obtain ⟨b, e, hb⟩ := rising_eq p hl (fun x hx => (hu x hx).1.bd) k (by omega)
        rw [if_pos (decide_eq_true hu), e, Option.bind_some]
        cases hb1 : b with
        | false => rw [if_neg (by decide)]; exact ⟨_, rfl, by simp; intro hp; have := hb.2 hp.up; rw [hb1] at this; cases this⟩
        | true =>
          rw [if_pos rfl, if_pos (by omega), Option.bind_some, rd_nr0]
          by_cases h0 : (nr p 0).f0 = 0 ∧ (nr p 0).f1 = 1
          · rw [if_pos (by simp [h0.1, h0.2]), wr _ (by omega), if_pos (by omega), if_pos (by omega), Option.bind_some, show (p.length : Int) - 1 = ((p.length - 1 : Nat) : Int) by omega, rd_nr]
            refine ⟨_, rfl, ?_⟩
            simp only [Bool.and_eq_true, beq_iff_eq]
            exact ⟨fun h => ⟨by omega, by omega, hu, hb.1 hb1, h0, h⟩, fun h => h.last⟩
          · rw [if_neg (by simp only [Bool.and_eq_true, beq_iff_eq]; exact h0)]
            exact ⟨_, rfl, by simp; intro hp; exact h0 hp.first⟩
      · rw [if_neg (by simpa using hu)]; exact ⟨_, rfl, by simp; intro hp; exact hu hp.unit⟩
    · rw [if_neg (by simpa using h9)]; exact ⟨_, rfl, by simp; intro hp; have := hp.most; omega⟩
  · rw [if_neg h2, Option.bind_some, if_neg (by decide)]; exact ⟨_, rfl, by simp; intro hp; have := hp.two; omega⟩
theorem mkGood_l (p : List Ra) (h2 : 2 ≤ p.length) (h9 : p.length ≤ 9) : ∀ (d k i : Nat), i + d = p.length → (∀ j, j < i → OkU (nr p j).f0 (nr p j).f1) → (∀ j, 1 ≤ j → j < i → Lt (nr p (j - 1)) (nr p j)) → 400 + d < k → ∃ b, spec_mkGood.l0 k p p (p.length : Int) (i : Int) = some b ∧ (b = true ↔ Part p) := by
  intro d
  induction d with
  | zero =>
    intro k i hi hu hup hk
    obtain ⟨k, rfl⟩ : ∃ m, k = m + 1 := ⟨k - 1, by omega⟩
    simp only [spec_mkGood.l0, spec_raInt.f, Option.bind_some]
    have hU : Units p := fun x hx => by
      obtain ⟨j, hj, e⟩ := mem_nr p x hx
      rw [← e]
      exact hu j (by omega)
    have hR : Rising p := fun j h1 hj => hup j h1 (by omega)
    rw [if_neg (by omega), if_pos (by omega), rd_nr0]
    by_cases h0 : (nr p 0).f0 = 0 ∧ (nr p 0).f1 = 1
    · rw [if_pos (by simp [h0.1, h0.2]), wr _ (by omega), if_pos (by omega), if_pos (by omega), show (p.length : Int) - 1 = ((p.length - 1 : Nat) : Int) by omega, rd_nr]
      refine ⟨_, rfl, ?_⟩
      simp only [Bool.and_eq_true, beq_iff_eq]
      exact ⟨fun h => ⟨h2, h9, hU, hR, h0, h⟩, fun h => h.last⟩
    · rw [if_neg (by simp only [Bool.and_eq_true, beq_iff_eq]; exact h0)]
      exact ⟨_, rfl, by simp; intro hp; exact h0 hp.first⟩
  | succ d ih =>
    intro k i hi hu hup hk
    obtain ⟨k, rfl⟩ : ∃ m, k = m + 1 := ⟨k - 1, by omega⟩
    simp only [spec_mkGood.l0]
    rw [if_pos (by omega), if_pos (by omega), if_pos (by omega), rd_nr, raUnit_eq _ _ k (by omega), Option.bind_some]
    by_cases hx : OkU (nr p i).f0 (nr p i).f1
    · rw [if_pos (decide_eq_true hx), wr (_ + 1) (by omega), show (i : Int) + 1 = ((i + 1 : Nat) : Int) by omega]
      have hu' : ∀ j, j < i + 1 → OkU (nr p j).f0 (nr p j).f1 := fun j hj => by
        by_cases ej : j = i
        · subst ej; exact hx
        · exact hu j (by omega)
      by_cases h0 : (i : Int) > 0
      · rw [if_pos h0, wr (_ - 1) (by omega), if_pos (by omega), if_pos (by omega), show (i : Int) - 1 = ((i - 1 : Nat) : Int) by omega, rd_nr]
        obtain ⟨t, e, hlt, _⟩ := raCmp_eq (hu (i - 1) (by omega)).1.bd hx.1.bd
        rw [e, Option.bind_some]
        by_cases ht : t ≥ 0
        · rw [if_pos ht]
          refine ⟨false, rfl, ⟨fun h => (by cases h), fun hm => ?_⟩⟩
          have := hm.up i (by omega) (by omega)
          have := hlt.2 this
          omega
        · rw [if_neg ht]
          refine ih k (i + 1) (by omega) hu' (fun j h1 hj => ?_) (by omega)
          by_cases ej : j = i
          · subst ej; exact hlt.1 (by omega)
          · exact hup j h1 (by omega)
      · rw [if_neg h0]
        exact ih k (i + 1) (by omega) hu' (fun j h1 hj => by omega) (by omega)
    · rw [if_neg (by simpa using hx)]
      exact ⟨false, rfl, by simp; intro hm; exact hx (hm.unit _ (nr_mem p i (by omega)))⟩
theorem mkGood_eq (p : List Ra) (k : Nat) (hk : 2000 ≤ k) : ∃ b, spec_mkGood.f k p = some b ∧ (b = true ↔ Part p) := by
  unfold spec_mkGood.f spec_l1In.f
  by_cases h2 : (p.length : Int) ≥ 2
  · rw [if_pos h2, Option.bind_some]
    by_cases h9 : (p.length : Int) ≤ 9
    · rw [if_pos (decide_eq_true h9)]
      exact mkGood_l p (by omega) (by omega) p.length k 0 (by omega) (fun j hj => by omega) (fun j _ hj => by omega) (by omega)
    · rw [if_neg (by simpa using h9)]; exact ⟨_, rfl, by simp; intro hp; have := hp.most; omega⟩
  · rw [if_neg h2, Option.bind_some, if_neg (by decide)]; exact ⟨_, rfl, by simp; intro hp; have := hp.two; omega⟩
end Go.Proofs.Ytgejkhbehoabdaa.Pu
set_option linter.unusedVariables false
set_option linter.unusedSimpArgs false
namespace Go.Proofs.Ytgejkhbehoabdaa.Pu
open Go.RowKit Go.Proofs.Ytgejkhbehoabdaa.Q Go.Proofs.YtgejkhbehoabdaaW.PrintWords Go.Proofs.YtgejkhbehoabdaaW.PrintLast Go.Proofs.YtgejkhbehoabdaaW.PrintMore
theorem areRats_l (l : List Ra) (hl : l.length ≤ 1048576) : ∀ (d k i : Nat), i + d = l.length → (∀ j, j < i → OkR (nr l j).f0 (nr l j).f1) → 400 + d < k → ∃ b, impl_areRats.l0 k l (l.length : Int) (i : Int) = some b ∧ (b = true ↔ Oks l) := by
  intro d
  induction d with
  | zero =>
    intro k i hi hj hk
    obtain ⟨k, rfl⟩ : ∃ m, k = m + 1 := ⟨k - 1, by omega⟩
    simp only [impl_areRats.l0]
    rw [if_neg (by omega)]
    refine ⟨_, rfl, fun _ x hx => ?_, fun _ => rfl⟩
    obtain ⟨j, h, e⟩ := mem_nr l x hx
    rw [← e]
    exact hj j (by omega)
  | succ d ih =>
    intro k i hi hj hk
    obtain ⟨k, rfl⟩ : ∃ m, k = m + 1 := ⟨k - 1, by omega⟩
    simp only [impl_areRats.l0]
    rw [if_pos (by omega), if_pos (by omega), if_pos (by omega), rd_nr, isRat_eq _ _ k (by omega), Option.bind_some]
    by_cases h : OkR (nr l i).f0 (nr l i).f1
    · rw [if_pos (decide_eq_true h), wr _ (by omega), show (i : Int) + 1 = ((i + 1 : Nat) : Int) by omega]
      refine ih k (i + 1) (by omega) (fun j hj2 => ?_) (by omega)
      by_cases e : j = i
      · subst e; exact h
      · exact hj j (by omega)
    · rw [if_neg (by simpa using h)]
      exact ⟨_, rfl, by simp; intro ho; exact h (ho _ (nr_mem l i (by omega)))⟩
theorem areShares_eq (p v : List Ra) (hp : p.length ≤ 1048576) (hv : v.length ≤ 1048576) (k : Nat) (hk : 1050000 ≤ k) : ∃ b, impl_areShares.f k p v = some b ∧ (b = true ↔ Part p ∧ v.length = p.length - 1 ∧ Oks v) := by
  unfold impl_areShares.f
  obtain ⟨b, e, hb⟩ := isPart_eq p hp k (by omega)
  rw [e, Option.bind_some]
  cases hb1 : b with
  | false => rw [if_neg (by decide)]; exact ⟨_, rfl, by simp; intro h; have := hb.2 h; rw [hb1] at this; cases this⟩
  | true =>
    have hP := hb.1 hb1
    have h2 := hP.two
    rw [if_pos rfl, wr _ (by omega)]
    by_cases hlen : (v.length : Int) = (p.length : Int) - 1
    · unfold impl_areRats.f
      obtain ⟨c, e2, hc⟩ := areRats_l v hv v.length k 0 (by omega) (fun j hj => by omega) (by omega)
      rw [show ((0 : Nat) : Int) = 0 from rfl] at e2
      rw [if_pos hlen, e2, Option.bind_some]
      exact ⟨_, rfl, hc.trans ⟨fun h => ⟨hP, by omega, h⟩, fun h => h.2.2⟩⟩
    · rw [if_neg hlen]
      exact ⟨_, rfl, by simp; intro _ h; omega⟩
theorem ra_one {z : Ra} (h : z.f0 = 1 ∧ z.f1 = 1) : z = ⟨1, 1⟩ := by
  cases z with
  | mk a b => exact congr (congrArg S47.mk (show a = 1 from h.1)) (show b = 1 from h.2)
structure Told (p v : List Ra) : Prop where
  part : Part p
  len : v.length = p.length - 1
  oks : Oks v
  nn : ∀ x ∈ v, 0 ≤ x.f0
  sum : ∃ w, widthsO p = some w ∧ sumO v w v.length 0 ⟨0, 1⟩ = some ⟨1, 1⟩
theorem widths_len {p w : List Ra} (h : widthsO p = some w) : w.length = p.length - 1 := by
  have := buildO_len _ _ _ _ _ h
  simpa using this
theorem widths_ok {p w : List Ra} (h : widthsO p = some w) : Oks w := buildO_ok _ (fun i h => subT_ok _ _ _ _ h) _ _ _ _ (fun x hx => by cases hx) h
theorem neg_eq (v : List Ra) : ContainsFunc_impl_isDensity_1.f v = some (v.any fun x => decide (x.f0 < 0)) := by
  unfold ContainsFunc_impl_isDensity_1.f
  exact anyS_of (fun x _ => rfl)
theorem isTold_ex (p v : List Ra) (hp : p.length ≤ 1048576) (hv : v.length ≤ 1048576) (k : Nat) (hk : 1050000 ≤ k) : ∃ b, impl_isTold.f k p v = some b ∧ (b = true ↔ Told p v) := by
  unfold impl_isTold.f impl_IsDensity.f
  obtain ⟨b, e, hb⟩ := areShares_eq p v hp hv k hk
  rw [e, Option.bind_some]
  cases hb1 : b with
  | false =>
    rw [if_neg (by decide)]
    exact ⟨false, rfl, by simp; intro h; have := hb.2 ⟨h.part, h.len, h.oks⟩; rw [hb1] at this; cases this⟩
  | true =>
    obtain ⟨hP, hlen, hok⟩ := hb.1 hb1
    have h2 := hP.two
    have h9 := hP.most
    rw [if_pos rfl]
    unfold impl_isDensity.f impl_oneRat.f
    obtain ⟨o, t, e1, hf⟩ := impl_widths_eq p hP.oks h2 (by omega) false k (by omega)
    rw [e1, Option.bind_some]
    obtain ⟨s, e2, hs1, hs2⟩ := impl_sum_eq v o hok hf.ok (by have := hf.len; omega) (by omega) t k (by omega)
    rw [e2, Option.bind_some]
    cases hw : widthsO p with
    | none =>
      have ht : t = true := by rw [hf.none rfl, hw]; rfl
      rw [if_pos (hs1 ht)]
      refine ⟨false, rfl, by simp; intro h; obtain ⟨w, h3, _⟩ := h.sum; rw [hw] at h3; cases h3⟩
    | some w =>
      have ht : t = false := by rw [hf.none rfl, hw]; rfl
      have ho : o = w := hf.val rfl w hw
      subst ho
      obtain ⟨hs3, hs4⟩ := hs2 ht
      cases hsum : sumO v o v.length 0 ⟨0, 1⟩ with
      | none =>
        rw [hsum] at hs3
        have hs5 : s.2.2 = true := hs3
        rw [if_pos hs5]
        refine ⟨false, rfl, by simp; intro h; obtain ⟨w, h3, h4⟩ := h.sum; rw [hw] at h3; cases h3; rw [hsum] at h4; cases h4⟩
      | some z =>
        rw [hsum] at hs3
        obtain ⟨z1, z2⟩ := hs4 z hsum
        rw [if_neg (by rw [hs3]; simp), Option.bind_some, z1, z2]
        by_cases h1 : z.f0 = 1 ∧ z.f1 = 1
        · rw [if_pos (by simp [h1.1, h1.2]), neg_eq, Option.bind_some, Option.bind_some, Option.bind_some]
          have hz : z = ⟨1, 1⟩ := ra_one h1
          subst hz
          cases hany : (v.any fun x => decide (x.f0 < 0)) with
          | false =>
            refine ⟨true, rfl, fun _ => ⟨hP, hlen, hok, fun x hx => ?_, o, hw, hsum⟩, fun _ => rfl⟩
            have : ¬ x.f0 < 0 := fun hn => by
              have h8 : (v.any fun x => decide (x.f0 < 0)) = true := List.any_eq_true.2 ⟨x, hx, decide_eq_true hn⟩
              rw [hany] at h8
              cases h8
            omega
          | true =>
            refine ⟨false, rfl, (fun h => by cases h), (fun h => ?_)⟩
            obtain ⟨x, hx, hn⟩ := List.any_eq_true.1 hany
            have := h.nn x hx
            have := of_decide_eq_true hn
            omega
        · rw [if_neg (by simp only [Bool.and_eq_true, beq_iff_eq]; exact h1)]
          refine ⟨false, rfl, by simp; intro h; obtain ⟨w, h3, h4⟩ := h.sum; rw [hw] at h3; cases h3; rw [hsum] at h4; cases h4; exact h1 ⟨rfl, rfl⟩⟩
theorem dnList_l (p v : List Ra) (hp : p.length ≤ 1048576) (hv : v.length ≤ 1048576) : ∀ (d k i : Nat), i + d = v.length → (∀ j, j < i → OkR (nr v j).f0 (nr v j).f1 ∧ 0 ≤ (nr v j).f0) → 3000 + d < k → ∃ b, spec_dnList.l0 k p v v (v.length : Int) (i : Int) = some b ∧ (b = true ↔ Part p ∧ v.length = p.length - 1 ∧ Oks v ∧ ∀ x ∈ v, 0 ≤ x.f0) := by
  intro d
  induction d with
  | zero =>
    intro k i hi hj hk
    obtain ⟨k, rfl⟩ : ∃ m, k = m + 1 := ⟨k - 1, by omega⟩
    simp only [spec_dnList.l0]
    rw [if_neg (by omega)]
    obtain ⟨b, e, hb⟩ := mkGood_eq p k (by omega)
    rw [e, Option.bind_some]
    have hall : ∀ x ∈ v, OkR x.f0 x.f1 ∧ 0 ≤ x.f0 := fun x hx => by
      obtain ⟨j, h, e⟩ := mem_nr v x hx
      rw [← e]
      exact hj j (by omega)
    cases hb1 : b with
    | false => rw [if_neg (by decide)]; exact ⟨false, rfl, by simp; intro h; have := hb.2 h; rw [hb1] at this; cases this⟩
    | true =>
      have hP := hb.1 hb1
      have h2 := hP.two
      rw [if_pos rfl, wr _ (by omega)]
      refine ⟨_, rfl, ?_⟩
      rw [beq_iff_eq]
      exact ⟨fun h => ⟨hP, by omega, fun x hx => (hall x hx).1, fun x hx => (hall x hx).2⟩, fun h => by have := h.2.1; omega⟩
  | succ d ih =>
    intro k i hi hj hk
    obtain ⟨k, rfl⟩ : ∃ m, k = m + 1 := ⟨k - 1, by omega⟩
    simp only [spec_dnList.l0]
    have hm := nr_mem v i (by omega)
    rw [if_pos (by omega), if_pos (by omega), if_pos (by omega), rd_nr, raGood_eq _ _ k (by omega), Option.bind_some]
    by_cases h : OkR (nr v i).f0 (nr v i).f1
    · rw [if_pos (decide_eq_true h)]
      by_cases h0 : (nr v i).f0 < 0
      · rw [if_pos h0]
        exact ⟨false, rfl, (fun h => by cases h), (fun hh => absurd (hh.2.2.2 _ hm) (by omega))⟩
      · rw [if_neg h0, wr _ (by omega), show (i : Int) + 1 = ((i + 1 : Nat) : Int) by omega]
        refine ih k (i + 1) (by omega) (fun j hj2 => ?_) (by omega)
        by_cases e : j = i
        · subst e; exact ⟨h, by omega⟩
        · exact hj j (by omega)
    · rw [if_neg (by simpa using h)]
      exact ⟨false, rfl, (fun h => by cases h), (fun hh => absurd (hh.2.2.1 _ hm) h)⟩
theorem dnIs_ex (p v : List Ra) (hp : p.length ≤ 1048576) (hv : v.length ≤ 1048576) (k : Nat) (hk : 1060000 ≤ k) : ∃ b, spec_dnIs.f k p v = some b ∧ (b = true ↔ Told p v) := by
  unfold spec_dnIs.f spec_dnList.f
  obtain ⟨b, e, hb⟩ := dnList_l p v hp hv v.length k 0 (by omega) (fun j hj => by omega) (by omega)
  rw [show ((0 : Nat) : Int) = 0 from rfl] at e
  rw [e, Option.bind_some]
  cases hb1 : b with
  | false =>
    rw [if_neg (by decide)]
    exact ⟨false, rfl, by simp; intro h; have := hb.2 ⟨h.part, h.len, h.oks, h.nn⟩; rw [hb1] at this; cases this⟩
  | true =>
    obtain ⟨hP, hlen, hok, hnn⟩ := hb.1 hb1
    have h2 := hP.two
    have h9 := hP.most
    rw [if_pos rfl]
    unfold spec_dnGood.f spec_raInt.f
    rw [spec_widths_eq p hP.oks h2 (by omega) k (by omega), Option.bind_some]
    cases hw : widthsO p with
    | none =>
      rw [show retB none = ([], false) from rfl, if_neg (show ¬ (([], false) : List Ra × Bool).2 = true by decide)]
      refine ⟨false, rfl, by simp; intro h; obtain ⟨w, h3, _⟩ := h.sum; rw [hw] at h3; cases h3⟩
    | some w =>
      have hwl := widths_len hw
      rw [show retB (some w) = (w, true) from rfl, if_pos (show ((w, true) : List Ra × Bool).2 = true from rfl), spec_sum_eq v w hok (widths_ok hw) (by omega) (by omega) k (by omega), Option.bind_some]
      cases hsum : sumO v w v.length 0 ⟨0, 1⟩ with
      | none =>
        rw [show retS none = (0, 0, false) from rfl, if_neg (show ¬ ((0, 0, false) : Tri).2.2 = true by decide)]
        refine ⟨false, rfl, by simp; intro h; obtain ⟨w, h3, h4⟩ := h.sum; rw [hw] at h3; cases h3; rw [hsum] at h4; cases h4⟩
      | some z =>
        rw [show retS (some z) = (z.f0, z.f1, true) from rfl, if_pos (show ((z.f0, z.f1, true) : Tri).2.2 = true from rfl), Option.bind_some, Option.bind_some]
        by_cases h1 : z.f0 = 1 ∧ z.f1 = 1
        · have hz : z = ⟨1, 1⟩ := ra_one h1
          subst hz
          exact ⟨true, rfl, fun _ => ⟨hP, hlen, hok, hnn, w, hw, hsum⟩, fun _ => rfl⟩
        · rw [if_neg (by simp only [Bool.and_eq_true, beq_iff_eq]; exact h1)]
          refine ⟨false, rfl, by simp; intro h; obtain ⟨w, h3, h4⟩ := h.sum; rw [hw] at h3; cases h3; rw [hsum] at h4; cases h4; exact h1 ⟨rfl, rfl⟩⟩
noncomputable def toldB (p v : List Ra) : Bool := @decide (Told p v) (Classical.propDecidable _)
theorem toldB_iff (p v : List Ra) : toldB p v = true ↔ Told p v := by
  unfold toldB
  exact @decide_eq_true_iff _ (Classical.propDecidable _)
theorem isTold_eq (p v : List Ra) (hp : p.length ≤ 1048576) (hv : v.length ≤ 1048576) (k : Nat) (hk : 1060000 ≤ k) : impl_isTold.f k p v = some (toldB p v) := by
  obtain ⟨b, e, h⟩ := isTold_ex p v hp hv k (by omega)
  rw [e]
  congr 1
  rw [Bool.eq_iff_iff, h, toldB_iff]
theorem dnIs_eq (p v : List Ra) (hp : p.length ≤ 1048576) (hv : v.length ≤ 1048576) (k : Nat) (hk : 1060000 ≤ k) : spec_dnIs.f k p v = some (toldB p v) := by
  obtain ⟨b, e, h⟩ := dnIs_ex p v hp hv k (by omega)
  rw [e]
  congr 1
  rw [Bool.eq_iff_iff, h, toldB_iff]
end Go.Proofs.Ytgejkhbehoabdaa.Pu
set_option linter.unusedVariables false
set_option linter.unusedSimpArgs false
namespace Go.Proofs.Ytgejkhbehoabdaa.Pu
open Go.RowKit Go.Proofs.Ytgejkhbehoabdaa.Q Go.Proofs.YtgejkhbehoabdaaW.PrintWords Go.Proofs.YtgejkhbehoabdaaW.PrintLast Go.Proofs.YtgejkhbehoabdaaW.PrintMore
theorem same_rat {a b c d : Int} (h1 : OkR a b) (h2 : OkR c d) (h : a * d = c * b) : a = c ∧ b = d := by
  obtain ⟨b1, _, _, _, hg1⟩ := h1
  obtain ⟨d1, _, _, _, hg2⟩ := h2
  have hn : a.natAbs * d.natAbs = c.natAbs * b.natAbs := by rw [← Int.natAbs_mul, ← Int.natAbs_mul, h]
  rw [Int.gcd_eq_natAbs_gcd_natAbs] at hg1 hg2
  have c1 : Nat.Coprime b.natAbs a.natAbs := by unfold Nat.Coprime; rw [Nat.gcd_comm]; exact hg1
  have c2 : Nat.Coprime d.natAbs c.natAbs := by unfold Nat.Coprime; rw [Nat.gcd_comm]; exact hg2
  have e1 : b.natAbs ∣ d.natAbs := c1.dvd_of_dvd_mul_left ⟨c.natAbs, by rw [hn, Nat.mul_comm]⟩
  have e2 : d.natAbs ∣ b.natAbs := c2.dvd_of_dvd_mul_left ⟨a.natAbs, by rw [← hn, Nat.mul_comm]⟩
  have e3 : b.natAbs = d.natAbs := Nat.dvd_antisymm e1 e2
  have e4 : b = d := by omega
  subst e4
  exact ⟨Int.eq_of_mul_eq_mul_right (by omega) h, rfl⟩
def minR (m s : Ra) : Ra := if s.f0 * m.f1 < m.f0 * s.f1 then s else m
theorem minR_ok {m s : Ra} (h1 : OkR m.f0 m.f1) (h2 : OkR s.f0 s.f1) : OkR (minR m s).f0 (minR m s).f1 := by
  unfold minR
  split
  · exact h2
  · exact h1
theorem ivLess_min {m s : Ra} (h1 : OkR m.f0 m.f1) (h2 : OkR s.f0 s.f1) : spec_ivLess.f m.f0 m.f1 s.f0 s.f1 = some ((minR m s).f0, (minR m s).f1) := by
  unfold spec_ivLess.f minR
  obtain ⟨t, e, ht, _⟩ := raCmp_eq h1.bd h2.bd
  rw [e, Option.bind_some]
  by_cases h : m.f0 * s.f1 < s.f0 * m.f1
  · rw [if_pos (ht.2 h), if_neg (by omega)]
  · rw [if_neg (fun hh => h (ht.1 hh))]
    by_cases h3 : s.f0 * m.f1 < m.f0 * s.f1
    · rw [if_pos h3]
    · rw [if_neg h3]
      obtain ⟨e1, e2⟩ := same_rat h1 h2 (by omega)
      rw [e1, e2]
end Go.Proofs.Ytgejkhbehoabdaa.Pu

/- All that the statement FnExactShadowBound rests on, part 5: the walks of the functions that it reaches, and the plain laws of what they compute. -/
import Derived.Test.YtlggehdfigkliaaKFnExactShadowBound4
namespace Go.Proofs.Ytlggehdfigkliaa.Q
open Go.RowKit Go.Proofs.YtlggehdfigkliaaW.PrintWords Go.Proofs.YtlggehdfigkliaaW.PrintLast Go.Proofs.YtlggehdfigkliaaW.PrintMore
attribute [local go_sem] max2_int min2_int max_two min_two max_three min_three max_four min_four   -- for this text's walks alone
set_option linter.unusedVariables false
set_option linter.unusedSimpArgs false
def impl_ShadowBound.j0 : Nat → List (S57) → Bool → Int → Int → Option (Int × Int × Bool)
 | 0, _, _, _, _ => none
 | k + 1, x0, x24, xA, xB => if x24 = true then (some (0, 0, false)) else ((impl_expansion.f k x0).bind fun btC => ((impl_oneRat.f).bind fun btD => ((impl_calc_sub.f k false btC.1 btC.2 btD.1 btD.2).bind fun btE => ((impl_calc_div.f k btE.2.2 xA xB btE.1 btE.2.1).bind fun btF => (if btF.2.2 = true then (some (0, 0, false)) else (some (btF.1, btF.2.1, true)))))))
def impl_ShadowBound.f (k : Nat) (l0 : List (S57)) (l1 : List (S27)) : Option (Int × Int × Bool) := (impl_WorstJump.f k l0 l1).bind fun btA => (if btA.2.2 = true then ((impl_oneRat.f).bind fun btB => ((impl_expansion.f k l0).bind fun btC => ((impl_less.f btB.1 btB.2 btC.1 btC.2).bind fun tD => (impl_ShadowBound.j0 k l0 (!tD) btA.1 btA.2.1)))) else (impl_ShadowBound.j0 k l0 true btA.1 btA.2.1))
def impl_ShadowBound.T5 : Bool × List (List Nat × List Nat) := (true, [([], []), ([], []), ([1], [1]), ([2], []), ([2, 3, 3], [2, 3]), ([0, 4, 4], [0, 4]), ([], []), ([6, 5, 5, 0, 1, 2, 3, 4, 5, 6], [5, 6])])
def impl_ShadowBound.B5 : List Nat := [0, 0, 2, 6, 14, 31, 0, 127]
theorem impl_ShadowBound.tab5 : rtab .any (opsOf Try.f21 5) = impl_ShadowBound.T5 := by kernel_rfl
theorem impl_ShadowBound.bits5 : waitsOk impl_ShadowBound.T5.2 impl_ShadowBound.B5 = true := by kernel_rfl
theorem zz250 {p : Prop} (h : p := by (with_reducible repeat (first | refine blk_drewN ?_ _ | refine blk_drew ?_ | refine blk_alloc ?_ _)); exact BKA.out) : p := h
theorem zz249 {p : Prop} (h : p := by (with_reducible repeat (first | refine blk_drewN ?_ _ | refine blk_drew ?_ | refine blk_alloc ?_ _)); exact BKC.out) : p := h
theorem zz248 {p : Prop} (h : p := by (with_reducible repeat (first | refine blk_drewN ?_ _ | refine blk_drew ?_ | refine blk_alloc ?_ _)); exact BKD.out) : p := h
theorem zz191 {p : Prop} (h : p := by repeat (first | (with_reducible first | exact HB.out | apply below_alloc | apply pw_below_drewN | apply below_drew1 | refine below_set ?_ GED.out) | exact HB.out)) : p := h
theorem zz125 {p : Prop} (h : p := by repeat (first | (with_reducible first | exact HB.out | apply below_alloc | apply pw_below_drewN | apply below_drew1 | refine below_set ?_ GED.out | refine below_set ?_ GEC.out) | exact HB.out)) : p := h
theorem zz83 {p : Prop} (h : p := by first | (simp only [putAll, Act.put, List.setIfInBounds_toArray, List.set_cons_zero, List.set_cons_succ]; done) | (simp only [putAll, Act.put, List.setIfInBounds_toArray, List.set_cons_zero, List.set_cons_succ]; rfl)) : p := h
theorem zz67 {p : Prop} (h : p := by rw [hg]; exact (below_size zz125)) : p := h
theorem zz66 {p : Prop} (h : p := by repeat (first | (with_reducible first | exact HIE.out | apply IsS70.alloc | apply IsS70.drewN | apply IsS70.drew | apply IsS70.set_0 | apply IsS70.far (hne := NBE_D.out) | apply IsS70.far (hne := NBE_C.out)) | exact HIE.out)) : p := h
theorem zz64 {p : Prop} (h : p := by repeat (first | (with_reducible first | exact HB.out | apply below_alloc | apply pw_below_drewN | apply below_drew1 | refine below_set ?_ (IsS70.ge HIE.out) | refine below_set ?_ GED.out | refine below_set ?_ GEC.out) | exact HB.out)) : p := h
theorem zz52 {p : Prop} (h : p := by repeat (first | (with_reducible first | exact HB.out | apply below_alloc | apply pw_below_drewN | apply below_drew1 | refine below_set ?_ (IsS70.ge HIE.out) | refine below_set ?_ GED.out | refine below_set ?_ GEC.out | refine below_set ?_ GEA.out) | exact HB.out)) : p := h
theorem zz51 {p : Prop} (h : p := by repeat (first | (with_reducible first | exact HIE.out | apply IsS70.alloc | apply IsS70.drewN | apply IsS70.drew | apply IsS70.set_0 | apply IsS70.far (hne := NBE_D.out) | apply IsS70.far (hne := NBE_C.out) | apply IsS70.far (hne := NBE_A.out)) | exact HIE.out)) : p := h
set_option maxHeartbeats 8000000 in
set_option maxRecDepth 100000 in
theorem impl_ShadowBound.calls (k : Nat) (A0 : Option Addr) (c0 : Nat) (l0 : List (S57)) (A1 : Option Addr) (c1 : Nat) (l1 : List (S27)) (r1 : Int) (r2 : Int) (r3 : Bool) (w : World) (hr0 : Kd.C k57 w A0 l0.length l0) (hc0 : l0.length ≤ c0) (hr1 : Kd.C k27 w A1 l1.length l1) (hc1 : l1.length ≤ c1) (h : impl_ShadowBound.f k l0 l1 = some (r1, r2, r3)) :
  Calls Try.prog 21 #[.slice A0 l0.length c0, .slice A1 l1.length c1] w fun e w' => e = .returned (.tuple #[.agg #[.int .i64 r1, .int .i64 r2], .bool r3]) ∧ Below w.heap.size w w' := by
 have hu27 := Try.underlying27; have hu70 := Try.underlying70; have HR0 := Aside0.mk hr0; have HC0 := Aside0.mk hc0; clear hr0 hc0; have HR1 := Aside0.mk hr1; have HC1 := Aside0.mk hc1; clear hr1 hc1; have HB := Aside0.mk (Below.refl w.heap.size w); have H : ((impl_WorstJump.f k l0 l1).bind fun btG => (if btG.2.2 = true then ((impl_oneRat.f).bind fun btH => ((impl_expansion.f k l0).bind fun btI => ((impl_less.f btH.1 btH.2 btI.1 btI.2).bind fun tJ => (impl_ShadowBound.j0 k l0 (!tJ) btG.1 btG.2.1)))) else (impl_ShadowBound.j0 k l0 true btG.1 btG.2.1))) = some (r1, r2, r3) := h; clear h; replace H := Option.bind_eq_some_iff.mp H; obtain ⟨⟨tG, tK, tM⟩, A30, H⟩ := H; replace H : (if tM = true then ((impl_oneRat.f).bind fun btH => ((impl_expansion.f k l0).bind fun btI => ((impl_less.f btH.1 btH.2 btI.1 btI.2).bind fun tJ => (impl_ShadowBound.j0 k l0 (!tJ) tG tK)))) else (impl_ShadowBound.j0 k l0 true tG tK)) = some (r1, r2, r3) := H; have A3 := Aside0.mk A30; clear A30; have HC4 := Aside0.mk H; clear H; go_enter Try.func21, Try.ntmps21
 go_upto_region 2 with (first | ((with_reducible refine gate_dst (N := 4) rfl ?_); refine boxE 4 #[.int .i64 0, .int .i64 0] 27 ?_; intro gbD hg w5 hbox hb; have GWD := gwA (below_size zz197) hg; have GED := GWD; have BKD := Aside0.mk (hbox); replace HB := Aside0.mk (below_step zz197 hb); clear hb hbox hg) | ((with_reducible refine gate_callee (f := 13) rfl ?_); refine goesL_ (some 13) rfl rfl Try.func13 (by kernel_rfl) rfl #[.slice A0 l0.length c0, .slice A1 l1.length c1] rfl zz196 ?_; (with_reducible refine (impl_WorstJump.calls k _ _ l0 _ _ l1 tG tK tM _ ?side1 ?side2 ?side3 ?side4 A3.out).mono ?_); (case side1 => repeat (first | exact (Kd.C_below HR0.out HB.out) | (with_reducible refine Kd.C_alloc ?_ _) | (with_reducible refine Kd.C_drewN ?_ _) | (with_reducible refine Kd.C_drew ?_))); (case side2 => exact HC0.out); (case side3 => repeat (first | exact (Kd.C_below HR1.out HB.out) | (with_reducible refine Kd.C_alloc ?_ _) | (with_reducible refine Kd.C_drewN ?_ _) | (with_reducible refine Kd.C_drew ?_))); (case side4 => exact HC1.out); rintro e w6 ⟨rfl, hb⟩; refine ⟨_, rfl, ?_⟩; replace BKD := blkA BKD hb; replace HB := Aside0.mk (below_step zz191 hb); (try clear hb)) | ((with_reducible refine gate_dst (N := 6) rfl ?_); refine boxE 6 #[.int .i64 0, .int .i64 0] 27 ?_; intro gbC hg w7 hbox hb; have GWC := gwA (below_size zz191) hg; have GEC := GWC; have NBD_C := nltA BKD hg; have NBC_D := ngtA BKD hg; replace BKD := blkA BKD hb; have BKC := Aside0.mk (hbox); replace HB := Aside0.mk (below_step zz191 hb); clear hb hbox hg; have hnb8 := NBC_D.out; have hnc8 := NBD_C.out; obtain ⟨hcz9_0, hcz9_1, hfz9_0, hfz9_1⟩ := cz2 BKC.out))
 (try simp only [Act.put, List.setIfInBounds_toArray, List.set_cons_zero, List.set_cons_succ]); go_cut [24] (fun v24 wc => ∃ (kq : Nat) (x24_3 : Bool), v24 = .bool x24_3 ∧ Aside0 (impl_ShadowBound.j0 kq l0 x24_3 tG tK = some (r1, r2, r3)) ∧ Aside0 (kq ≤ k) ∧ Aside0 (wc.heap[gbD]? = some (.cells #[.int .i64 0, .int .i64 0] 27 (0, 0))) ∧ Aside0 (wc.heap[gbC]? = some (.cells #[.int .i64 tG, .int .i64 tK] 27 (0, 0))) ∧ Aside0 (Below w.heap.size w wc))
 case first =>
  have H := HC4.out; clear HC4; by_cases c10 : tM = true
  ·subst c10; have H1 : ((impl_oneRat.f).bind fun btH => ((impl_expansion.f k l0).bind fun btI => ((impl_less.f btH.1 btH.2 btI.1 btI.2).bind fun tJ => (impl_ShadowBound.j0 k l0 (!tJ) tG tK)))) = some (r1, r2, r3) := by rw [if_pos rfl] at H; exact H
   clear H; have H := H1; clear H1; replace H := Option.bind_eq_some_iff.mp H; obtain ⟨⟨tH, tN⟩, AO, H⟩ := H; replace H : ((impl_expansion.f k l0).bind fun btI => ((impl_less.f tH tN btI.1 btI.2).bind fun tJ => (impl_ShadowBound.j0 k l0 (!tJ) tG tK))) = some (r1, r2, r3) := H; have A11 := Aside0.mk AO; clear AO; replace H := Option.bind_eq_some_iff.mp H; obtain ⟨⟨tI, tP⟩, AQ, H⟩ := H; replace H : ((impl_less.f tH tN tI tP).bind fun tJ => (impl_ShadowBound.j0 k l0 (!tJ) tG tK)) = some (r1, r2, r3) := H; have A12 := Aside0.mk AQ; clear AQ; replace H := Option.bind_eq_some_iff.mp H; obtain ⟨tJ, AR, H⟩ := H; replace H : (impl_ShadowBound.j0 k l0 (!tJ) tG tK) = some (r1, r2, r3) := H; have A13 := Aside0.mk AR; clear AR; have H' := Aside0.mk H; clear H; go_wp2_with (first | (go_at_call 47; (with_reducible refine (impl_oneRat.calls  tH tN _ A11.out).mono ?_); rintro e w14 ⟨rfl, hb⟩; have n0_ := Aside0.mk (blk_below (g := gbD) (o := .cells #[.int .i64 0, .int .i64 0] 27 (0, 0)) (by (with_reducible repeat (first | refine blk_drewN ?_ _ | refine blk_drew ?_ | refine blk_alloc ?_ _)); refine blk_far ?_ NBD_C.out _; (with_reducible repeat (first | refine blk_drewN ?_ _ | refine blk_drew ?_ | refine blk_alloc ?_ _)); refine blk_far ?_ NBD_C.out _; (with_reducible repeat (first | refine blk_drewN ?_ _ | refine blk_drew ?_ | refine blk_alloc ?_ _)); exact BKD.out) hb); have n1_ := Aside0.mk (blk_below (g := gbC) (o := .cells #[.int .i64 tG, .int .i64 tK] 27 (0, 0)) (by (with_reducible repeat (first | refine blk_drewN ?_ _ | refine blk_drew ?_ | refine blk_alloc ?_ _)); refine blk_put (cs := #[.int .i64 tG, .int .i64 0]) ?_ 1 _ rfl; (with_reducible repeat (first | refine blk_drewN ?_ _ | refine blk_drew ?_ | refine blk_alloc ?_ _)); refine blk_put (cs := #[.int .i64 0, .int .i64 0]) ?_ 0 _ rfl; (with_reducible repeat (first | refine blk_drewN ?_ _ | refine blk_drew ?_ | refine blk_alloc ?_ _)); exact BKC.out) hb); clear BKD BKC; have BKD := n0_; have BKC := n1_; clear n0_ n1_; replace HB := Aside0.mk (below_step zz125 hb); (try clear hb)) | (go_at_call 48; (with_reducible refine (impl_expansion.calls k _ _ l0 tI tP _ ?side1 ?side2 A12.out).mono ?_); (case side1 => repeat (first | exact (Kd.C_below HR0.out HB.out) | (with_reducible refine Kd.C_alloc ?_ _) | (with_reducible refine Kd.C_drewN ?_ _) | (with_reducible refine Kd.C_drew ?_))); (case side2 => exact HC0.out); rintro e w15 ⟨rfl, hb⟩; replace BKD := blkA BKD hb; replace BKC := blkA BKC hb; replace HB := Aside0.mk (below_step zz125 hb); (try clear hb)) | (go_at_call 42; (with_reducible refine (impl_less.calls tH tN tI tP tJ _ A13.out).mono ?_); rintro e w16 ⟨rfl, hb⟩; replace BKD := blkA BKD hb; replace BKC := blkA BKC hb; replace HB := Aside0.mk (below_step zz125 hb); (try clear hb)))
   go_meet
   case rel => exact ⟨_, (!tJ), zz284, H', ⟨by first | omega | exact Nat.le_refl _⟩, ⟨by (with_reducible repeat (first | refine blk_drewN ?_ _ | refine blk_drew ?_ | refine blk_alloc ?_ _)); exact BKD.out⟩, ⟨by (with_reducible repeat (first | refine blk_drewN ?_ _ | refine blk_drew ?_ | refine blk_alloc ?_ _)); exact BKC.out⟩, ⟨by repeat (first | (with_reducible first | exact HB.out | apply below_alloc | apply pw_below_drewN | apply below_drew1 | refine below_set ?_ GED.out | refine below_set ?_ GEC.out) | exact HB.out)⟩⟩
  ·replace c10 := Bool.eq_false_iff.mpr c10; subst c10; have H1 : (impl_ShadowBound.j0 k l0 true tG tK) = some (r1, r2, r3) := by rw [if_neg (show ¬ (false = true) by decide)] at H; exact H
   clear H; have H := H1; clear H1; have H' := Aside0.mk H; clear H; go_wp2
   go_meet
   case rel => exact ⟨_, (true), zz284, H', ⟨by first | omega | exact Nat.le_refl _⟩, ⟨by (with_reducible repeat (first | refine blk_drewN ?_ _ | refine blk_drew ?_ | refine blk_alloc ?_ _)); refine blk_far ?_ NBD_C.out _; (with_reducible repeat (first | refine blk_drewN ?_ _ | refine blk_drew ?_ | refine blk_alloc ?_ _)); refine blk_far ?_ NBD_C.out _; (with_reducible repeat (first | refine blk_drewN ?_ _ | refine blk_drew ?_ | refine blk_alloc ?_ _)); exact BKD.out⟩, ⟨by (with_reducible repeat (first | refine blk_drewN ?_ _ | refine blk_drew ?_ | refine blk_alloc ?_ _)); refine blk_put (cs := #[.int .i64 tG, .int .i64 0]) ?_ 1 _ rfl; (with_reducible repeat (first | refine blk_drewN ?_ _ | refine blk_drew ?_ | refine blk_alloc ?_ _)); refine blk_put (cs := #[.int .i64 0, .int .i64 0]) ?_ 0 _ rfl; (with_reducible repeat (first | refine blk_drewN ?_ _ | refine blk_drew ?_ | refine blk_alloc ?_ _)); exact BKC.out⟩, ⟨by repeat (first | (with_reducible first | exact HB.out | apply below_alloc | apply pw_below_drewN | apply below_drew1 | refine below_set ?_ GED.out | refine below_set ?_ GEC.out) | exact HB.out)⟩⟩
 case rest =>
  clear HC4; try clear c1
  try clear c2
  try clear p2
  try clear c8
  try clear c10
  try clear c13
  try clear hcz9_0
  try clear hcz9_1
  try clear hfz9_0
  try clear hfz9_1
  obtain ⟨kq, x24_3, rfl, HA, HJ3, BKD, BKC, HB⟩ := hcut; cases kq with
  | zero => exact absurd HA.out (by simp [impl_ShadowBound.j0])
  | succ kj3 =>
   have H := HA.out; clear HA; simp only [impl_ShadowBound.j0] at H; by_cases c17 : x24_3 = true
   ·subst c17; have H1 : (some (0, 0, false)) = some (r1, r2, r3) := by rw [if_pos rfl] at H; exact H
    clear H; have H := H1; clear H1; simp only [Option.some.injEq, Prod.mk.injEq] at H; obtain ⟨rfl, rfl, rfl⟩ := H; have hnb18 := NBD_C.out; have hnc18 := NBC_D.out; obtain ⟨hcz19_0, hcz19_1, hfz19_0, hfz19_1⟩ := cz2 BKD.out; go_wp2
    refine bodyPost_ret (results_ct rfl _ _ gbD 27 #[.int .i64 0, .int .i64 0] (0, 0) _ rfl (by (with_reducible repeat (first | refine blk_drewN ?_ _ | refine blk_drew ?_ | refine blk_alloc ?_ _)); refine blk_put (cs := #[.int .i64 0, .int .i64 0]) ?_ 1 _ rfl; (with_reducible repeat (first | refine blk_drewN ?_ _ | refine blk_drew ?_ | refine blk_alloc ?_ _)); refine blk_put (cs := #[.int .i64 0, .int .i64 0]) ?_ 0 _ rfl; (with_reducible repeat (first | refine blk_drewN ?_ _ | refine blk_drew ?_ | refine blk_alloc ?_ _)); exact BKD.out) Try.underlying27 rfl (by kernel_rfl)) rfl ?_; exact ⟨zz272, zz125⟩
   ·replace c17 := Bool.eq_false_iff.mpr c17; subst c17; have H1 : ((impl_expansion.f kj3 l0).bind fun btS => ((impl_oneRat.f).bind fun btU => ((impl_calc_sub.f kj3 false btS.1 btS.2 btU.1 btU.2).bind fun btV => ((impl_calc_div.f kj3 btV.2.2 tG tK btV.1 btV.2.1).bind fun btW => (if btW.2.2 = true then (some (0, 0, false)) else (some (btW.1, btW.2.1, true))))))) = some (r1, r2, r3) := by rw [if_neg (show ¬ (false = true) by decide)] at H; exact H
    clear H; have H := H1; clear H1; replace H := Option.bind_eq_some_iff.mp H; obtain ⟨⟨tS, tX⟩, AY, H⟩ := H; replace H : ((impl_oneRat.f).bind fun btU => ((impl_calc_sub.f kj3 false tS tX btU.1 btU.2).bind fun btV => ((impl_calc_div.f kj3 btV.2.2 tG tK btV.1 btV.2.1).bind fun btW => (if btW.2.2 = true then (some (0, 0, false)) else (some (btW.1, btW.2.1, true)))))) = some (r1, r2, r3) := H; have A20 := Aside0.mk AY; clear AY; replace H := Option.bind_eq_some_iff.mp H; obtain ⟨⟨tU, tZ⟩, AAA, H⟩ := H; replace H : ((impl_calc_sub.f kj3 false tS tX tU tZ).bind fun btV => ((impl_calc_div.f kj3 btV.2.2 tG tK btV.1 btV.2.1).bind fun btW => (if btW.2.2 = true then (some (0, 0, false)) else (some (btW.1, btW.2.1, true))))) = some (r1, r2, r3) := H; have A21 := Aside0.mk AAA; clear AAA; replace H := Option.bind_eq_some_iff.mp H; obtain ⟨⟨tV, tAB, tAC⟩, AAD, H⟩ := H; replace H : ((impl_calc_div.f kj3 tAC tG tK tV tAB).bind fun btW => (if btW.2.2 = true then (some (0, 0, false)) else (some (btW.1, btW.2.1, true)))) = some (r1, r2, r3) := H; have A22 := Aside0.mk AAD; clear AAD; replace H := Option.bind_eq_some_iff.mp H; obtain ⟨⟨tW, tAE, tAF⟩, AAG, H⟩ := H; replace H : (if tAF = true then (some (0, 0, false)) else (some (tW, tAE, true))) = some (r1, r2, r3) := H; have A23 := Aside0.mk AAG; clear AAG; by_cases c24 : tAF = true
    ·subst c24; have H1 : (some (0, 0, false)) = some (r1, r2, r3) := by rw [if_pos rfl] at H; exact H
     clear H; have H := H1; clear H1; simp only [Option.some.injEq, Prod.mk.injEq] at H; obtain ⟨rfl, rfl, rfl⟩ := H; try go_wp2_with (first | ((with_reducible refine gate_dst (N := 8) rfl ?_); refine boxE 8 #[.bool false] 70 ?_; intro gbE hg w25 hbox hb; have NBD_E := nltA BKD hg; have NBE_D := ngtA BKD hg; have NBC_E := nltA BKC hg; have NBE_C := ngtA BKC hg; have HIE := Aside0.mk ((show IsS70 w w25 gbE false from ⟨hbox, zz67⟩)); replace BKD := blkA BKD hb; replace BKC := blkA BKC hb; replace HB := Aside0.mk (below_step zz125 hb); clear hb hbox hg))
     replace BKD := Aside0.mk (blk_drew BKD.out); replace BKC := Aside0.mk (blk_drew BKC.out); replace HIE := Aside0.mk (IsS70.drew HIE.out); replace HB := Aside0.mk (below_drew1 HB.out); refine start_ (n := 8) (S := fun w' => w'.cell? ⟨gbC, 0, none⟩ = some (.int .i64 tG) ∧ w'.cell? ⟨gbC, 1, none⟩ = some (.int .i64 tK)) (ds := []) (.replicate 8 fF) (by kernel_rfl) rfl rfl ⟨bcA BKC 0, bcA BKC 1⟩ (fun hHeld => ?_); refine with_tabW impl_ShadowBound.tab5 impl_ShadowBound.bits5 (fun HT_ HW_ => ?_); generalize w25.drew = w26 at BKD BKC HIE HB hHeld ⊢; refine pureA 1 (some 27) (bB 8 2) HT_ ?_; refine takeA5 0 (some 26) (bB 8 3) HT_ HW_ hHeld ?_; refine join_ (σ := Nat) 1 (bB 8 127) (fun s_ => [(28, .agg #[.int .i64 tS, .int .i64 tX]), (29, .agg #[.int .i64 tU, .int .i64 tZ]), (30, .agg #[.int .i64 tV, .int .i64 tAB]), (31, .agg #[.int .i64 tW, .int .i64 tAE]), (9, .pointer (some ⟨s_, 0, none⟩))]) (fun s_ w' => (w'.cell? ⟨gbC, 0, none⟩ = some (.int .i64 tG) ∧ w'.cell? ⟨gbC, 1, none⟩ = some (.int .i64 tK)) ∧ (w'.heap[gbD]? = some (.cells #[.int .i64 0, .int .i64 0] 27 (0, 0))) ∧ (w'.heap[gbC]? = some (.cells #[.int .i64 tG, .int .i64 tK] 27 (0, 0))) ∧ (w'.heap[s_]? = some (.cells #[.int .i64 0, .int .i64 0] 27 (0, 0))) ∧ (w.heap.size ≤ s_) ∧ (w.heap.size ≤ s_) ∧ (gbE ≠ s_) ∧ (s_ ≠ gbE) ∧ (gbD ≠ s_) ∧ (s_ ≠ gbD) ∧ (gbC ≠ s_) ∧ (s_ ≠ gbC) ∧ (IsS70 w w' gbE true) ∧ (Below w.heap.size w w')) ?_ ?_; rotate_left
     ·intro hJ2_3_4_5_6; refine join_ (σ := Unit) 2 (bB 8 63) (fun s_ => [(28, .agg #[.int .i64 tS, .int .i64 tX]), (29, .agg #[.int .i64 tU, .int .i64 tZ]), (30, .agg #[.int .i64 tV, .int .i64 tAB]), (31, .agg #[.int .i64 tW, .int .i64 tAE])]) (fun s_ w' => (w'.cell? ⟨gbC, 0, none⟩ = some (.int .i64 tG) ∧ w'.cell? ⟨gbC, 1, none⟩ = some (.int .i64 tK)) ∧ (w'.heap[gbD]? = some (.cells #[.int .i64 0, .int .i64 0] 27 (0, 0))) ∧ (w'.heap[gbC]? = some (.cells #[.int .i64 tG, .int .i64 tK] 27 (0, 0))) ∧ (IsS70 w w' gbE true) ∧ (Below w.heap.size w w')) ?_ ?_; rotate_left
      ·intro hJ2_3_4_5; refine join_ (σ := Nat) 2 (bB 8 95) (fun s_ => [(28, .agg #[.int .i64 tS, .int .i64 tX]), (29, .agg #[.int .i64 tU, .int .i64 tZ]), (30, .agg #[.int .i64 tV, .int .i64 tAB]), (9, .pointer (some ⟨s_, 0, none⟩))]) (fun s_ w' => (w'.cell? ⟨gbC, 0, none⟩ = some (.int .i64 tG) ∧ w'.cell? ⟨gbC, 1, none⟩ = some (.int .i64 tK)) ∧ (w'.heap[gbD]? = some (.cells #[.int .i64 0, .int .i64 0] 27 (0, 0))) ∧ (w'.heap[gbC]? = some (.cells #[.int .i64 tG, .int .i64 tK] 27 (0, 0))) ∧ (w'.heap[s_]? = some (.cells #[.int .i64 0, .int .i64 0] 27 (0, 0))) ∧ (w.heap.size ≤ s_) ∧ (w.heap.size ≤ s_) ∧ (gbE ≠ s_) ∧ (s_ ≠ gbE) ∧ (gbD ≠ s_) ∧ (s_ ≠ gbD) ∧ (gbC ≠ s_) ∧ (s_ ≠ gbC) ∧ (IsS70 w w' gbE tAC) ∧ (Below w.heap.size w w')) ?_ ?_; rotate_left
       ·intro hJ2_3_4_6; refine join_ (σ := Unit) 3 (bB 8 31) (fun s_ => [(28, .agg #[.int .i64 tS, .int .i64 tX]), (29, .agg #[.int .i64 tU, .int .i64 tZ]), (30, .agg #[.int .i64 tV, .int .i64 tAB])]) (fun s_ w' => (w'.cell? ⟨gbC, 0, none⟩ = some (.int .i64 tG) ∧ w'.cell? ⟨gbC, 1, none⟩ = some (.int .i64 tK)) ∧ (w'.heap[gbD]? = some (.cells #[.int .i64 0, .int .i64 0] 27 (0, 0))) ∧ (w'.heap[gbC]? = some (.cells #[.int .i64 tG, .int .i64 tK] 27 (0, 0))) ∧ (IsS70 w w' gbE tAC) ∧ (Below w.heap.size w w')) ?_ ?_; rotate_left
        ·intro hJ2_3_4; refine join_ (σ := Nat) 3 (bB 8 79) (fun s_ => [(28, .agg #[.int .i64 tS, .int .i64 tX]), (29, .agg #[.int .i64 tU, .int .i64 tZ]), (9, .pointer (some ⟨s_, 0, none⟩))]) (fun s_ w' => (w'.cell? ⟨gbC, 0, none⟩ = some (.int .i64 tG) ∧ w'.cell? ⟨gbC, 1, none⟩ = some (.int .i64 tK)) ∧ (w'.heap[gbD]? = some (.cells #[.int .i64 0, .int .i64 0] 27 (0, 0))) ∧ (w'.heap[gbC]? = some (.cells #[.int .i64 tG, .int .i64 tK] 27 (0, 0))) ∧ (w'.heap[s_]? = some (.cells #[.int .i64 0, .int .i64 0] 27 (0, 0))) ∧ (w.heap.size ≤ s_) ∧ (w.heap.size ≤ s_) ∧ (gbE ≠ s_) ∧ (s_ ≠ gbE) ∧ (gbD ≠ s_) ∧ (s_ ≠ gbD) ∧ (gbC ≠ s_) ∧ (s_ ≠ gbC) ∧ (IsS70 w w' gbE false) ∧ (Below w.heap.size w w')) ?_ ?_; rotate_left
         ·intro hJ2_3_6; refine join_ (σ := Unit) 4 (bB 8 15) (fun s_ => [(28, .agg #[.int .i64 tS, .int .i64 tX]), (29, .agg #[.int .i64 tU, .int .i64 tZ])]) (fun s_ w' => (w'.cell? ⟨gbC, 0, none⟩ = some (.int .i64 tG) ∧ w'.cell? ⟨gbC, 1, none⟩ = some (.int .i64 tK)) ∧ (w'.heap[gbD]? = some (.cells #[.int .i64 0, .int .i64 0] 27 (0, 0))) ∧ (w'.heap[gbC]? = some (.cells #[.int .i64 tG, .int .i64 tK] 27 (0, 0))) ∧ (IsS70 w w' gbE false) ∧ (Below w.heap.size w w')) ?_ ?_; rotate_left
          ·intro hJ2_3; refine join_ (σ := Nat) 4 (bB 8 71) (fun s_ => [(28, .agg #[.int .i64 tS, .int .i64 tX]), (9, .pointer (some ⟨s_, 0, none⟩))]) (fun s_ w' => (w'.cell? ⟨gbC, 0, none⟩ = some (.int .i64 tG) ∧ w'.cell? ⟨gbC, 1, none⟩ = some (.int .i64 tK)) ∧ (w'.heap[gbD]? = some (.cells #[.int .i64 0, .int .i64 0] 27 (0, 0))) ∧ (w'.heap[gbC]? = some (.cells #[.int .i64 tG, .int .i64 tK] 27 (0, 0))) ∧ (w'.heap[s_]? = some (.cells #[.int .i64 0, .int .i64 0] 27 (0, 0))) ∧ (w.heap.size ≤ s_) ∧ (w.heap.size ≤ s_) ∧ (gbE ≠ s_) ∧ (s_ ≠ gbE) ∧ (gbD ≠ s_) ∧ (s_ ≠ gbD) ∧ (gbC ≠ s_) ∧ (s_ ≠ gbC) ∧ (IsS70 w w' gbE false) ∧ (Below w.heap.size w w')) ?_ ?_; rotate_left
           ·intro hJ2_6; refine join_ (σ := Unit) 5 (bB 8 7) (fun s_ => [(28, .agg #[.int .i64 tS, .int .i64 tX])]) (fun s_ w' => (w'.cell? ⟨gbC, 0, none⟩ = some (.int .i64 tG) ∧ w'.cell? ⟨gbC, 1, none⟩ = some (.int .i64 tK)) ∧ (w'.heap[gbD]? = some (.cells #[.int .i64 0, .int .i64 0] 27 (0, 0))) ∧ (w'.heap[gbC]? = some (.cells #[.int .i64 tG, .int .i64 tK] 27 (0, 0))) ∧ (IsS70 w w' gbE false) ∧ (Below w.heap.size w w')) ?_ ?_; rotate_left
            ·intro hJ2; refine join_ (σ := Nat) 5 (bB 8 67) (fun s_ => [(9, .pointer (some ⟨s_, 0, none⟩))]) (fun s_ w' => (w'.cell? ⟨gbC, 0, none⟩ = some (.int .i64 tG) ∧ w'.cell? ⟨gbC, 1, none⟩ = some (.int .i64 tK)) ∧ (w'.heap[gbD]? = some (.cells #[.int .i64 0, .int .i64 0] 27 (0, 0))) ∧ (w'.heap[gbC]? = some (.cells #[.int .i64 tG, .int .i64 tK] 27 (0, 0))) ∧ (w'.heap[s_]? = some (.cells #[.int .i64 0, .int .i64 0] 27 (0, 0))) ∧ (w.heap.size ≤ s_) ∧ (w.heap.size ≤ s_) ∧ (gbE ≠ s_) ∧ (s_ ≠ gbE) ∧ (gbD ≠ s_) ∧ (s_ ≠ gbD) ∧ (gbC ≠ s_) ∧ (s_ ≠ gbC) ∧ (IsS70 w w' gbE false) ∧ (Below w.heap.size w w')) ?_ ?_; rotate_left
             ·intro hJ6; refine two_ (i := 2) (j := 6) (Ni := some 28) (Nj := some 9) (bB 8 7) (bB 8 67) rfl rfl rfl rfl (two_of HT_.out (by kernel_rfl)) (by decide) (by decide) (fun K hK => ?_) (fun K hK => ?_)
              ·skip
               refine goes_ Try.func48 (by kernel_rfl) rfl #[.slice A0 l0.length c0] (by rfl) rfl rfl zz196 ?_; with_reducible refine (impl_expansion.calls kj3 _ _ l0 tS tX _ ?side1 ?side2 A20.out).mono ?_
               (case side1 => repeat (first | exact (Kd.C_below HR0.out HB.out) | (with_reducible refine Kd.C_alloc ?_ _) | (with_reducible refine Kd.C_drewN ?_ _) | (with_reducible refine Kd.C_drew ?_))); (case side2 => exact HC0.out); rintro e w27 ⟨rfl, hb⟩; refine ⟨_, rfl, ?_⟩; replace HIE := Aside0.mk (IsS70.below zz66 hb); replace BKD := blkA BKD hb; replace BKC := blkA BKC hb; replace HB := Aside0.mk (below_step zz64 hb); (try clear hb); refine hK.out _ _ ⟨bcA BKC 0, bcA BKC 1⟩ (fun hHeld => ?_); clear hK K; refine normA (some 28) ?_; exact norm_ zz83 (hJ2 () _ ⟨hHeld, zz248, zz249, zz66, zz64⟩)
              ·skip
               refine boxS 9 #[.int .i64 0, .int .i64 0] 27 ?_; intro gbA hg w27 hbox hb; have n0_ := blkA BKD hb; have n1_ := blkA BKC hb; have n2_ := Aside0.mk (IsS70.below zz66 hb); have n3_ := Aside0.mk (below_step zz64 hb); have n4_ := Aside0.mk (hbox); have n5_ := gwA (below_size zz64) hg; have n6_ := gwA (below_size zz64) hg; have n7_ := nltA BKD hg; have n8_ := ngtA BKD hg; have n9_ := nltA BKC hg; have n10_ := ngtA BKC hg; have n11_ := Aside0.mk ((by rw [hg]; exact Nat.ne_of_lt (IsS70.lt (show IsS70 w _ gbE false from by repeat (first | (with_reducible first | exact HIE.out | apply IsS70.alloc | apply IsS70.drewN | apply IsS70.drew | apply IsS70.set_0 | apply IsS70.far (hne := NBE_D.out) | apply IsS70.far (hne := NBE_C.out)) | exact HIE.out))) : gbE ≠ gbA)); have n12_ := Aside0.mk ((by rw [hg]; exact Nat.ne_of_gt (IsS70.lt (show IsS70 w _ gbE false from by repeat (first | (with_reducible first | exact HIE.out | apply IsS70.alloc | apply IsS70.drewN | apply IsS70.drew | apply IsS70.set_0 | apply IsS70.far (hne := NBE_D.out) | apply IsS70.far (hne := NBE_C.out)) | exact HIE.out))) : gbA ≠ gbE)); clear BKD; clear BKC; clear HIE; clear HB; have BKD := n0_; have BKC := n1_; have HIE := n2_; have HB := n3_; have BKA := n4_; have GWA := n5_; have GEA := n6_; have NBD_A := n7_; have NBA_D := n8_; have NBC_A := n9_; have NBA_C := n10_; have NBE_A := n11_; have NBA_E := n12_; clear n0_ n1_ n2_ n3_ n4_ n5_ n6_ n7_ n8_ n9_ n10_ n11_ n12_; clear hb hbox hg; refine hK.out _ _ ⟨bcA BKC 0, bcA BKC 1⟩ (fun hHeld => ?_); clear hK K; refine normA (some 9) ?_; exact norm_ zz83 (hJ6 (gbA) _ ⟨hHeld, zz248, zz249, zz250, GWA.out, GEA.out, NBE_A.out, NBA_E.out, NBD_A.out, NBA_D.out, NBC_A.out, NBA_C.out, zz51, zz52⟩)
             ·skip
              rintro gbA w28 ⟨hS_, h0_, h1_, h2_, h3_, h4_, h5_, h6_, h7_, h8_, h9_, h10_, h11_, h12_⟩; replace BKD : Aside0 (w28.heap[gbD]? = some (.cells #[.int .i64 0, .int .i64 0] 27 (0, 0))) := ⟨h0_⟩; replace BKC : Aside0 (w28.heap[gbC]? = some (.cells #[.int .i64 tG, .int .i64 tK] 27 (0, 0))) := ⟨h1_⟩; have BKA : Aside0 (w28.heap[gbA]? = some (.cells #[.int .i64 0, .int .i64 0] 27 (0, 0))) := ⟨h2_⟩; have GWA : Aside0 (w.heap.size ≤ gbA) := ⟨h3_⟩; have GEA : Aside0 (w.heap.size ≤ gbA) := ⟨h4_⟩; have NBE_A : Aside0 (gbE ≠ gbA) := ⟨h5_⟩; have NBA_E : Aside0 (gbA ≠ gbE) := ⟨h6_⟩; have NBD_A : Aside0 (gbD ≠ gbA) := ⟨h7_⟩; have NBA_D : Aside0 (gbA ≠ gbD) := ⟨h8_⟩; have NBC_A : Aside0 (gbC ≠ gbA) := ⟨h9_⟩; have NBA_C : Aside0 (gbA ≠ gbC) := ⟨h10_⟩; replace HIE : Aside0 (IsS70 w w28 gbE false) := ⟨h11_⟩; replace HB : Aside0 (Below w.heap.size w w28) := ⟨h12_⟩; clear h0_ h1_ h2_ h3_ h4_ h5_ h6_ h7_ h8_ h9_ h10_ h11_ h12_; have hHeld : w28.cell? ⟨gbC, 0, none⟩ = some (.int .i64 tG) ∧ w28.cell? ⟨gbC, 1, none⟩ = some (.int .i64 tK) := hS_; refine norm_ (a' := ?_) ?_ ?_; rotate_left
              ·simp only [putAll, Act.put, List.setIfInBounds_toArray, List.set_cons_zero, List.set_cons_succ]; rfl
              refine one_ (i := 2) (N := some 28) (bB 8 71) rfl rfl (one_of HT_.out (by kernel_rfl)) (by decide) (fun K hK => ?_); refine goes_ Try.func48 (by kernel_rfl) rfl #[.slice A0 l0.length c0] (by rfl) rfl rfl zz196 ?_; with_reducible refine (impl_expansion.calls kj3 _ _ l0 tS tX _ ?side1 ?side2 A20.out).mono ?_
              (case side1 => repeat (first | exact (Kd.C_below HR0.out HB.out) | (with_reducible refine Kd.C_alloc ?_ _) | (with_reducible refine Kd.C_drewN ?_ _) | (with_reducible refine Kd.C_drew ?_))); (case side2 => exact HC0.out); rintro e w29 ⟨rfl, hb⟩; refine ⟨_, rfl, ?_⟩; replace HIE := Aside0.mk (IsS70.below zz51 hb); replace BKD := blkA BKD hb; replace BKC := blkA BKC hb; replace BKA := blkA BKA hb; replace HB := Aside0.mk (below_step zz52 hb); (try clear hb); refine hK.out _ _ ⟨bcA BKC 0, bcA BKC 1⟩ (fun hHeld => ?_); clear hK K; refine normA (some 28) ?_; exact norm_ zz83 (hJ2_6 (gbA) _ ⟨hHeld, zz248, zz249, zz250, GWA.out, GEA.out, NBE_A.out, NBA_E.out, NBD_A.out, NBA_D.out, NBC_A.out, NBA_C.out, zz51, zz52⟩)
            ·skip
             rintro _ w28 ⟨hS_, h0_, h1_, h2_, h3_⟩; replace BKD : Aside0 (w28.heap[gbD]? = some (.cells #[.int .i64 0, .int .i64 0] 27 (0, 0))) := ⟨h0_⟩; replace BKC : Aside0 (w28.heap[gbC]? = some (.cells #[.int .i64 tG, .int .i64 tK] 27 (0, 0))) := ⟨h1_⟩; replace HIE : Aside0 (IsS70 w w28 gbE false) := ⟨h2_⟩; replace HB : Aside0 (Below w.heap.size w w28) := ⟨h3_⟩; clear h0_ h1_ h2_ h3_; have hHeld : w28.cell? ⟨gbC, 0, none⟩ = some (.int .i64 tG) ∧ w28.cell? ⟨gbC, 1, none⟩ = some (.int .i64 tK) := hS_; refine norm_ (a' := ?_) ?_ ?_; rotate_left
             ·simp only [putAll, Act.put, List.setIfInBounds_toArray, List.set_cons_zero, List.set_cons_succ]; rfl
             refine two_ (i := 3) (j := 6) (Ni := some 29) (Nj := some 9) (bB 8 15) (bB 8 71) rfl rfl rfl rfl (two_of HT_.out (by kernel_rfl)) (by decide) (by decide) (fun K hK => ?_) (fun K hK => ?_)
             ·skip
              refine goes_ Try.func47 (by kernel_rfl) rfl #[] (by rfl) rfl rfl zz196 ?_; with_reducible refine (impl_oneRat.calls  tU tZ _ A21.out).mono ?_
              rintro e w29 ⟨rfl, hb⟩; refine ⟨_, rfl, ?_⟩; replace HIE := Aside0.mk (IsS70.below zz66 hb); replace BKD := blkA BKD hb; replace BKC := blkA BKC hb; replace HB := Aside0.mk (below_step zz64 hb); (try clear hb); refine hK.out _ _ ⟨bcA BKC 0, bcA BKC 1⟩ (fun hHeld => ?_); clear hK K; refine normA (some 29) ?_; exact norm_ zz83 (hJ2_3 () _ ⟨hHeld, zz248, zz249, zz66, zz64⟩)
             ·skip
              refine boxS 9 #[.int .i64 0, .int .i64 0] 27 ?_; intro gbA hg w29 hbox hb; have n0_ := blkA BKD hb; have n1_ := blkA BKC hb; have n2_ := Aside0.mk (IsS70.below zz66 hb); have n3_ := Aside0.mk (below_step zz64 hb); have n4_ := Aside0.mk (hbox); have n5_ := gwA (below_size zz64) hg; have n6_ := gwA (below_size zz64) hg; have n7_ := nltA BKD hg; have n8_ := ngtA BKD hg; have n9_ := nltA BKC hg; have n10_ := ngtA BKC hg; have n11_ := Aside0.mk ((by rw [hg]; exact Nat.ne_of_lt (IsS70.lt (show IsS70 w _ gbE false from by repeat (first | (with_reducible first | exact HIE.out | apply IsS70.alloc | apply IsS70.drewN | apply IsS70.drew | apply IsS70.set_0 | apply IsS70.far (hne := NBE_D.out) | apply IsS70.far (hne := NBE_C.out)) | exact HIE.out))) : gbE ≠ gbA)); have n12_ := Aside0.mk ((by rw [hg]; exact Nat.ne_of_gt (IsS70.lt (show IsS70 w _ gbE false from by repeat (first | (with_reducible first | exact HIE.out | apply IsS70.alloc | apply IsS70.drewN | apply IsS70.drew | apply IsS70.set_0 | apply IsS70.far (hne := NBE_D.out) | apply IsS70.far (hne := NBE_C.out)) | exact HIE.out))) : gbA ≠ gbE)); clear BKD; clear BKC; clear HIE; clear HB; have BKD := n0_; have BKC := n1_; have HIE := n2_; have HB := n3_; have BKA := n4_; have GWA := n5_; have GEA := n6_; have NBD_A := n7_; have NBA_D := n8_; have NBC_A := n9_; have NBA_C := n10_; have NBE_A := n11_; have NBA_E := n12_; clear n0_ n1_ n2_ n3_ n4_ n5_ n6_ n7_ n8_ n9_ n10_ n11_ n12_; clear hb hbox hg; refine hK.out _ _ ⟨bcA BKC 0, bcA BKC 1⟩ (fun hHeld => ?_); clear hK K; refine normA (some 9) ?_; exact norm_ zz83 (hJ2_6 (gbA) _ ⟨hHeld, zz248, zz249, zz250, GWA.out, GEA.out, NBE_A.out, NBA_E.out, NBD_A.out, NBA_D.out, NBC_A.out, NBA_C.out, zz51, zz52⟩)
           ·skip
            rintro gbA w29 ⟨hS_, h0_, h1_, h2_, h3_, h4_, h5_, h6_, h7_, h8_, h9_, h10_, h11_, h12_⟩; replace BKD : Aside0 (w29.heap[gbD]? = some (.cells #[.int .i64 0, .int .i64 0] 27 (0, 0))) := ⟨h0_⟩; replace BKC : Aside0 (w29.heap[gbC]? = some (.cells #[.int .i64 tG, .int .i64 tK] 27 (0, 0))) := ⟨h1_⟩; have BKA : Aside0 (w29.heap[gbA]? = some (.cells #[.int .i64 0, .int .i64 0] 27 (0, 0))) := ⟨h2_⟩; have GWA : Aside0 (w.heap.size ≤ gbA) := ⟨h3_⟩; have GEA : Aside0 (w.heap.size ≤ gbA) := ⟨h4_⟩; have NBE_A : Aside0 (gbE ≠ gbA) := ⟨h5_⟩; have NBA_E : Aside0 (gbA ≠ gbE) := ⟨h6_⟩; have NBD_A : Aside0 (gbD ≠ gbA) := ⟨h7_⟩; have NBA_D : Aside0 (gbA ≠ gbD) := ⟨h8_⟩; have NBC_A : Aside0 (gbC ≠ gbA) := ⟨h9_⟩; have NBA_C : Aside0 (gbA ≠ gbC) := ⟨h10_⟩; replace HIE : Aside0 (IsS70 w w29 gbE false) := ⟨h11_⟩; replace HB : Aside0 (Below w.heap.size w w29) := ⟨h12_⟩; clear h0_ h1_ h2_ h3_ h4_ h5_ h6_ h7_ h8_ h9_ h10_ h11_ h12_; have hHeld : w29.cell? ⟨gbC, 0, none⟩ = some (.int .i64 tG) ∧ w29.cell? ⟨gbC, 1, none⟩ = some (.int .i64 tK) := hS_; refine norm_ (a' := ?_) ?_ ?_; rotate_left
            ·simp only [putAll, Act.put, List.setIfInBounds_toArray, List.set_cons_zero, List.set_cons_succ]; rfl
            refine one_ (i := 3) (N := some 29) (bB 8 79) rfl rfl (one_of HT_.out (by kernel_rfl)) (by decide) (fun K hK => ?_); refine goes_ Try.func47 (by kernel_rfl) rfl #[] (by rfl) rfl rfl zz196 ?_; with_reducible refine (impl_oneRat.calls  tU tZ _ A21.out).mono ?_
            rintro e w30 ⟨rfl, hb⟩; refine ⟨_, rfl, ?_⟩; replace HIE := Aside0.mk (IsS70.below zz51 hb); replace BKD := blkA BKD hb; replace BKC := blkA BKC hb; replace BKA := blkA BKA hb; replace HB := Aside0.mk (below_step zz52 hb); (try clear hb); refine hK.out _ _ ⟨bcA BKC 0, bcA BKC 1⟩ (fun hHeld => ?_); clear hK K; refine normA (some 29) ?_; exact norm_ zz83 (hJ2_3_6 (gbA) _ ⟨hHeld, zz248, zz249, zz250, GWA.out, GEA.out, NBE_A.out, NBA_E.out, NBD_A.out, NBA_D.out, NBC_A.out, NBA_C.out, zz51, zz52⟩)
          ·skip
           rintro _ w29 ⟨hS_, h0_, h1_, h2_, h3_⟩; replace BKD : Aside0 (w29.heap[gbD]? = some (.cells #[.int .i64 0, .int .i64 0] 27 (0, 0))) := ⟨h0_⟩; replace BKC : Aside0 (w29.heap[gbC]? = some (.cells #[.int .i64 tG, .int .i64 tK] 27 (0, 0))) := ⟨h1_⟩; replace HIE : Aside0 (IsS70 w w29 gbE false) := ⟨h2_⟩; replace HB : Aside0 (Below w.heap.size w w29) := ⟨h3_⟩; clear h0_ h1_ h2_ h3_; have hHeld : w29.cell? ⟨gbC, 0, none⟩ = some (.int .i64 tG) ∧ w29.cell? ⟨gbC, 1, none⟩ = some (.int .i64 tK) := hS_; refine norm_ (a' := ?_) ?_ ?_; rotate_left
           ·simp only [putAll, Act.put, List.setIfInBounds_toArray, List.set_cons_zero, List.set_cons_succ]; rfl
           refine two_ (i := 4) (j := 6) (Ni := some 30) (Nj := some 9) (bB 8 31) (bB 8 79) rfl rfl rfl rfl (two_of HT_.out (by kernel_rfl)) (by decide) (by decide) (fun K hK => ?_) (fun K hK => ?_)
           ·skip
            refine goes_ Try.func50 (by kernel_rfl) rfl #[.pointer (some ⟨gbE, 0, none⟩), .agg #[.int .i64 tS, .int .i64 tX], .agg #[.int .i64 tU, .int .i64 tZ]] (by rfl) rfl rfl zz196 ?_; with_reducible refine (impl_calc_sub.calls kj3 gbE false tS tX tU tZ tV tAB tAC w _ ?side1 ?side2 A22.out).mono ?_
            (case side1 => repeat (first | (with_reducible first | exact HIE.out | apply IsS70.alloc | apply IsS70.drewN | apply IsS70.drew | apply IsS70.set_0 | apply IsS70.far (hne := NBE_D.out) | apply IsS70.far (hne := NBE_C.out)) | exact HIE.out)); (case side2 => repeat (first | (with_reducible first | exact HB.out | apply below_alloc | apply pw_below_drewN | apply below_drew1 | refine below_set ?_ (IsS70.ge HIE.out) | refine below_set ?_ GED.out | refine below_set ?_ GEC.out) | exact HB.out)); rintro e w30 ⟨rfl, hi, hb, hk⟩; refine ⟨_, rfl, ?_⟩; replace BKD := Aside0.mk (KeepBut.blk hk (g' := gbD) (o := .cells #[.int .i64 0, .int .i64 0] 27 (0, 0)) zz248 NBD_E.out (by simp)); replace BKC := Aside0.mk (KeepBut.blk hk (g' := gbC) (o := .cells #[.int .i64 tG, .int .i64 tK] 27 (0, 0)) zz249 NBC_E.out (by simp)); replace HIE := Aside0.mk (hi); replace HB := Aside0.mk (hb); (try clear hb); (try clear hk); (try clear hi); refine hK.out _ _ ⟨bcA BKC 0, bcA BKC 1⟩ (fun hHeld => ?_); clear hK K; refine normA (some 30) ?_; exact norm_ zz83 (hJ2_3_4 () _ ⟨hHeld, zz248, zz249, zz66, zz64⟩)
           ·skip
            refine boxS 9 #[.int .i64 0, .int .i64 0] 27 ?_; intro gbA hg w30 hbox hb; have n0_ := blkA BKD hb; have n1_ := blkA BKC hb; have n2_ := Aside0.mk (IsS70.below zz66 hb); have n3_ := Aside0.mk (below_step zz64 hb); have n4_ := Aside0.mk (hbox); have n5_ := gwA (below_size zz64) hg; have n6_ := gwA (below_size zz64) hg; have n7_ := nltA BKD hg; have n8_ := ngtA BKD hg; have n9_ := nltA BKC hg; have n10_ := ngtA BKC hg; have n11_ := Aside0.mk ((by rw [hg]; exact Nat.ne_of_lt (IsS70.lt (show IsS70 w _ gbE false from by repeat (first | (with_reducible first | exact HIE.out | apply IsS70.alloc | apply IsS70.drewN | apply IsS70.drew | apply IsS70.set_0 | apply IsS70.far (hne := NBE_D.out) | apply IsS70.far (hne := NBE_C.out)) | exact HIE.out))) : gbE ≠ gbA)); have n12_ := Aside0.mk ((by rw [hg]; exact Nat.ne_of_gt (IsS70.lt (show IsS70 w _ gbE false from by repeat (first | (with_reducible first | exact HIE.out | apply IsS70.alloc | apply IsS70.drewN | apply IsS70.drew | apply IsS70.set_0 | apply IsS70.far (hne := NBE_D.out) | apply IsS70.far (hne := NBE_C.out)) | exact HIE.out))) : gbA ≠ gbE)); clear BKD; clear BKC; clear HIE; clear HB; have BKD := n0_; have BKC := n1_; have HIE := n2_; have HB := n3_; have BKA := n4_; have GWA := n5_; have GEA := n6_; have NBD_A := n7_; have NBA_D := n8_; have NBC_A := n9_; have NBA_C := n10_; have NBE_A := n11_; have NBA_E := n12_; clear n0_ n1_ n2_ n3_ n4_ n5_ n6_ n7_ n8_ n9_ n10_ n11_ n12_; clear hb hbox hg; refine hK.out _ _ ⟨bcA BKC 0, bcA BKC 1⟩ (fun hHeld => ?_); clear hK K; refine normA (some 9) ?_; exact norm_ zz83 (hJ2_3_6 (gbA) _ ⟨hHeld, zz248, zz249, zz250, GWA.out, GEA.out, NBE_A.out, NBA_E.out, NBD_A.out, NBA_D.out, NBC_A.out, NBA_C.out, zz51, zz52⟩)
         ·skip
          rintro gbA w30 ⟨hS_, h0_, h1_, h2_, h3_, h4_, h5_, h6_, h7_, h8_, h9_, h10_, h11_, h12_⟩; replace BKD : Aside0 (w30.heap[gbD]? = some (.cells #[.int .i64 0, .int .i64 0] 27 (0, 0))) := ⟨h0_⟩; replace BKC : Aside0 (w30.heap[gbC]? = some (.cells #[.int .i64 tG, .int .i64 tK] 27 (0, 0))) := ⟨h1_⟩; have BKA : Aside0 (w30.heap[gbA]? = some (.cells #[.int .i64 0, .int .i64 0] 27 (0, 0))) := ⟨h2_⟩; have GWA : Aside0 (w.heap.size ≤ gbA) := ⟨h3_⟩; have GEA : Aside0 (w.heap.size ≤ gbA) := ⟨h4_⟩; have NBE_A : Aside0 (gbE ≠ gbA) := ⟨h5_⟩; have NBA_E : Aside0 (gbA ≠ gbE) := ⟨h6_⟩; have NBD_A : Aside0 (gbD ≠ gbA) := ⟨h7_⟩; have NBA_D : Aside0 (gbA ≠ gbD) := ⟨h8_⟩; have NBC_A : Aside0 (gbC ≠ gbA) := ⟨h9_⟩; have NBA_C : Aside0 (gbA ≠ gbC) := ⟨h10_⟩; replace HIE : Aside0 (IsS70 w w30 gbE false) := ⟨h11_⟩; replace HB : Aside0 (Below w.heap.size w w30) := ⟨h12_⟩; clear h0_ h1_ h2_ h3_ h4_ h5_ h6_ h7_ h8_ h9_ h10_ h11_ h12_; have hHeld : w30.cell? ⟨gbC, 0, none⟩ = some (.int .i64 tG) ∧ w30.cell? ⟨gbC, 1, none⟩ = some (.int .i64 tK) := hS_; refine norm_ (a' := ?_) ?_ ?_; rotate_left
          ·simp only [putAll, Act.put, List.setIfInBounds_toArray, List.set_cons_zero, List.set_cons_succ]; rfl
          refine one_ (i := 4) (N := some 30) (bB 8 95) rfl rfl (one_of HT_.out (by kernel_rfl)) (by decide) (fun K hK => ?_); refine goes_ Try.func50 (by kernel_rfl) rfl #[.pointer (some ⟨gbE, 0, none⟩), .agg #[.int .i64 tS, .int .i64 tX], .agg #[.int .i64 tU, .int .i64 tZ]] (by rfl) rfl rfl zz196 ?_; with_reducible refine (impl_calc_sub.calls kj3 gbE false tS tX tU tZ tV tAB tAC w _ ?side1 ?side2 A22.out).mono ?_
          (case side1 => repeat (first | (with_reducible first | exact HIE.out | apply IsS70.alloc | apply IsS70.drewN | apply IsS70.drew | apply IsS70.set_0 | apply IsS70.far (hne := NBE_D.out) | apply IsS70.far (hne := NBE_C.out) | apply IsS70.far (hne := NBE_A.out)) | exact HIE.out)); (case side2 => repeat (first | (with_reducible first | exact HB.out | apply below_alloc | apply pw_below_drewN | apply below_drew1 | refine below_set ?_ (IsS70.ge HIE.out) | refine below_set ?_ GED.out | refine below_set ?_ GEC.out | refine below_set ?_ GEA.out) | exact HB.out)); rintro e w31 ⟨rfl, hi, hb, hk⟩; refine ⟨_, rfl, ?_⟩; replace BKD := Aside0.mk (KeepBut.blk hk (g' := gbD) (o := .cells #[.int .i64 0, .int .i64 0] 27 (0, 0)) zz248 NBD_E.out (by simp)); replace BKC := Aside0.mk (KeepBut.blk hk (g' := gbC) (o := .cells #[.int .i64 tG, .int .i64 tK] 27 (0, 0)) zz249 NBC_E.out (by simp)); replace BKA := Aside0.mk (KeepBut.blk hk (g' := gbA) (o := .cells #[.int .i64 0, .int .i64 0] 27 (0, 0)) zz250 NBA_E.out (by simp)); replace HIE := Aside0.mk (hi); replace HB := Aside0.mk (hb); (try clear hb); (try clear hk); (try clear hi); refine hK.out _ _ ⟨bcA BKC 0, bcA BKC 1⟩ (fun hHeld => ?_); clear hK K; refine normA (some 30) ?_; exact norm_ zz83 (hJ2_3_4_6 (gbA) _ ⟨hHeld, zz248, zz249, zz250, GWA.out, GEA.out, NBE_A.out, NBA_E.out, NBD_A.out, NBA_D.out, NBC_A.out, NBA_C.out, zz51, zz52⟩)
        ·skip
         rintro _ w30 ⟨hS_, h0_, h1_, h2_, h3_⟩; replace BKD : Aside0 (w30.heap[gbD]? = some (.cells #[.int .i64 0, .int .i64 0] 27 (0, 0))) := ⟨h0_⟩; replace BKC : Aside0 (w30.heap[gbC]? = some (.cells #[.int .i64 tG, .int .i64 tK] 27 (0, 0))) := ⟨h1_⟩; replace HIE : Aside0 (IsS70 w w30 gbE tAC) := ⟨h2_⟩; replace HB : Aside0 (Below w.heap.size w w30) := ⟨h3_⟩; clear h0_ h1_ h2_ h3_; have hHeld : w30.cell? ⟨gbC, 0, none⟩ = some (.int .i64 tG) ∧ w30.cell? ⟨gbC, 1, none⟩ = some (.int .i64 tK) := hS_; refine norm_ (a' := ?_) ?_ ?_; rotate_left
         ·simp only [putAll, Act.put, List.setIfInBounds_toArray, List.set_cons_zero, List.set_cons_succ]; rfl
         refine two_ (i := 5) (j := 6) (Ni := some 31) (Nj := some 9) (bB 8 63) (bB 8 95) rfl rfl rfl rfl (two_of HT_.out (by kernel_rfl)) (by decide) (by decide) (fun K hK => ?_) (fun K hK => ?_)
         ·skip
          refine goes_ Try.func49 (by kernel_rfl) rfl #[.pointer (some ⟨gbE, 0, none⟩), .agg #[.int .i64 tG, .int .i64 tK], .agg #[.int .i64 tV, .int .i64 tAB]] (by rfl) rfl rfl zz196 ?_; with_reducible refine (impl_calc_div.calls kj3 gbE tAC tG tK tV tAB tW tAE true w _ ?side1 ?side2 A23.out).mono ?_
          (case side1 => repeat (first | (with_reducible first | exact HIE.out | apply IsS70.alloc | apply IsS70.drewN | apply IsS70.drew | apply IsS70.set_0 | apply IsS70.far (hne := NBE_D.out) | apply IsS70.far (hne := NBE_C.out)) | exact HIE.out)); (case side2 => repeat (first | (with_reducible first | exact HB.out | apply below_alloc | apply pw_below_drewN | apply below_drew1 | refine below_set ?_ (IsS70.ge HIE.out) | refine below_set ?_ GED.out | refine below_set ?_ GEC.out) | exact HB.out)); rintro e w31 ⟨rfl, hi, hb, hk⟩; refine ⟨_, rfl, ?_⟩; replace BKD := Aside0.mk (KeepBut.blk hk (g' := gbD) (o := .cells #[.int .i64 0, .int .i64 0] 27 (0, 0)) zz248 NBD_E.out (by simp)); replace BKC := Aside0.mk (KeepBut.blk hk (g' := gbC) (o := .cells #[.int .i64 tG, .int .i64 tK] 27 (0, 0)) zz249 NBC_E.out (by simp)); replace HIE := Aside0.mk (hi); replace HB := Aside0.mk (hb); (try clear hb); (try clear hk); (try clear hi); refine hK.out _ _ ⟨bcA BKC 0, bcA BKC 1⟩ (fun hHeld => ?_); clear hK K; refine normA (some 31) ?_; exact norm_ zz83 (hJ2_3_4_5 () _ ⟨hHeld, zz248, zz249, zz66, zz64⟩)
         ·skip
          refine boxS 9 #[.int .i64 0, .int .i64 0] 27 ?_; intro gbA hg w31 hbox hb; have n0_ := blkA BKD hb; have n1_ := blkA BKC hb; have n2_ := Aside0.mk (IsS70.below zz66 hb); have n3_ := Aside0.mk (below_step zz64 hb); have n4_ := Aside0.mk (hbox); have n5_ := gwA (below_size zz64) hg; have n6_ := gwA (below_size zz64) hg; have n7_ := nltA BKD hg; have n8_ := ngtA BKD hg; have n9_ := nltA BKC hg; have n10_ := ngtA BKC hg; have n11_ := Aside0.mk ((by rw [hg]; exact Nat.ne_of_lt (IsS70.lt (show IsS70 w _ gbE tAC from by repeat (first | (with_reducible first | exact HIE.out | apply IsS70.alloc | apply IsS70.drewN | apply IsS70.drew | apply IsS70.set_0 | apply IsS70.far (hne := NBE_D.out) | apply IsS70.far (hne := NBE_C.out)) | exact HIE.out))) : gbE ≠ gbA)); have n12_ := Aside0.mk ((by rw [hg]; exact Nat.ne_of_gt (IsS70.lt (show IsS70 w _ gbE tAC from by repeat (first | (with_reducible first | exact HIE.out | apply IsS70.alloc | apply IsS70.drewN | apply IsS70.drew | apply IsS70.set_0 | apply IsS70.far (hne := NBE_D.out) | apply IsS70.far (hne := NBE_C.out)) | exact HIE.out))) : gbA ≠ gbE)); clear BKD; clear BKC; clear HIE; clear HB; have BKD := n0_; have BKC := n1_; have HIE := n2_; have HB := n3_; have BKA := n4_; have GWA := n5_; have GEA := n6_; have NBD_A := n7_; have NBA_D := n8_; have NBC_A := n9_; have NBA_C := n10_; have NBE_A := n11_; have NBA_E := n12_; clear n0_ n1_ n2_ n3_ n4_ n5_ n6_ n7_ n8_ n9_ n10_ n11_ n12_; clear hb hbox hg; refine hK.out _ _ ⟨bcA BKC 0, bcA BKC 1⟩ (fun hHeld => ?_); clear hK K; refine normA (some 9) ?_; exact norm_ zz83 (hJ2_3_4_6 (gbA) _ ⟨hHeld, zz248, zz249, zz250, GWA.out, GEA.out, NBE_A.out, NBA_E.out, NBD_A.out, NBA_D.out, NBC_A.out, NBA_C.out, zz51, zz52⟩)
       ·skip
        rintro gbA w31 ⟨hS_, h0_, h1_, h2_, h3_, h4_, h5_, h6_, h7_, h8_, h9_, h10_, h11_, h12_⟩; replace BKD : Aside0 (w31.heap[gbD]? = some (.cells #[.int .i64 0, .int .i64 0] 27 (0, 0))) := ⟨h0_⟩; replace BKC : Aside0 (w31.heap[gbC]? = some (.cells #[.int .i64 tG, .int .i64 tK] 27 (0, 0))) := ⟨h1_⟩; have BKA : Aside0 (w31.heap[gbA]? = some (.cells #[.int .i64 0, .int .i64 0] 27 (0, 0))) := ⟨h2_⟩; have GWA : Aside0 (w.heap.size ≤ gbA) := ⟨h3_⟩; have GEA : Aside0 (w.heap.size ≤ gbA) := ⟨h4_⟩; have NBE_A : Aside0 (gbE ≠ gbA) := ⟨h5_⟩; have NBA_E : Aside0 (gbA ≠ gbE) := ⟨h6_⟩; have NBD_A : Aside0 (gbD ≠ gbA) := ⟨h7_⟩; have NBA_D : Aside0 (gbA ≠ gbD) := ⟨h8_⟩; have NBC_A : Aside0 (gbC ≠ gbA) := ⟨h9_⟩; have NBA_C : Aside0 (gbA ≠ gbC) := ⟨h10_⟩; replace HIE : Aside0 (IsS70 w w31 gbE tAC) := ⟨h11_⟩; replace HB : Aside0 (Below w.heap.size w w31) := ⟨h12_⟩; clear h0_ h1_ h2_ h3_ h4_ h5_ h6_ h7_ h8_ h9_ h10_ h11_ h12_; have hHeld : w31.cell? ⟨gbC, 0, none⟩ = some (.int .i64 tG) ∧ w31.cell? ⟨gbC, 1, none⟩ = some (.int .i64 tK) := hS_; refine norm_ (a' := ?_) ?_ ?_; rotate_left
        ·simp only [putAll, Act.put, List.setIfInBounds_toArray, List.set_cons_zero, List.set_cons_succ]; rfl
        refine one_ (i := 5) (N := some 31) (bB 8 127) rfl rfl (one_of HT_.out (by kernel_rfl)) (by decide) (fun K hK => ?_); refine goes_ Try.func49 (by kernel_rfl) rfl #[.pointer (some ⟨gbE, 0, none⟩), .agg #[.int .i64 tG, .int .i64 tK], .agg #[.int .i64 tV, .int .i64 tAB]] (by rfl) rfl rfl zz196 ?_; with_reducible refine (impl_calc_div.calls kj3 gbE tAC tG tK tV tAB tW tAE true w _ ?side1 ?side2 A23.out).mono ?_
        (case side1 => repeat (first | (with_reducible first | exact HIE.out | apply IsS70.alloc | apply IsS70.drewN | apply IsS70.drew | apply IsS70.set_0 | apply IsS70.far (hne := NBE_D.out) | apply IsS70.far (hne := NBE_C.out) | apply IsS70.far (hne := NBE_A.out)) | exact HIE.out)); (case side2 => repeat (first | (with_reducible first | exact HB.out | apply below_alloc | apply pw_below_drewN | apply below_drew1 | refine below_set ?_ (IsS70.ge HIE.out) | refine below_set ?_ GED.out | refine below_set ?_ GEC.out | refine below_set ?_ GEA.out) | exact HB.out)); rintro e w32 ⟨rfl, hi, hb, hk⟩; refine ⟨_, rfl, ?_⟩; replace BKD := Aside0.mk (KeepBut.blk hk (g' := gbD) (o := .cells #[.int .i64 0, .int .i64 0] 27 (0, 0)) zz248 NBD_E.out (by simp)); replace BKC := Aside0.mk (KeepBut.blk hk (g' := gbC) (o := .cells #[.int .i64 tG, .int .i64 tK] 27 (0, 0)) zz249 NBC_E.out (by simp)); replace BKA := Aside0.mk (KeepBut.blk hk (g' := gbA) (o := .cells #[.int .i64 0, .int .i64 0] 27 (0, 0)) zz250 NBA_E.out (by simp)); replace HIE := Aside0.mk (hi); replace HB := Aside0.mk (hb); (try clear hb); (try clear hk); (try clear hi); refine hK.out _ _ ⟨bcA BKC 0, bcA BKC 1⟩ (fun hHeld => ?_); clear hK K; refine normA (some 31) ?_; exact norm_ zz83 (hJ2_3_4_5_6 (gbA) _ ⟨hHeld, zz248, zz249, zz250, GWA.out, GEA.out, NBE_A.out, NBA_E.out, NBD_A.out, NBA_D.out, NBC_A.out, NBA_C.out, zz51, zz52⟩)
      ·skip
       rintro _ w31 ⟨hS_, h0_, h1_, h2_, h3_⟩; replace BKD : Aside0 (w31.heap[gbD]? = some (.cells #[.int .i64 0, .int .i64 0] 27 (0, 0))) := ⟨h0_⟩; replace BKC : Aside0 (w31.heap[gbC]? = some (.cells #[.int .i64 tG, .int .i64 tK] 27 (0, 0))) := ⟨h1_⟩; replace HIE : Aside0 (IsS70 w w31 gbE true) := ⟨h2_⟩; replace HB : Aside0 (Below w.heap.size w w31) := ⟨h3_⟩; clear h0_ h1_ h2_ h3_; have hHeld : w31.cell? ⟨gbC, 0, none⟩ = some (.int .i64 tG) ∧ w31.cell? ⟨gbC, 1, none⟩ = some (.int .i64 tK) := hS_; refine norm_ (a' := ?_) ?_ ?_; rotate_left
       ·simp only [putAll, Act.put, List.setIfInBounds_toArray, List.set_cons_zero, List.set_cons_succ]; rfl
       refine one_ (i := 6) (N := some 9) (bB 8 127) rfl rfl (one_of HT_.out (by kernel_rfl)) (by decide) (fun K hK => ?_); refine boxS 9 #[.int .i64 0, .int .i64 0] 27 ?_; intro gbA hg w32 hbox hb; have n0_ := blkA BKD hb; have n1_ := blkA BKC hb; have n2_ := Aside0.mk (IsS70.below zz66 hb); have n3_ := Aside0.mk (below_step zz64 hb); have n4_ := Aside0.mk (hbox); have n5_ := gwA (below_size zz64) hg; have n6_ := gwA (below_size zz64) hg; have n7_ := nltA BKD hg; have n8_ := ngtA BKD hg; have n9_ := nltA BKC hg; have n10_ := ngtA BKC hg; have n11_ := Aside0.mk ((by rw [hg]; exact Nat.ne_of_lt (IsS70.lt (show IsS70 w _ gbE true from by repeat (first | (with_reducible first | exact HIE.out | apply IsS70.alloc | apply IsS70.drewN | apply IsS70.drew | apply IsS70.set_0 | apply IsS70.far (hne := NBE_D.out) | apply IsS70.far (hne := NBE_C.out)) | exact HIE.out))) : gbE ≠ gbA)); have n12_ := Aside0.mk ((by rw [hg]; exact Nat.ne_of_gt (IsS70.lt (show IsS70 w _ gbE true from by repeat (first | (with_reducible first | exact HIE.out | apply IsS70.alloc | apply IsS70.drewN | apply IsS70.drew | apply IsS70.set_0 | apply IsS70.far (hne := NBE_D.out) | apply IsS70.far (hne := NBE_C.out)) | exact HIE.out))) : gbA ≠ gbE)); clear BKD; clear BKC; clear HIE; clear HB; have BKD := n0_; have BKC := n1_; have HIE := n2_; have HB := n3_; have BKA := n4_; have GWA := n5_; have GEA := n6_; have NBD_A := n7_; have NBA_D := n8_; have NBC_A := n9_; have NBA_C := n10_; have NBE_A := n11_; have NBA_E := n12_; clear n0_ n1_ n2_ n3_ n4_ n5_ n6_ n7_ n8_ n9_ n10_ n11_ n12_; clear hb hbox hg; refine hK.out _ _ ⟨bcA BKC 0, bcA BKC 1⟩ (fun hHeld => ?_); clear hK K; refine normA (some 9) ?_; exact norm_ zz83 (hJ2_3_4_5_6 (gbA) _ ⟨hHeld, zz248, zz249, zz250, GWA.out, GEA.out, NBE_A.out, NBA_E.out, NBD_A.out, NBA_D.out, NBC_A.out, NBA_C.out, zz51, zz52⟩)
     rintro gbA w32 ⟨hS_, h0_, h1_, h2_, h3_, h4_, h5_, h6_, h7_, h8_, h9_, h10_, h11_, h12_⟩; replace BKD : Aside0 (w32.heap[gbD]? = some (.cells #[.int .i64 0, .int .i64 0] 27 (0, 0))) := ⟨h0_⟩; replace BKC : Aside0 (w32.heap[gbC]? = some (.cells #[.int .i64 tG, .int .i64 tK] 27 (0, 0))) := ⟨h1_⟩; have BKA : Aside0 (w32.heap[gbA]? = some (.cells #[.int .i64 0, .int .i64 0] 27 (0, 0))) := ⟨h2_⟩; have GWA : Aside0 (w.heap.size ≤ gbA) := ⟨h3_⟩; have GEA : Aside0 (w.heap.size ≤ gbA) := ⟨h4_⟩; have NBE_A : Aside0 (gbE ≠ gbA) := ⟨h5_⟩; have NBA_E : Aside0 (gbA ≠ gbE) := ⟨h6_⟩; have NBD_A : Aside0 (gbD ≠ gbA) := ⟨h7_⟩; have NBA_D : Aside0 (gbA ≠ gbD) := ⟨h8_⟩; have NBC_A : Aside0 (gbC ≠ gbA) := ⟨h9_⟩; have NBA_C : Aside0 (gbA ≠ gbC) := ⟨h10_⟩; replace HIE : Aside0 (IsS70 w w32 gbE true) := ⟨h11_⟩; replace HB : Aside0 (Below w.heap.size w w32) := ⟨h12_⟩; clear h0_ h1_ h2_ h3_ h4_ h5_ h6_ h7_ h8_ h9_ h10_ h11_ h12_; have hHeld : w32.cell? ⟨gbC, 0, none⟩ = some (.int .i64 tG) ∧ w32.cell? ⟨gbC, 1, none⟩ = some (.int .i64 tK) := hS_; refine norm_ (a' := ?_) ?_ ?_; rotate_left
     ·simp only [putAll, Act.put, List.setIfInBounds_toArray, List.set_cons_zero, List.set_cons_succ]; rfl
     refine one_ (i := 7) (N := none) (bB 8 255) rfl rfl (one_of HT_.out (by kernel_rfl)) (by decide) (fun K hK => ?_); have hs33 : w32.cell? ⟨gbA, 0, none⟩ = some (.int .i64 0) := bcA BKA 0; have hfs33 := blk_frozen BKA.out 0; have hns33_0 := NBD_A.out; have hns33_1 := NBC_A.out; have hms33_0 := NBA_D.out; have hms33_1 := NBA_C.out; have hs34 : w32.cell? ⟨gbA, 1, none⟩ = some (.int .i64 0) := bcA BKA 1; have hfs34 := blk_frozen BKA.out 1; have hns34_0 := NBD_A.out; have hns34_1 := NBC_A.out; have hms34_0 := NBA_D.out; have hms34_1 := NBA_C.out; refine skip_ (w1 := ?_) (by rfl) rfl ?_ ?_; rotate_left
     ·go_simp
      rfl
     refine hK.out _ _ ⟨((cell_far (p := ⟨gbA, _, none⟩) NBC_A.out _).trans (((cell_far (p := ⟨gbA, _, none⟩) NBC_A.out _).trans (hHeld.1)))), ((cell_far (p := ⟨gbA, _, none⟩) NBC_A.out _).trans (((cell_far (p := ⟨gbA, _, none⟩) NBC_A.out _).trans (hHeld.2))))⟩ (fun hHeld => ?_); clear hK K; refine done_ (done_of HT_.out (by kernel_rfl)) ?_; have hnb35 := NBE_A.out; have hnc35 := NBA_E.out; obtain ⟨HGz36, hgz36⟩ := HIE.out; have hcz36_0 := cellS70_0 HGz36; have hfz36_0 := blk_frozen HGz36 0; clear HGz36 hgz36; have hnb37 := NBD_C.out; have hnc37 := NBC_D.out; have hnb38 := NBD_A.out; have hnc38 := NBA_D.out; have hnb39 := NBD_E.out; have hnc39 := NBE_D.out; obtain ⟨hcz40_0, hcz40_1, hfz40_0, hfz40_1⟩ := cz2 BKD.out; try go_wp2
     refine bodyPost_ret (results_ct rfl _ _ gbD 27 #[.int .i64 0, .int .i64 0] (0, 0) _ rfl (by (with_reducible repeat (first | refine blk_drewN ?_ _ | refine blk_drew ?_ | refine blk_alloc ?_ _)); refine blk_put (cs := #[.int .i64 0, .int .i64 0]) ?_ 1 _ rfl; (with_reducible repeat (first | refine blk_drewN ?_ _ | refine blk_drew ?_ | refine blk_alloc ?_ _)); refine blk_put (cs := #[.int .i64 0, .int .i64 0]) ?_ 0 _ rfl; (with_reducible repeat (first | refine blk_drewN ?_ _ | refine blk_drew ?_ | refine blk_alloc ?_ _)); refine blk_far ?_ NBD_A.out _; (with_reducible repeat (first | refine blk_drewN ?_ _ | refine blk_drew ?_ | refine blk_alloc ?_ _)); refine blk_far ?_ NBD_A.out _; (with_reducible repeat (first | refine blk_drewN ?_ _ | refine blk_drew ?_ | refine blk_alloc ?_ _)); exact BKD.out) Try.underlying27 rfl (by kernel_rfl)) rfl ?_; exact ⟨zz272, zz52⟩
    ·replace c24 := Bool.eq_false_iff.mpr c24; subst c24; have H1 : (some (tW, tAE, true)) = some (r1, r2, r3) := by rw [if_neg (show ¬ (false = true) by decide)] at H; exact H
     clear H; have H := H1; clear H1; simp only [Option.some.injEq, Prod.mk.injEq] at H; obtain ⟨rfl, rfl, rfl⟩ := H; try go_wp2_with (first | ((with_reducible refine gate_dst (N := 8) rfl ?_); refine boxE 8 #[.bool false] 70 ?_; intro gbE hg w41 hbox hb; have NBD_E := nltA BKD hg; have NBE_D := ngtA BKD hg; have NBC_E := nltA BKC hg; have NBE_C := ngtA BKC hg; have HIE := Aside0.mk ((show IsS70 w w41 gbE false from ⟨hbox, zz67⟩)); replace BKD := blkA BKD hb; replace BKC := blkA BKC hb; replace HB := Aside0.mk (below_step zz125 hb); clear hb hbox hg))
     replace BKD := Aside0.mk (blk_drew BKD.out); replace BKC := Aside0.mk (blk_drew BKC.out); replace HIE := Aside0.mk (IsS70.drew HIE.out); replace HB := Aside0.mk (below_drew1 HB.out); refine start_ (n := 8) (S := fun w' => w'.cell? ⟨gbC, 0, none⟩ = some (.int .i64 tG) ∧ w'.cell? ⟨gbC, 1, none⟩ = some (.int .i64 tK)) (ds := []) (.replicate 8 fF) (by kernel_rfl) rfl rfl ⟨bcA BKC 0, bcA BKC 1⟩ (fun hHeld => ?_); refine with_tabW impl_ShadowBound.tab5 impl_ShadowBound.bits5 (fun HT_ HW_ => ?_); generalize w41.drew = w42 at BKD BKC HIE HB hHeld ⊢; refine pureA 1 (some 27) (bB 8 2) HT_ ?_; refine takeA5 0 (some 26) (bB 8 3) HT_ HW_ hHeld ?_; refine join_ (σ := Nat) 1 (bB 8 127) (fun s_ => [(28, .agg #[.int .i64 tS, .int .i64 tX]), (29, .agg #[.int .i64 tU, .int .i64 tZ]), (30, .agg #[.int .i64 tV, .int .i64 tAB]), (31, .agg #[.int .i64 tW, .int .i64 tAE]), (9, .pointer (some ⟨s_, 0, none⟩))]) (fun s_ w' => (w'.cell? ⟨gbC, 0, none⟩ = some (.int .i64 tG) ∧ w'.cell? ⟨gbC, 1, none⟩ = some (.int .i64 tK)) ∧ (w'.heap[gbD]? = some (.cells #[.int .i64 0, .int .i64 0] 27 (0, 0))) ∧ (w'.heap[gbC]? = some (.cells #[.int .i64 tG, .int .i64 tK] 27 (0, 0))) ∧ (w'.heap[s_]? = some (.cells #[.int .i64 0, .int .i64 0] 27 (0, 0))) ∧ (w.heap.size ≤ s_) ∧ (w.heap.size ≤ s_) ∧ (gbE ≠ s_) ∧ (s_ ≠ gbE) ∧ (gbD ≠ s_) ∧ (s_ ≠ gbD) ∧ (gbC ≠ s_) ∧ (s_ ≠ gbC) ∧ (IsS70 w w' gbE false) ∧ (Below w.heap.size w w')) ?_ ?_; rotate_left
     ·intro hJ2_3_4_5_6; refine join_ (σ := Unit) 2 (bB 8 63) (fun s_ => [(28, .agg #[.int .i64 tS, .int .i64 tX]), (29, .agg #[.int .i64 tU, .int .i64 tZ]), (30, .agg #[.int .i64 tV, .int .i64 tAB]), (31, .agg #[.int .i64 tW, .int .i64 tAE])]) (fun s_ w' => (w'.cell? ⟨gbC, 0, none⟩ = some (.int .i64 tG) ∧ w'.cell? ⟨gbC, 1, none⟩ = some (.int .i64 tK)) ∧ (w'.heap[gbD]? = some (.cells #[.int .i64 0, .int .i64 0] 27 (0, 0))) ∧ (w'.heap[gbC]? = some (.cells #[.int .i64 tG, .int .i64 tK] 27 (0, 0))) ∧ (IsS70 w w' gbE false) ∧ (Below w.heap.size w w')) ?_ ?_; rotate_left
      ·intro hJ2_3_4_5; refine join_ (σ := Nat) 2 (bB 8 95) (fun s_ => [(28, .agg #[.int .i64 tS, .int .i64 tX]), (29, .agg #[.int .i64 tU, .int .i64 tZ]), (30, .agg #[.int .i64 tV, .int .i64 tAB]), (9, .pointer (some ⟨s_, 0, none⟩))]) (fun s_ w' => (w'.cell? ⟨gbC, 0, none⟩ = some (.int .i64 tG) ∧ w'.cell? ⟨gbC, 1, none⟩ = some (.int .i64 tK)) ∧ (w'.heap[gbD]? = some (.cells #[.int .i64 0, .int .i64 0] 27 (0, 0))) ∧ (w'.heap[gbC]? = some (.cells #[.int .i64 tG, .int .i64 tK] 27 (0, 0))) ∧ (w'.heap[s_]? = some (.cells #[.int .i64 0, .int .i64 0] 27 (0, 0))) ∧ (w.heap.size ≤ s_) ∧ (w.heap.size ≤ s_) ∧ (gbE ≠ s_) ∧ (s_ ≠ gbE) ∧ (gbD ≠ s_) ∧ (s_ ≠ gbD) ∧ (gbC ≠ s_) ∧ (s_ ≠ gbC) ∧ (IsS70 w w' gbE tAC) ∧ (Below w.heap.size w w')) ?_ ?_; rotate_left
       ·intro hJ2_3_4_6; refine join_ (σ := Unit) 3 (bB 8 31) (fun s_ => [(28, .agg #[.int .i64 tS, .int .i64 tX]), (29, .agg #[.int .i64 tU, .int .i64 tZ]), (30, .agg #[.int .i64 tV, .int .i64 tAB])]) (fun s_ w' => (w'.cell? ⟨gbC, 0, none⟩ = some (.int .i64 tG) ∧ w'.cell? ⟨gbC, 1, none⟩ = some (.int .i64 tK)) ∧ (w'.heap[gbD]? = some (.cells #[.int .i64 0, .int .i64 0] 27 (0, 0))) ∧ (w'.heap[gbC]? = some (.cells #[.int .i64 tG, .int .i64 tK] 27 (0, 0))) ∧ (IsS70 w w' gbE tAC) ∧ (Below w.heap.size w w')) ?_ ?_; rotate_left
        ·intro hJ2_3_4; refine join_ (σ := Nat) 3 (bB 8 79) (fun s_ => [(28, .agg #[.int .i64 tS, .int .i64 tX]), (29, .agg #[.int .i64 tU, .int .i64 tZ]), (9, .pointer (some ⟨s_, 0, none⟩))]) (fun s_ w' => (w'.cell? ⟨gbC, 0, none⟩ = some (.int .i64 tG) ∧ w'.cell? ⟨gbC, 1, none⟩ = some (.int .i64 tK)) ∧ (w'.heap[gbD]? = some (.cells #[.int .i64 0, .int .i64 0] 27 (0, 0))) ∧ (w'.heap[gbC]? = some (.cells #[.int .i64 tG, .int .i64 tK] 27 (0, 0))) ∧ (w'.heap[s_]? = some (.cells #[.int .i64 0, .int .i64 0] 27 (0, 0))) ∧ (w.heap.size ≤ s_) ∧ (w.heap.size ≤ s_) ∧ (gbE ≠ s_) ∧ (s_ ≠ gbE) ∧ (gbD ≠ s_) ∧ (s_ ≠ gbD) ∧ (gbC ≠ s_) ∧ (s_ ≠ gbC) ∧ (IsS70 w w' gbE false) ∧ (Below w.heap.size w w')) ?_ ?_; rotate_left
         ·intro hJ2_3_6; refine join_ (σ := Unit) 4 (bB 8 15) (fun s_ => [(28, .agg #[.int .i64 tS, .int .i64 tX]), (29, .agg #[.int .i64 tU, .int .i64 tZ])]) (fun s_ w' => (w'.cell? ⟨gbC, 0, none⟩ = some (.int .i64 tG) ∧ w'.cell? ⟨gbC, 1, none⟩ = some (.int .i64 tK)) ∧ (w'.heap[gbD]? = some (.cells #[.int .i64 0, .int .i64 0] 27 (0, 0))) ∧ (w'.heap[gbC]? = some (.cells #[.int .i64 tG, .int .i64 tK] 27 (0, 0))) ∧ (IsS70 w w' gbE false) ∧ (Below w.heap.size w w')) ?_ ?_; rotate_left
          ·intro hJ2_3; refine join_ (σ := Nat) 4 (bB 8 71) (fun s_ => [(28, .agg #[.int .i64 tS, .int .i64 tX]), (9, .pointer (some ⟨s_, 0, none⟩))]) (fun s_ w' => (w'.cell? ⟨gbC, 0, none⟩ = some (.int .i64 tG) ∧ w'.cell? ⟨gbC, 1, none⟩ = some (.int .i64 tK)) ∧ (w'.heap[gbD]? = some (.cells #[.int .i64 0, .int .i64 0] 27 (0, 0))) ∧ (w'.heap[gbC]? = some (.cells #[.int .i64 tG, .int .i64 tK] 27 (0, 0))) ∧ (w'.heap[s_]? = some (.cells #[.int .i64 0, .int .i64 0] 27 (0, 0))) ∧ (w.heap.size ≤ s_) ∧ (w.heap.size ≤ s_) ∧ (gbE ≠ s_) ∧ (s_ ≠ gbE) ∧ (gbD ≠ s_) ∧ (s_ ≠ gbD) ∧ (gbC ≠ s_) ∧ (s_ ≠ gbC) ∧ (IsS70 w w' gbE false) ∧ (Below w.heap.size w w')) ?_ ?_; rotate_left
           ·intro hJ2_6; refine join_ (σ := Unit) 5 (bB 8 7) (fun s_ => [(28, .agg #[.int .i64 tS, .int .i64 tX])]) (fun s_ w' => (w'.cell? ⟨gbC, 0, none⟩ = some (.int .i64 tG) ∧ w'.cell? ⟨gbC, 1, none⟩ = some (.int .i64 tK)) ∧ (w'.heap[gbD]? = some (.cells #[.int .i64 0, .int .i64 0] 27 (0, 0))) ∧ (w'.heap[gbC]? = some (.cells #[.int .i64 tG, .int .i64 tK] 27 (0, 0))) ∧ (IsS70 w w' gbE false) ∧ (Below w.heap.size w w')) ?_ ?_; rotate_left
            ·intro hJ2; refine join_ (σ := Nat) 5 (bB 8 67) (fun s_ => [(9, .pointer (some ⟨s_, 0, none⟩))]) (fun s_ w' => (w'.cell? ⟨gbC, 0, none⟩ = some (.int .i64 tG) ∧ w'.cell? ⟨gbC, 1, none⟩ = some (.int .i64 tK)) ∧ (w'.heap[gbD]? = some (.cells #[.int .i64 0, .int .i64 0] 27 (0, 0))) ∧ (w'.heap[gbC]? = some (.cells #[.int .i64 tG, .int .i64 tK] 27 (0, 0))) ∧ (w'.heap[s_]? = some (.cells #[.int .i64 0, .int .i64 0] 27 (0, 0))) ∧ (w.heap.size ≤ s_) ∧ (w.heap.size ≤ s_) ∧ (gbE ≠ s_) ∧ (s_ ≠ gbE) ∧ (gbD ≠ s_) ∧ (s_ ≠ gbD) ∧ (gbC ≠ s_) ∧ (s_ ≠ gbC) ∧ (IsS70 w w' gbE false) ∧ (Below w.heap.size w w')) ?_ ?_; rotate_left
             ·intro hJ6; refine two_ (i := 2) (j := 6) (Ni := some 28) (Nj := some 9) (bB 8 7) (bB 8 67) rfl rfl rfl rfl (two_of HT_.out (by kernel_rfl)) (by decide) (by decide) (fun K hK => ?_) (fun K hK => ?_)
              ·skip
               refine goes_ Try.func48 (by kernel_rfl) rfl #[.slice A0 l0.length c0] (by rfl) rfl rfl zz196 ?_; with_reducible refine (impl_expansion.calls kj3 _ _ l0 tS tX _ ?side1 ?side2 A20.out).mono ?_
               (case side1 => repeat (first | exact (Kd.C_below HR0.out HB.out) | (with_reducible refine Kd.C_alloc ?_ _) | (with_reducible refine Kd.C_drewN ?_ _) | (with_reducible refine Kd.C_drew ?_))); (case side2 => exact HC0.out); rintro e w43 ⟨rfl, hb⟩; refine ⟨_, rfl, ?_⟩; replace HIE := Aside0.mk (IsS70.below zz66 hb); replace BKD := blkA BKD hb; replace BKC := blkA BKC hb; replace HB := Aside0.mk (below_step zz64 hb); (try clear hb); refine hK.out _ _ ⟨bcA BKC 0, bcA BKC 1⟩ (fun hHeld => ?_); clear hK K; refine normA (some 28) ?_; exact norm_ zz83 (hJ2 () _ ⟨hHeld, zz248, zz249, zz66, zz64⟩)
              ·skip
               refine boxS 9 #[.int .i64 0, .int .i64 0] 27 ?_; intro gbA hg w43 hbox hb; have n0_ := blkA BKD hb; have n1_ := blkA BKC hb; have n2_ := Aside0.mk (IsS70.below zz66 hb); have n3_ := Aside0.mk (below_step zz64 hb); have n4_ := Aside0.mk (hbox); have n5_ := gwA (below_size zz64) hg; have n6_ := gwA (below_size zz64) hg; have n7_ := nltA BKD hg; have n8_ := ngtA BKD hg; have n9_ := nltA BKC hg; have n10_ := ngtA BKC hg; have n11_ := Aside0.mk ((by rw [hg]; exact Nat.ne_of_lt (IsS70.lt (show IsS70 w _ gbE false from by repeat (first | (with_reducible first | exact HIE.out | apply IsS70.alloc | apply IsS70.drewN | apply IsS70.drew | apply IsS70.set_0 | apply IsS70.far (hne := NBE_D.out) | apply IsS70.far (hne := NBE_C.out)) | exact HIE.out))) : gbE ≠ gbA)); have n12_ := Aside0.mk ((by rw [hg]; exact Nat.ne_of_gt (IsS70.lt (show IsS70 w _ gbE false from by repeat (first | (with_reducible first | exact HIE.out | apply IsS70.alloc | apply IsS70.drewN | apply IsS70.drew | apply IsS70.set_0 | apply IsS70.far (hne := NBE_D.out) | apply IsS70.far (hne := NBE_C.out)) | exact HIE.out))) : gbA ≠ gbE)); clear BKD; clear BKC; clear HIE; clear HB; have BKD := n0_; have BKC := n1_; have HIE := n2_; have HB := n3_; have BKA := n4_; have GWA := n5_; have GEA := n6_; have NBD_A := n7_; have NBA_D := n8_; have NBC_A := n9_; have NBA_C := n10_; have NBE_A := n11_; have NBA_E := n12_; clear n0_ n1_ n2_ n3_ n4_ n5_ n6_ n7_ n8_ n9_ n10_ n11_ n12_; clear hb hbox hg; refine hK.out _ _ ⟨bcA BKC 0, bcA BKC 1⟩ (fun hHeld => ?_); clear hK K; refine normA (some 9) ?_; exact norm_ zz83 (hJ6 (gbA) _ ⟨hHeld, zz248, zz249, zz250, GWA.out, GEA.out, NBE_A.out, NBA_E.out, NBD_A.out, NBA_D.out, NBC_A.out, NBA_C.out, zz51, zz52⟩)
             ·skip
              rintro gbA w44 ⟨hS_, h0_, h1_, h2_, h3_, h4_, h5_, h6_, h7_, h8_, h9_, h10_, h11_, h12_⟩; replace BKD : Aside0 (w44.heap[gbD]? = some (.cells #[.int .i64 0, .int .i64 0] 27 (0, 0))) := ⟨h0_⟩; replace BKC : Aside0 (w44.heap[gbC]? = some (.cells #[.int .i64 tG, .int .i64 tK] 27 (0, 0))) := ⟨h1_⟩; have BKA : Aside0 (w44.heap[gbA]? = some (.cells #[.int .i64 0, .int .i64 0] 27 (0, 0))) := ⟨h2_⟩; have GWA : Aside0 (w.heap.size ≤ gbA) := ⟨h3_⟩; have GEA : Aside0 (w.heap.size ≤ gbA) := ⟨h4_⟩; have NBE_A : Aside0 (gbE ≠ gbA) := ⟨h5_⟩; have NBA_E : Aside0 (gbA ≠ gbE) := ⟨h6_⟩; have NBD_A : Aside0 (gbD ≠ gbA) := ⟨h7_⟩; have NBA_D : Aside0 (gbA ≠ gbD) := ⟨h8_⟩; have NBC_A : Aside0 (gbC ≠ gbA) := ⟨h9_⟩; have NBA_C : Aside0 (gbA ≠ gbC) := ⟨h10_⟩; replace HIE : Aside0 (IsS70 w w44 gbE false) := ⟨h11_⟩; replace HB : Aside0 (Below w.heap.size w w44) := ⟨h12_⟩; clear h0_ h1_ h2_ h3_ h4_ h5_ h6_ h7_ h8_ h9_ h10_ h11_ h12_; have hHeld : w44.cell? ⟨gbC, 0, none⟩ = some (.int .i64 tG) ∧ w44.cell? ⟨gbC, 1, none⟩ = some (.int .i64 tK) := hS_; refine norm_ (a' := ?_) ?_ ?_; rotate_left
              ·simp only [putAll, Act.put, List.setIfInBounds_toArray, List.set_cons_zero, List.set_cons_succ]; rfl
              refine one_ (i := 2) (N := some 28) (bB 8 71) rfl rfl (one_of HT_.out (by kernel_rfl)) (by decide) (fun K hK => ?_); refine goes_ Try.func48 (by kernel_rfl) rfl #[.slice A0 l0.length c0] (by rfl) rfl rfl zz196 ?_; with_reducible refine (impl_expansion.calls kj3 _ _ l0 tS tX _ ?side1 ?side2 A20.out).mono ?_
              (case side1 => repeat (first | exact (Kd.C_below HR0.out HB.out) | (with_reducible refine Kd.C_alloc ?_ _) | (with_reducible refine Kd.C_drewN ?_ _) | (with_reducible refine Kd.C_drew ?_))); (case side2 => exact HC0.out); rintro e w45 ⟨rfl, hb⟩; refine ⟨_, rfl, ?_⟩; replace HIE := Aside0.mk (IsS70.below zz51 hb); replace BKD := blkA BKD hb; replace BKC := blkA BKC hb; replace BKA := blkA BKA hb; replace HB := Aside0.mk (below_step zz52 hb); (try clear hb); refine hK.out _ _ ⟨bcA BKC 0, bcA BKC 1⟩ (fun hHeld => ?_); clear hK K; refine normA (some 28) ?_; exact norm_ zz83 (hJ2_6 (gbA) _ ⟨hHeld, zz248, zz249, zz250, GWA.out, GEA.out, NBE_A.out, NBA_E.out, NBD_A.out, NBA_D.out, NBC_A.out, NBA_C.out, zz51, zz52⟩)
            ·skip
             rintro _ w44 ⟨hS_, h0_, h1_, h2_, h3_⟩; replace BKD : Aside0 (w44.heap[gbD]? = some (.cells #[.int .i64 0, .int .i64 0] 27 (0, 0))) := ⟨h0_⟩; replace BKC : Aside0 (w44.heap[gbC]? = some (.cells #[.int .i64 tG, .int .i64 tK] 27 (0, 0))) := ⟨h1_⟩; replace HIE : Aside0 (IsS70 w w44 gbE false) := ⟨h2_⟩; replace HB : Aside0 (Below w.heap.size w w44) := ⟨h3_⟩; clear h0_ h1_ h2_ h3_; have hHeld : w44.cell? ⟨gbC, 0, none⟩ = some (.int .i64 tG) ∧ w44.cell? ⟨gbC, 1, none⟩ = some (.int .i64 tK) := hS_; refine norm_ (a' := ?_) ?_ ?_; rotate_left
             ·simp only [putAll, Act.put, List.setIfInBounds_toArray, List.set_cons_zero, List.set_cons_succ]; rfl
             refine two_ (i := 3) (j := 6) (Ni := some 29) (Nj := some 9) (bB 8 15) (bB 8 71) rfl rfl rfl rfl (two_of HT_.out (by kernel_rfl)) (by decide) (by decide) (fun K hK => ?_) (fun K hK => ?_)
             ·skip
              refine goes_ Try.func47 (by kernel_rfl) rfl #[] (by rfl) rfl rfl zz196 ?_; with_reducible refine (impl_oneRat.calls  tU tZ _ A21.out).mono ?_
              rintro e w45 ⟨rfl, hb⟩; refine ⟨_, rfl, ?_⟩; replace HIE := Aside0.mk (IsS70.below zz66 hb); replace BKD := blkA BKD hb; replace BKC := blkA BKC hb; replace HB := Aside0.mk (below_step zz64 hb); (try clear hb); refine hK.out _ _ ⟨bcA BKC 0, bcA BKC 1⟩ (fun hHeld => ?_); clear hK K; refine normA (some 29) ?_; exact norm_ zz83 (hJ2_3 () _ ⟨hHeld, zz248, zz249, zz66, zz64⟩)
             ·skip
              refine boxS 9 #[.int .i64 0, .int .i64 0] 27 ?_; intro gbA hg w45 hbox hb; have n0_ := blkA BKD hb; have n1_ := blkA BKC hb; have n2_ := Aside0.mk (IsS70.below zz66 hb); have n3_ := Aside0.mk (below_step zz64 hb); have n4_ := Aside0.mk (hbox); have n5_ := gwA (below_size zz64) hg; have n6_ := gwA (below_size zz64) hg; have n7_ := nltA BKD hg; have n8_ := ngtA BKD hg; have n9_ := nltA BKC hg; have n10_ := ngtA BKC hg; have n11_ := Aside0.mk ((by rw [hg]; exact Nat.ne_of_lt (IsS70.lt (show IsS70 w _ gbE false from by repeat (first | (with_reducible first | exact HIE.out | apply IsS70.alloc | apply IsS70.drewN | apply IsS70.drew | apply IsS70.set_0 | apply IsS70.far (hne := NBE_D.out) | apply IsS70.far (hne := NBE_C.out)) | exact HIE.out))) : gbE ≠ gbA)); have n12_ := Aside0.mk ((by rw [hg]; exact Nat.ne_of_gt (IsS70.lt (show IsS70 w _ gbE false from by repeat (first | (with_reducible first | exact HIE.out | apply IsS70.alloc | apply IsS70.drewN | apply IsS70.drew | apply IsS70.set_0 | apply IsS70.far (hne := NBE_D.out) | apply IsS70.far (hne := NBE_C.out)) | exact HIE.out))) : gbA ≠ gbE)); clear BKD; clear BKC; clear HIE; clear HB; have BKD := n0_; have BKC := n1_; have HIE := n2_; have HB := n3_; have BKA := n4_; have GWA := n5_; have GEA := n6_; have NBD_A := n7_; have NBA_D := n8_; have NBC_A := n9_; have NBA_C := n10_; have NBE_A := n11_; have NBA_E := n12_; clear n0_ n1_ n2_ n3_ n4_ n5_ n6_ n7_ n8_ n9_ n10_ n11_ n12_; clear hb hbox hg; refine hK.out _ _ ⟨bcA BKC 0, bcA BKC 1⟩ (fun hHeld => ?_); clear hK K; refine normA (some 9) ?_; exact norm_ zz83 (hJ2_6 (gbA) _ ⟨hHeld, zz248, zz249, zz250, GWA.out, GEA.out, NBE_A.out, NBA_E.out, NBD_A.out, NBA_D.out, NBC_A.out, NBA_C.out, zz51, zz52⟩)
           ·skip
            rintro gbA w45 ⟨hS_, h0_, h1_, h2_, h3_, h4_, h5_, h6_, h7_, h8_, h9_, h10_, h11_, h12_⟩; replace BKD : Aside0 (w45.heap[gbD]? = some (.cells #[.int .i64 0, .int .i64 0] 27 (0, 0))) := ⟨h0_⟩; replace BKC : Aside0 (w45.heap[gbC]? = some (.cells #[.int .i64 tG, .int .i64 tK] 27 (0, 0))) := ⟨h1_⟩; have BKA : Aside0 (w45.heap[gbA]? = some (.cells #[.int .i64 0, .int .i64 0] 27 (0, 0))) := ⟨h2_⟩; have GWA : Aside0 (w.heap.size ≤ gbA) := ⟨h3_⟩; have GEA : Aside0 (w.heap.size ≤ gbA) := ⟨h4_⟩; have NBE_A : Aside0 (gbE ≠ gbA) := ⟨h5_⟩; have NBA_E : Aside0 (gbA ≠ gbE) := ⟨h6_⟩; have NBD_A : Aside0 (gbD ≠ gbA) := ⟨h7_⟩; have NBA_D : Aside0 (gbA ≠ gbD) := ⟨h8_⟩; have NBC_A : Aside0 (gbC ≠ gbA) := ⟨h9_⟩; have NBA_C : Aside0 (gbA ≠ gbC) := ⟨h10_⟩; replace HIE : Aside0 (IsS70 w w45 gbE false) := ⟨h11_⟩; replace HB : Aside0 (Below w.heap.size w w45) := ⟨h12_⟩; clear h0_ h1_ h2_ h3_ h4_ h5_ h6_ h7_ h8_ h9_ h10_ h11_ h12_; have hHeld : w45.cell? ⟨gbC, 0, none⟩ = some (.int .i64 tG) ∧ w45.cell? ⟨gbC, 1, none⟩ = some (.int .i64 tK) := hS_; refine norm_ (a' := ?_) ?_ ?_; rotate_left
            ·simp only [putAll, Act.put, List.setIfInBounds_toArray, List.set_cons_zero, List.set_cons_succ]; rfl
            refine one_ (i := 3) (N := some 29) (bB 8 79) rfl rfl (one_of HT_.out (by kernel_rfl)) (by decide) (fun K hK => ?_); refine goes_ Try.func47 (by kernel_rfl) rfl #[] (by rfl) rfl rfl zz196 ?_; with_reducible refine (impl_oneRat.calls  tU tZ _ A21.out).mono ?_
            rintro e w46 ⟨rfl, hb⟩; refine ⟨_, rfl, ?_⟩; replace HIE := Aside0.mk (IsS70.below zz51 hb); replace BKD := blkA BKD hb; replace BKC := blkA BKC hb; replace BKA := blkA BKA hb; replace HB := Aside0.mk (below_step zz52 hb); (try clear hb); refine hK.out _ _ ⟨bcA BKC 0, bcA BKC 1⟩ (fun hHeld => ?_); clear hK K; refine normA (some 29) ?_; exact norm_ zz83 (hJ2_3_6 (gbA) _ ⟨hHeld, zz248, zz249, zz250, GWA.out, GEA.out, NBE_A.out, NBA_E.out, NBD_A.out, NBA_D.out, NBC_A.out, NBA_C.out, zz51, zz52⟩)
          ·skip
           rintro _ w45 ⟨hS_, h0_, h1_, h2_, h3_⟩; replace BKD : Aside0 (w45.heap[gbD]? = some (.cells #[.int .i64 0, .int .i64 0] 27 (0, 0))) := ⟨h0_⟩; replace BKC : Aside0 (w45.heap[gbC]? = some (.cells #[.int .i64 tG, .int .i64 tK] 27 (0, 0))) := ⟨h1_⟩; replace HIE : Aside0 (IsS70 w w45 gbE false) := ⟨h2_⟩; replace HB : Aside0 (Below w.heap.size w w45) := ⟨h3_⟩; clear h0_ h1_ h2_ h3_; have hHeld : w45.cell? ⟨gbC, 0, none⟩ = some (.int .i64 tG) ∧ w45.cell? ⟨gbC, 1, none⟩ = some (.int .i64 tK) := hS_; refine norm_ (a' := ?_) ?_ ?_; rotate_left
           ·simp only [putAll, Act.put, List.setIfInBounds_toArray, List.set_cons_zero, List.set_cons_succ]; rfl
           refine two_ (i := 4) (j := 6) (Ni := some 30) (Nj := some 9) (bB 8 31) (bB 8 79) rfl rfl rfl rfl (two_of HT_.out (by kernel_rfl)) (by decide) (by decide) (fun K hK => ?_) (fun K hK => ?_)
           ·skip
            refine goes_ Try.func50 (by kernel_rfl) rfl #[.pointer (some ⟨gbE, 0, none⟩), .agg #[.int .i64 tS, .int .i64 tX], .agg #[.int .i64 tU, .int .i64 tZ]] (by rfl) rfl rfl zz196 ?_; with_reducible refine (impl_calc_sub.calls kj3 gbE false tS tX tU tZ tV tAB tAC w _ ?side1 ?side2 A22.out).mono ?_
            (case side1 => repeat (first | (with_reducible first | exact HIE.out | apply IsS70.alloc | apply IsS70.drewN | apply IsS70.drew | apply IsS70.set_0 | apply IsS70.far (hne := NBE_D.out) | apply IsS70.far (hne := NBE_C.out)) | exact HIE.out)); (case side2 => repeat (first | (with_reducible first | exact HB.out | apply below_alloc | apply pw_below_drewN | apply below_drew1 | refine below_set ?_ (IsS70.ge HIE.out) | refine below_set ?_ GED.out | refine below_set ?_ GEC.out) | exact HB.out)); rintro e w46 ⟨rfl, hi, hb, hk⟩; refine ⟨_, rfl, ?_⟩; replace BKD := Aside0.mk (KeepBut.blk hk (g' := gbD) (o := .cells #[.int .i64 0, .int .i64 0] 27 (0, 0)) zz248 NBD_E.out (by simp)); replace BKC := Aside0.mk (KeepBut.blk hk (g' := gbC) (o := .cells #[.int .i64 tG, .int .i64 tK] 27 (0, 0)) zz249 NBC_E.out (by simp)); replace HIE := Aside0.mk (hi); replace HB := Aside0.mk (hb); (try clear hb); (try clear hk); (try clear hi); refine hK.out _ _ ⟨bcA BKC 0, bcA BKC 1⟩ (fun hHeld => ?_); clear hK K; refine normA (some 30) ?_; exact norm_ zz83 (hJ2_3_4 () _ ⟨hHeld, zz248, zz249, zz66, zz64⟩)
           ·skip
            refine boxS 9 #[.int .i64 0, .int .i64 0] 27 ?_; intro gbA hg w46 hbox hb; have n0_ := blkA BKD hb; have n1_ := blkA BKC hb; have n2_ := Aside0.mk (IsS70.below zz66 hb); have n3_ := Aside0.mk (below_step zz64 hb); have n4_ := Aside0.mk (hbox); have n5_ := gwA (below_size zz64) hg; have n6_ := gwA (below_size zz64) hg; have n7_ := nltA BKD hg; have n8_ := ngtA BKD hg; have n9_ := nltA BKC hg; have n10_ := ngtA BKC hg; have n11_ := Aside0.mk ((by rw [hg]; exact Nat.ne_of_lt (IsS70.lt (show IsS70 w _ gbE false from by repeat (first | (with_reducible first | exact HIE.out | apply IsS70.alloc | apply IsS70.drewN | apply IsS70.drew | apply IsS70.set_0 | apply IsS70.far (hne := NBE_D.out) | apply IsS70.far (hne := NBE_C.out)) | exact HIE.out))) : gbE ≠ gbA)); have n12_ := Aside0.mk ((by rw [hg]; exact Nat.ne_of_gt (IsS70.lt (show IsS70 w _ gbE false from by repeat (first | (with_reducible first | exact HIE.out | apply IsS70.alloc | apply IsS70.drewN | apply IsS70.drew | apply IsS70.set_0 | apply IsS70.far (hne := NBE_D.out) | apply IsS70.far (hne := NBE_C.out)) | exact HIE.out))) : gbA ≠ gbE)); clear BKD; clear BKC; clear HIE; clear HB; have BKD := n0_; have BKC := n1_; have HIE := n2_; have HB := n3_; have BKA := n4_; have GWA := n5_; have GEA := n6_; have NBD_A := n7_; have NBA_D := n8_; have NBC_A := n9_; have NBA_C := n10_; have NBE_A := n11_; have NBA_E := n12_; clear n0_ n1_ n2_ n3_ n4_ n5_ n6_ n7_ n8_ n9_ n10_ n11_ n12_; clear hb hbox hg; refine hK.out _ _ ⟨bcA BKC 0, bcA BKC 1⟩ (fun hHeld => ?_); clear hK K; refine normA (some 9) ?_; exact norm_ zz83 (hJ2_3_6 (gbA) _ ⟨hHeld, zz248, zz249, zz250, GWA.out, GEA.out, NBE_A.out, NBA_E.out, NBD_A.out, NBA_D.out, NBC_A.out, NBA_C.out, zz51, zz52⟩)
         ·skip
          rintro gbA w46 ⟨hS_, h0_, h1_, h2_, h3_, h4_, h5_, h6_, h7_, h8_, h9_, h10_, h11_, h12_⟩; replace BKD : Aside0 (w46.heap[gbD]? = some (.cells #[.int .i64 0, .int .i64 0] 27 (0, 0))) := ⟨h0_⟩; replace BKC : Aside0 (w46.heap[gbC]? = some (.cells #[.int .i64 tG, .int .i64 tK] 27 (0, 0))) := ⟨h1_⟩; have BKA : Aside0 (w46.heap[gbA]? = some (.cells #[.int .i64 0, .int .i64 0] 27 (0, 0))) := ⟨h2_⟩; have GWA : Aside0 (w.heap.size ≤ gbA) := ⟨h3_⟩; have GEA : Aside0 (w.heap.size ≤ gbA) := ⟨h4_⟩; have NBE_A : Aside0 (gbE ≠ gbA) := ⟨h5_⟩; have NBA_E : Aside0 (gbA ≠ gbE) := ⟨h6_⟩; have NBD_A : Aside0 (gbD ≠ gbA) := ⟨h7_⟩; have NBA_D : Aside0 (gbA ≠ gbD) := ⟨h8_⟩; have NBC_A : Aside0 (gbC ≠ gbA) := ⟨h9_⟩; have NBA_C : Aside0 (gbA ≠ gbC) := ⟨h10_⟩; replace HIE : Aside0 (IsS70 w w46 gbE false) := ⟨h11_⟩; replace HB : Aside0 (Below w.heap.size w w46) := ⟨h12_⟩; clear h0_ h1_ h2_ h3_ h4_ h5_ h6_ h7_ h8_ h9_ h10_ h11_ h12_; have hHeld : w46.cell? ⟨gbC, 0, none⟩ = some (.int .i64 tG) ∧ w46.cell? ⟨gbC, 1, none⟩ = some (.int .i64 tK) := hS_; refine norm_ (a' := ?_) ?_ ?_; rotate_left
          ·simp only [putAll, Act.put, List.setIfInBounds_toArray, List.set_cons_zero, List.set_cons_succ]; rfl
          refine one_ (i := 4) (N := some 30) (bB 8 95) rfl rfl (one_of HT_.out (by kernel_rfl)) (by decide) (fun K hK => ?_); refine goes_ Try.func50 (by kernel_rfl) rfl #[.pointer (some ⟨gbE, 0, none⟩), .agg #[.int .i64 tS, .int .i64 tX], .agg #[.int .i64 tU, .int .i64 tZ]] (by rfl) rfl rfl zz196 ?_; with_reducible refine (impl_calc_sub.calls kj3 gbE false tS tX tU tZ tV tAB tAC w _ ?side1 ?side2 A22.out).mono ?_
          (case side1 => repeat (first | (with_reducible first | exact HIE.out | apply IsS70.alloc | apply IsS70.drewN | apply IsS70.drew | apply IsS70.set_0 | apply IsS70.far (hne := NBE_D.out) | apply IsS70.far (hne := NBE_C.out) | apply IsS70.far (hne := NBE_A.out)) | exact HIE.out)); (case side2 => repeat (first | (with_reducible first | exact HB.out | apply below_alloc | apply pw_below_drewN | apply below_drew1 | refine below_set ?_ (IsS70.ge HIE.out) | refine below_set ?_ GED.out | refine below_set ?_ GEC.out | refine below_set ?_ GEA.out) | exact HB.out)); rintro e w47 ⟨rfl, hi, hb, hk⟩; refine ⟨_, rfl, ?_⟩; replace BKD := Aside0.mk (KeepBut.blk hk (g' := gbD) (o := .cells #[.int .i64 0, .int .i64 0] 27 (0, 0)) zz248 NBD_E.out (by simp)); replace BKC := Aside0.mk (KeepBut.blk hk (g' := gbC) (o := .cells #[.int .i64 tG, .int .i64 tK] 27 (0, 0)) zz249 NBC_E.out (by simp)); replace BKA := Aside0.mk (KeepBut.blk hk (g' := gbA) (o := .cells #[.int .i64 0, .int .i64 0] 27 (0, 0)) zz250 NBA_E.out (by simp)); replace HIE := Aside0.mk (hi); replace HB := Aside0.mk (hb); (try clear hb); (try clear hk); (try clear hi); refine hK.out _ _ ⟨bcA BKC 0, bcA BKC 1⟩ (fun hHeld => ?_); clear hK K; refine normA (some 30) ?_; exact norm_ zz83 (hJ2_3_4_6 (gbA) _ ⟨hHeld, zz248, zz249, zz250, GWA.out, GEA.out, NBE_A.out, NBA_E.out, NBD_A.out, NBA_D.out, NBC_A.out, NBA_C.out, zz51, zz52⟩)
        ·skip
         rintro _ w46 ⟨hS_, h0_, h1_, h2_, h3_⟩; replace BKD : Aside0 (w46.heap[gbD]? = some (.cells #[.int .i64 0, .int .i64 0] 27 (0, 0))) := ⟨h0_⟩; replace BKC : Aside0 (w46.heap[gbC]? = some (.cells #[.int .i64 tG, .int .i64 tK] 27 (0, 0))) := ⟨h1_⟩; replace HIE : Aside0 (IsS70 w w46 gbE tAC) := ⟨h2_⟩; replace HB : Aside0 (Below w.heap.size w w46) := ⟨h3_⟩; clear h0_ h1_ h2_ h3_; have hHeld : w46.cell? ⟨gbC, 0, none⟩ = some (.int .i64 tG) ∧ w46.cell? ⟨gbC, 1, none⟩ = some (.int .i64 tK) := hS_; refine norm_ (a' := ?_) ?_ ?_; rotate_left
         ·simp only [putAll, Act.put, List.setIfInBounds_toArray, List.set_cons_zero, List.set_cons_succ]; rfl
         refine two_ (i := 5) (j := 6) (Ni := some 31) (Nj := some 9) (bB 8 63) (bB 8 95) rfl rfl rfl rfl (two_of HT_.out (by kernel_rfl)) (by decide) (by decide) (fun K hK => ?_) (fun K hK => ?_)
         ·skip
          refine goes_ Try.func49 (by kernel_rfl) rfl #[.pointer (some ⟨gbE, 0, none⟩), .agg #[.int .i64 tG, .int .i64 tK], .agg #[.int .i64 tV, .int .i64 tAB]] (by rfl) rfl rfl zz196 ?_; with_reducible refine (impl_calc_div.calls kj3 gbE tAC tG tK tV tAB tW tAE false w _ ?side1 ?side2 A23.out).mono ?_
          (case side1 => repeat (first | (with_reducible first | exact HIE.out | apply IsS70.alloc | apply IsS70.drewN | apply IsS70.drew | apply IsS70.set_0 | apply IsS70.far (hne := NBE_D.out) | apply IsS70.far (hne := NBE_C.out)) | exact HIE.out)); (case side2 => repeat (first | (with_reducible first | exact HB.out | apply below_alloc | apply pw_below_drewN | apply below_drew1 | refine below_set ?_ (IsS70.ge HIE.out) | refine below_set ?_ GED.out | refine below_set ?_ GEC.out) | exact HB.out)); rintro e w47 ⟨rfl, hi, hb, hk⟩; refine ⟨_, rfl, ?_⟩; replace BKD := Aside0.mk (KeepBut.blk hk (g' := gbD) (o := .cells #[.int .i64 0, .int .i64 0] 27 (0, 0)) zz248 NBD_E.out (by simp)); replace BKC := Aside0.mk (KeepBut.blk hk (g' := gbC) (o := .cells #[.int .i64 tG, .int .i64 tK] 27 (0, 0)) zz249 NBC_E.out (by simp)); replace HIE := Aside0.mk (hi); replace HB := Aside0.mk (hb); (try clear hb); (try clear hk); (try clear hi); refine hK.out _ _ ⟨bcA BKC 0, bcA BKC 1⟩ (fun hHeld => ?_); clear hK K; refine normA (some 31) ?_; exact norm_ zz83 (hJ2_3_4_5 () _ ⟨hHeld, zz248, zz249, zz66, zz64⟩)
         ·skip
          refine boxS 9 #[.int .i64 0, .int .i64 0] 27 ?_; intro gbA hg w47 hbox hb; have n0_ := blkA BKD hb; have n1_ := blkA BKC hb; have n2_ := Aside0.mk (IsS70.below zz66 hb); have n3_ := Aside0.mk (below_step zz64 hb); have n4_ := Aside0.mk (hbox); have n5_ := gwA (below_size zz64) hg; have n6_ := gwA (below_size zz64) hg; have n7_ := nltA BKD hg; have n8_ := ngtA BKD hg; have n9_ := nltA BKC hg; have n10_ := ngtA BKC hg; have n11_ := Aside0.mk ((by rw [hg]; exact Nat.ne_of_lt (IsS70.lt (show IsS70 w _ gbE tAC from by repeat (first | (with_reducible first | exact HIE.out | apply IsS70.alloc | apply IsS70.drewN | apply IsS70.drew | apply IsS70.set_0 | apply IsS70.far (hne := NBE_D.out) | apply IsS70.far (hne := NBE_C.out)) | exact HIE.out))) : gbE ≠ gbA)); have n12_ := Aside0.mk ((by rw [hg]; exact Nat.ne_of_gt (IsS70.lt (show IsS70 w _ gbE tAC from by repeat (first | (with_reducible first | exact HIE.out | apply IsS70.alloc | apply IsS70.drewN | apply IsS70.drew | apply IsS70.set_0 | apply IsS70.far (hne := NBE_D.out) | apply IsS70.far (hne := NBE_C.out)) | exact HIE.out))) : gbA ≠ gbE)); clear BKD; clear BKC; clear HIE; clear HB; have BKD := n0_; have BKC := n1_; have HIE := n2_; have HB := n3_; have BKA := n4_; have GWA := n5_; have GEA := n6_; have NBD_A := n7_; have NBA_D := n8_; have NBC_A := n9_; have NBA_C := n10_; have NBE_A := n11_; have NBA_E := n12_; clear n0_ n1_ n2_ n3_ n4_ n5_ n6_ n7_ n8_ n9_ n10_ n11_ n12_; clear hb hbox hg; refine hK.out _ _ ⟨bcA BKC 0, bcA BKC 1⟩ (fun hHeld => ?_); clear hK K; refine normA (some 9) ?_; exact norm_ zz83 (hJ2_3_4_6 (gbA) _ ⟨hHeld, zz248, zz249, zz250, GWA.out, GEA.out, NBE_A.out, NBA_E.out, NBD_A.out, NBA_D.out, NBC_A.out, NBA_C.out, zz51, zz52⟩)
       ·skip
        rintro gbA w47 ⟨hS_, h0_, h1_, h2_, h3_, h4_, h5_, h6_, h7_, h8_, h9_, h10_, h11_, h12_⟩; replace BKD : Aside0 (w47.heap[gbD]? = some (.cells #[.int .i64 0, .int .i64 0] 27 (0, 0))) := ⟨h0_⟩; replace BKC : Aside0 (w47.heap[gbC]? = some (.cells #[.int .i64 tG, .int .i64 tK] 27 (0, 0))) := ⟨h1_⟩; have BKA : Aside0 (w47.heap[gbA]? = some (.cells #[.int .i64 0, .int .i64 0] 27 (0, 0))) := ⟨h2_⟩; have GWA : Aside0 (w.heap.size ≤ gbA) := ⟨h3_⟩; have GEA : Aside0 (w.heap.size ≤ gbA) := ⟨h4_⟩; have NBE_A : Aside0 (gbE ≠ gbA) := ⟨h5_⟩; have NBA_E : Aside0 (gbA ≠ gbE) := ⟨h6_⟩; have NBD_A : Aside0 (gbD ≠ gbA) := ⟨h7_⟩; have NBA_D : Aside0 (gbA ≠ gbD) := ⟨h8_⟩; have NBC_A : Aside0 (gbC ≠ gbA) := ⟨h9_⟩; have NBA_C : Aside0 (gbA ≠ gbC) := ⟨h10_⟩; replace HIE : Aside0 (IsS70 w w47 gbE tAC) := ⟨h11_⟩; replace HB : Aside0 (Below w.heap.size w w47) := ⟨h12_⟩; clear h0_ h1_ h2_ h3_ h4_ h5_ h6_ h7_ h8_ h9_ h10_ h11_ h12_; have hHeld : w47.cell? ⟨gbC, 0, none⟩ = some (.int .i64 tG) ∧ w47.cell? ⟨gbC, 1, none⟩ = some (.int .i64 tK) := hS_; refine norm_ (a' := ?_) ?_ ?_; rotate_left
        ·simp only [putAll, Act.put, List.setIfInBounds_toArray, List.set_cons_zero, List.set_cons_succ]; rfl
        refine one_ (i := 5) (N := some 31) (bB 8 127) rfl rfl (one_of HT_.out (by kernel_rfl)) (by decide) (fun K hK => ?_); refine goes_ Try.func49 (by kernel_rfl) rfl #[.pointer (some ⟨gbE, 0, none⟩), .agg #[.int .i64 tG, .int .i64 tK], .agg #[.int .i64 tV, .int .i64 tAB]] (by rfl) rfl rfl zz196 ?_; with_reducible refine (impl_calc_div.calls kj3 gbE tAC tG tK tV tAB tW tAE false w _ ?side1 ?side2 A23.out).mono ?_
        (case side1 => repeat (first | (with_reducible first | exact HIE.out | apply IsS70.alloc | apply IsS70.drewN | apply IsS70.drew | apply IsS70.set_0 | apply IsS70.far (hne := NBE_D.out) | apply IsS70.far (hne := NBE_C.out) | apply IsS70.far (hne := NBE_A.out)) | exact HIE.out)); (case side2 => repeat (first | (with_reducible first | exact HB.out | apply below_alloc | apply pw_below_drewN | apply below_drew1 | refine below_set ?_ (IsS70.ge HIE.out) | refine below_set ?_ GED.out | refine below_set ?_ GEC.out | refine below_set ?_ GEA.out) | exact HB.out)); rintro e w48 ⟨rfl, hi, hb, hk⟩; refine ⟨_, rfl, ?_⟩; replace BKD := Aside0.mk (KeepBut.blk hk (g' := gbD) (o := .cells #[.int .i64 0, .int .i64 0] 27 (0, 0)) zz248 NBD_E.out (by simp)); replace BKC := Aside0.mk (KeepBut.blk hk (g' := gbC) (o := .cells #[.int .i64 tG, .int .i64 tK] 27 (0, 0)) zz249 NBC_E.out (by simp)); replace BKA := Aside0.mk (KeepBut.blk hk (g' := gbA) (o := .cells #[.int .i64 0, .int .i64 0] 27 (0, 0)) zz250 NBA_E.out (by simp)); replace HIE := Aside0.mk (hi); replace HB := Aside0.mk (hb); (try clear hb); (try clear hk); (try clear hi); refine hK.out _ _ ⟨bcA BKC 0, bcA BKC 1⟩ (fun hHeld => ?_); clear hK K; refine normA (some 31) ?_; exact norm_ zz83 (hJ2_3_4_5_6 (gbA) _ ⟨hHeld, zz248, zz249, zz250, GWA.out, GEA.out, NBE_A.out, NBA_E.out, NBD_A.out, NBA_D.out, NBC_A.out, NBA_C.out, zz51, zz52⟩)
      ·skip
       rintro _ w47 ⟨hS_, h0_, h1_, h2_, h3_⟩; replace BKD : Aside0 (w47.heap[gbD]? = some (.cells #[.int .i64 0, .int .i64 0] 27 (0, 0))) := ⟨h0_⟩; replace BKC : Aside0 (w47.heap[gbC]? = some (.cells #[.int .i64 tG, .int .i64 tK] 27 (0, 0))) := ⟨h1_⟩; replace HIE : Aside0 (IsS70 w w47 gbE false) := ⟨h2_⟩; replace HB : Aside0 (Below w.heap.size w w47) := ⟨h3_⟩; clear h0_ h1_ h2_ h3_; have hHeld : w47.cell? ⟨gbC, 0, none⟩ = some (.int .i64 tG) ∧ w47.cell? ⟨gbC, 1, none⟩ = some (.int .i64 tK) := hS_; refine norm_ (a' := ?_) ?_ ?_; rotate_left
       ·simp only [putAll, Act.put, List.setIfInBounds_toArray, List.set_cons_zero, List.set_cons_succ]; rfl
       refine one_ (i := 6) (N := some 9) (bB 8 127) rfl rfl (one_of HT_.out (by kernel_rfl)) (by decide) (fun K hK => ?_); refine boxS 9 #[.int .i64 0, .int .i64 0] 27 ?_; intro gbA hg w48 hbox hb; have n0_ := blkA BKD hb; have n1_ := blkA BKC hb; have n2_ := Aside0.mk (IsS70.below zz66 hb); have n3_ := Aside0.mk (below_step zz64 hb); have n4_ := Aside0.mk (hbox); have n5_ := gwA (below_size zz64) hg; have n6_ := gwA (below_size zz64) hg; have n7_ := nltA BKD hg; have n8_ := ngtA BKD hg; have n9_ := nltA BKC hg; have n10_ := ngtA BKC hg; have n11_ := Aside0.mk ((by rw [hg]; exact Nat.ne_of_lt (IsS70.lt (show IsS70 w _ gbE false from by repeat (first | (with_reducible first | exact HIE.out | apply IsS70.alloc | apply IsS70.drewN | apply IsS70.drew | apply IsS70.set_0 | apply IsS70.far (hne := NBE_D.out) | apply IsS70.far (hne := NBE_C.out)) | exact HIE.out))) : gbE ≠ gbA)); have n12_ := Aside0.mk ((by rw [hg]; exact Nat.ne_of_gt (IsS70.lt (show IsS70 w _ gbE false from by repeat (first | (with_reducible first | exact HIE.out | apply IsS70.alloc | apply IsS70.drewN | apply IsS70.drew | apply IsS70.set_0 | apply IsS70.far (hne := NBE_D.out) | apply IsS70.far (hne := NBE_C.out)) | exact HIE.out))) : gbA ≠ gbE)); clear BKD; clear BKC; clear HIE; clear HB; have BKD := n0_; have BKC := n1_; have HIE := n2_; have HB := n3_; have BKA := n4_; have GWA := n5_; have GEA := n6_; have NBD_A := n7_; have NBA_D := n8_; have NBC_A := n9_; have NBA_C := n10_; have NBE_A := n11_; have NBA_E := n12_; clear n0_ n1_ n2_ n3_ n4_ n5_ n6_ n7_ n8_ n9_ n10_ n11_ n12_; clear hb hbox hg; refine hK.out _ _ ⟨bcA BKC 0, bcA BKC 1⟩ (fun hHeld => ?_); clear hK K; refine normA (some 9) ?_; exact norm_ zz83 (hJ2_3_4_5_6 (gbA) _ ⟨hHeld, zz248, zz249, zz250, GWA.out, GEA.out, NBE_A.out, NBA_E.out, NBD_A.out, NBA_D.out, NBC_A.out, NBA_C.out, zz51, zz52⟩)
     rintro gbA w48 ⟨hS_, h0_, h1_, h2_, h3_, h4_, h5_, h6_, h7_, h8_, h9_, h10_, h11_, h12_⟩; replace BKD : Aside0 (w48.heap[gbD]? = some (.cells #[.int .i64 0, .int .i64 0] 27 (0, 0))) := ⟨h0_⟩; replace BKC : Aside0 (w48.heap[gbC]? = some (.cells #[.int .i64 tG, .int .i64 tK] 27 (0, 0))) := ⟨h1_⟩; have BKA : Aside0 (w48.heap[gbA]? = some (.cells #[.int .i64 0, .int .i64 0] 27 (0, 0))) := ⟨h2_⟩; have GWA : Aside0 (w.heap.size ≤ gbA) := ⟨h3_⟩; have GEA : Aside0 (w.heap.size ≤ gbA) := ⟨h4_⟩; have NBE_A : Aside0 (gbE ≠ gbA) := ⟨h5_⟩; have NBA_E : Aside0 (gbA ≠ gbE) := ⟨h6_⟩; have NBD_A : Aside0 (gbD ≠ gbA) := ⟨h7_⟩; have NBA_D : Aside0 (gbA ≠ gbD) := ⟨h8_⟩; have NBC_A : Aside0 (gbC ≠ gbA) := ⟨h9_⟩; have NBA_C : Aside0 (gbA ≠ gbC) := ⟨h10_⟩; replace HIE : Aside0 (IsS70 w w48 gbE false) := ⟨h11_⟩; replace HB : Aside0 (Below w.heap.size w w48) := ⟨h12_⟩; clear h0_ h1_ h2_ h3_ h4_ h5_ h6_ h7_ h8_ h9_ h10_ h11_ h12_; have hHeld : w48.cell? ⟨gbC, 0, none⟩ = some (.int .i64 tG) ∧ w48.cell? ⟨gbC, 1, none⟩ = some (.int .i64 tK) := hS_; refine norm_ (a' := ?_) ?_ ?_; rotate_left
     ·simp only [putAll, Act.put, List.setIfInBounds_toArray, List.set_cons_zero, List.set_cons_succ]; rfl
     refine one_ (i := 7) (N := none) (bB 8 255) rfl rfl (one_of HT_.out (by kernel_rfl)) (by decide) (fun K hK => ?_); have hs49 : w48.cell? ⟨gbA, 0, none⟩ = some (.int .i64 0) := bcA BKA 0; have hfs49 := blk_frozen BKA.out 0; have hns49_0 := NBD_A.out; have hns49_1 := NBC_A.out; have hms49_0 := NBA_D.out; have hms49_1 := NBA_C.out; have hs50 : w48.cell? ⟨gbA, 1, none⟩ = some (.int .i64 0) := bcA BKA 1; have hfs50 := blk_frozen BKA.out 1; have hns50_0 := NBD_A.out; have hns50_1 := NBC_A.out; have hms50_0 := NBA_D.out; have hms50_1 := NBA_C.out; refine skip_ (w1 := ?_) (by rfl) rfl ?_ ?_; rotate_left
     ·go_simp
      rfl
     refine hK.out _ _ ⟨((cell_far (p := ⟨gbA, _, none⟩) NBC_A.out _).trans (((cell_far (p := ⟨gbA, _, none⟩) NBC_A.out _).trans (hHeld.1)))), ((cell_far (p := ⟨gbA, _, none⟩) NBC_A.out _).trans (((cell_far (p := ⟨gbA, _, none⟩) NBC_A.out _).trans (hHeld.2))))⟩ (fun hHeld => ?_); clear hK K; refine done_ (done_of HT_.out (by kernel_rfl)) ?_; have hnb51 := NBE_A.out; have hnc51 := NBA_E.out; obtain ⟨HGz52, hgz52⟩ := HIE.out; have hcz52_0 := cellS70_0 HGz52; have hfz52_0 := blk_frozen HGz52 0; clear HGz52 hgz52; have hnb53 := NBA_D.out; have hnc53 := NBD_A.out; have hnb54 := NBA_C.out; have hnc54 := NBC_A.out; obtain ⟨hcz55_0, hcz55_1, hfz55_0, hfz55_1⟩ := cz2 BKA.out; have hnb56 := NBD_C.out; have hnc56 := NBC_D.out; have hnb57 := NBD_E.out; have hnc57 := NBE_D.out; obtain ⟨hcz58_0, hcz58_1, hfz58_0, hfz58_1⟩ := cz2 BKD.out; try go_wp2
     refine bodyPost_ret (results_ct rfl _ _ gbD 27 #[.int .i64 tW, .int .i64 tAE] (0, 0) _ rfl (by (with_reducible repeat (first | refine blk_drewN ?_ _ | refine blk_drew ?_ | refine blk_alloc ?_ _)); refine blk_put (cs := #[.int .i64 tW, .int .i64 0]) ?_ 1 _ rfl; (with_reducible repeat (first | refine blk_drewN ?_ _ | refine blk_drew ?_ | refine blk_alloc ?_ _)); refine blk_put (cs := #[.int .i64 0, .int .i64 0]) ?_ 0 _ rfl; (with_reducible repeat (first | refine blk_drewN ?_ _ | refine blk_drew ?_ | refine blk_alloc ?_ _)); refine blk_far ?_ NBD_A.out _; (with_reducible repeat (first | refine blk_drewN ?_ _ | refine blk_drew ?_ | refine blk_alloc ?_ _)); refine blk_far ?_ NBD_A.out _; (with_reducible repeat (first | refine blk_drewN ?_ _ | refine blk_drew ?_ | refine blk_alloc ?_ _)); exact BKD.out) Try.underlying27 rfl (by kernel_rfl)) rfl ?_; exact ⟨zz272, zz52⟩
end Go.Proofs.Ytlggehdfigkliaa.Q
namespace Go.Proofs.Ytlggehdfigkliaa.Q
open Go.RowKit Go.Proofs.YtlggehdfigkliaaW.PrintWords Go.Proofs.YtlggehdfigkliaaW.PrintLast Go.Proofs.YtlggehdfigkliaaW.PrintMore
attribute [local go_sem] max2_int min2_int max_two min_two max_three min_three max_four min_four   -- for this text's walks alone
set_option linter.unusedVariables false
set_option linter.unusedSimpArgs false
def laws_FnExactShadowBound.j0 : Nat → List (S60) → List (S38) → List (S57) → List (S27) → Bool → Option (Bool)
 | 0, _, _, _, _, _ => none
 | k + 1, x0, x1, x8, x9, x48 => if x48 = true then (some false) else ((laws_toPointS.f k x0).bind fun tA => ((laws_eqPointS.f k x8 tA).bind fun tB => (if tB = true then ((laws_toRatS.f k x1).bind fun tC => ((laws_eqRatS.f k x9 tC).bind fun tD => (if tD = true then (some true) else (some false)))) else (some false))))
def laws_FnExactShadowBound.f (k : Nat) (l0 : List (S60)) (l1 : List (S38)) : Option (Bool) := (laws_szPointS.f l0 1048576).bind fun tA => (if tA < 0 then (some true) else ((laws_szRatS.f l1 tA).bind fun tB => (if tB < 0 then (some true) else ((laws_toPointS.f k l0).bind fun tC => ((laws_toRatS.f k l1).bind fun tD => ((spec_ShadowBound.f k tC tD).bind fun btE => ((laws_toPointS.f k l0).bind fun tF => ((laws_toRatS.f k l1).bind fun tG => ((impl_ShadowBound.f k tF tG).bind fun btH => ((laws_eqRat.f btH.1 btH.2.1 btE.1 btE.2.1).bind fun tI => (if tI = true then (laws_FnExactShadowBound.j0 k l0 l1 tF tG (btH.2.2 != btE.2.2)) else (laws_FnExactShadowBound.j0 k l0 l1 tF tG true))))))))))))
theorem zz270 {p : Prop} (h : p := by (with_reducible repeat (first | apply Kd.R_alloc | apply Kd.R_drewN | apply Kd.R_drew)); exact HO_9.out) : p := h
theorem zz269 {p : Prop} (h : p := by (with_reducible repeat (first | apply Kd.R_alloc | apply Kd.R_drewN | apply Kd.R_drew)); exact HO_8.out) : p := h
theorem zz264 {p : Prop} (h : p := by (with_reducible repeat (first | apply Kd.R_alloc | apply Kd.R_drewN | apply Kd.R_drew)); exact HOA.out) : p := h
theorem zz263 {p : Prop} (h : p := by (with_reducible repeat (first | apply Kd.R_alloc | apply Kd.R_drewN | apply Kd.R_drew)); exact HOC.out) : p := h
theorem zz262 {p : Prop} (h : p := by (with_reducible repeat (first | apply Kd.R_alloc | apply Kd.R_drewN | apply Kd.R_drew)); exact HOD.out) : p := h
theorem zz261 {p : Prop} (h : p := by (with_reducible repeat (first | apply Kd.R_alloc | apply Kd.R_drewN | apply Kd.R_drew)); exact HOE.out) : p := h
theorem zz260 {p : Prop} (h : p := by (with_reducible repeat (first | apply Kd.R_alloc | apply Kd.R_drewN | apply Kd.R_drew)); exact HOG.out) : p := h
theorem zz259 {p : Prop} (h : p := by (with_reducible repeat (first | apply Kd.R_alloc | apply Kd.R_drewN | apply Kd.R_drew)); exact HOH.out) : p := h
theorem zz252 {p : Prop} (h : p := by (with_reducible repeat (first | refine blk_drewN ?_ _ | refine blk_drew ?_ | refine blk_alloc ?_ _)); exact BKI.out) : p := h
theorem zz251 {p : Prop} (h : p := by (with_reducible repeat (first | refine blk_drewN ?_ _ | refine blk_drew ?_ | refine blk_alloc ?_ _)); exact BKJ.out) : p := h
theorem zz192 {p : Prop} (h : p := by repeat (first | (with_reducible first | exact HB.out | apply below_alloc | apply pw_below_drewN | apply below_drew1 | refine below_set ?_ GEJ.out) | exact HB.out)) : p := h
theorem zz126 {p : Prop} (h : p := by repeat (first | (with_reducible first | exact HB.out | apply below_alloc | apply pw_below_drewN | apply below_drew1 | refine below_set ?_ GEJ.out | refine below_set ?_ GEI.out) | exact HB.out)) : p := h
theorem zz47 {p : Prop} (h : p := by (with_reducible repeat (first | apply Kd.R_alloc | apply Kd.R_drewN | apply Kd.R_drew)); exact (Kd.R_mono (Kd.R_far (p := ⟨gbI, 1, none⟩) (Kd.R_far (p := ⟨gbI, 0, none⟩) (Kd.R_types HOE.out BKI.out (by decide)) (fun _ hk => hk.2) (.int .i64 tK)) (fun _ hk => hk.2) (.int .i64 tM)) (fun _ h_ => h_.1))) : p := h
theorem zz46 {p : Prop} (h : p := by (with_reducible repeat (first | apply Kd.R_alloc | apply Kd.R_drewN | apply Kd.R_drew)); exact (Kd.R_mono (Kd.R_far (p := ⟨gbI, 1, none⟩) (Kd.R_far (p := ⟨gbI, 0, none⟩) (Kd.R_types HOH.out BKI.out (by decide)) (fun _ hk => hk.2) (.int .i64 tK)) (fun _ hk => hk.2) (.int .i64 tM)) (fun _ h_ => h_.1))) : p := h
theorem zz45 {p : Prop} (h : p := by (with_reducible repeat (first | apply Kd.R_alloc | apply Kd.R_drewN | apply Kd.R_drew)); exact (Kd.R_mono (Kd.R_far (p := ⟨gbJ, 1, none⟩) (Kd.R_far (p := ⟨gbJ, 0, none⟩) (Kd.R_types HOH.out BKJ.out (by decide)) (fun _ hk => hk.2) (.int .i64 tN)) (fun _ hk => hk.2) (.int .i64 tO)) (fun _ h_ => h_.1))) : p := h
theorem zz30 {p : Prop} (h : p := by (with_reducible repeat (first | apply Kd.R_alloc | apply Kd.R_drewN | apply Kd.R_drew)); exact (Kd.R_mono (Kd.R_far (p := ⟨gbI, 1, none⟩) (Kd.R_far (p := ⟨gbI, 0, none⟩) (Kd.R_mono HOD.out (fun k_ hk => (⟨hk, hk.2⟩ : _ ∧ k_ ≠ gbI))) (fun _ hk => hk.2) (.int .i64 tK)) (fun _ hk => hk.2) (.int .i64 tM)) (fun _ h_ => h_.1))) : p := h
theorem zz29 {p : Prop} (h : p := by (with_reducible repeat (first | apply Kd.R_alloc | apply Kd.R_drewN | apply Kd.R_drew)); exact (Kd.R_mono (Kd.R_far (p := ⟨gbI, 1, none⟩) (Kd.R_far (p := ⟨gbI, 0, none⟩) (Kd.R_mono HOG.out (fun k_ hk => (⟨hk, hk.2⟩ : _ ∧ k_ ≠ gbI))) (fun _ hk => hk.2) (.int .i64 tK)) (fun _ hk => hk.2) (.int .i64 tM)) (fun _ h_ => h_.1))) : p := h
theorem zz28 {p : Prop} (h : p := by (with_reducible repeat (first | refine blk_drewN ?_ _ | refine blk_drew ?_ | refine blk_alloc ?_ _)); refine blk_far ?_ NBJ_I.out _; (with_reducible repeat (first | refine blk_drewN ?_ _ | refine blk_drew ?_ | refine blk_alloc ?_ _)); refine blk_far ?_ NBJ_I.out _; (with_reducible repeat (first | refine blk_drewN ?_ _ | refine blk_drew ?_ | refine blk_alloc ?_ _)); exact BKJ.out) : p := h
theorem zz18 {p : Prop} (h : p := by (with_reducible repeat (first | refine blk_drewN ?_ _ | refine blk_drew ?_ | refine blk_alloc ?_ _)); refine blk_put (cs := #[.int .i64 tK, .int .i64 0]) ?_ 1 _ rfl; (with_reducible repeat (first | refine blk_drewN ?_ _ | refine blk_drew ?_ | refine blk_alloc ?_ _)); refine blk_put (cs := #[.int .i64 0, .int .i64 0]) ?_ 0 _ rfl; (with_reducible repeat (first | refine blk_drewN ?_ _ | refine blk_drew ?_ | refine blk_alloc ?_ _)); exact BKI.out) : p := h
set_option maxHeartbeats 8000000 in
set_option maxRecDepth 100000 in
theorem laws_FnExactShadowBound.calls (k : Nat) (A0 : Option Addr) (c0 : Nat) (l0 : List (S60)) (A1 : Option Addr) (c1 : Nat) (l1 : List (S38)) (r : Bool) (w : World) (hr0 : Kd.C k60 w A0 l0.length l0) (hc0 : l0.length ≤ c0) (hr1 : Kd.C k38 w A1 l1.length l1) (hc1 : l1.length ≤ c1) (h : laws_FnExactShadowBound.f k l0 l1 = some r) :
  Calls Try.prog 5 #[.slice A0 l0.length c0, .slice A1 l1.length c1] w fun e w' => e = .returned (.bool r) ∧ Below w.heap.size w w' := by
 have hu27 := Try.underlying27; have HR0 := Aside0.mk hr0; have HC0 := Aside0.mk hc0; clear hr0 hc0; have HR1 := Aside0.mk hr1; have HC1 := Aside0.mk hc1; clear hr1 hc1; have HB := Aside0.mk (Below.refl w.heap.size w); have H : ((laws_szPointS.f l0 1048576).bind fun tP => (if tP < 0 then (some true) else ((laws_szRatS.f l1 tP).bind fun tQ => (if tQ < 0 then (some true) else ((laws_toPointS.f k l0).bind fun tR => ((laws_toRatS.f k l1).bind fun tS => ((spec_ShadowBound.f k tR tS).bind fun btN => ((laws_toPointS.f k l0).bind fun tU => ((laws_toRatS.f k l1).bind fun tV => ((impl_ShadowBound.f k tU tV).bind fun btK => ((laws_eqRat.f btK.1 btK.2.1 btN.1 btN.2.1).bind fun tW => (if tW = true then (laws_FnExactShadowBound.j0 k l0 l1 tU tV (btK.2.2 != btN.2.2)) else (laws_FnExactShadowBound.j0 k l0 l1 tU tV true))))))))))))) = some r := h; clear h; replace H := Option.bind_eq_some_iff.mp H; obtain ⟨tP, A30, H⟩ := H; replace H : (if tP < 0 then (some true) else ((laws_szRatS.f l1 tP).bind fun tQ => (if tQ < 0 then (some true) else ((laws_toPointS.f k l0).bind fun tR => ((laws_toRatS.f k l1).bind fun tS => ((spec_ShadowBound.f k tR tS).bind fun btN => ((laws_toPointS.f k l0).bind fun tU => ((laws_toRatS.f k l1).bind fun tV => ((impl_ShadowBound.f k tU tV).bind fun btK => ((laws_eqRat.f btK.1 btK.2.1 btN.1 btN.2.1).bind fun tW => (if tW = true then (laws_FnExactShadowBound.j0 k l0 l1 tU tV (btK.2.2 != btN.2.2)) else (laws_FnExactShadowBound.j0 k l0 l1 tU tV true)))))))))))) = some r := H; have A3 := Aside0.mk A30; clear A30; by_cases c4 : tP < 0
 ·rw [if_pos c4] at H; have c4b0 : decide (tP < 0) = true := decide_eq_true c4; clear c4; obtain rfl := Option.some.inj H; go_enter Try.func5, Try.ntmps5
  go_wp2_with (first | ((with_reducible refine gate_callee (f := 8) rfl ?_); refine goesL_ (some 14) rfl rfl Try.func8 (by kernel_rfl) rfl #[.slice A0 l0.length c0, .int .i64 1048576] rfl zz196 ?_; (with_reducible refine (laws_szPointS.calls _ _ l0 1048576 tP _ ?side1 ?side2 A3.out).mono ?_); (case side1 => repeat (first | exact HR0.out | (with_reducible refine Kd.C_alloc ?_ _) | (with_reducible refine Kd.C_drewN ?_ _) | (with_reducible refine Kd.C_drew ?_))); (case side2 => exact HC0.out); rintro e w' ⟨rfl, ⟨nd, rfl⟩⟩; refine ⟨_, rfl, ?_⟩))
  go_ret
  exact ⟨zz272, zz197⟩
 ·rw [if_neg c4] at H; have c4b0 : decide (tP < 0) = false := decide_eq_false c4; clear c4; replace H := Option.bind_eq_some_iff.mp H; obtain ⟨tQ, A50, H⟩ := H; replace H : (if tQ < 0 then (some true) else ((laws_toPointS.f k l0).bind fun tR => ((laws_toRatS.f k l1).bind fun tS => ((spec_ShadowBound.f k tR tS).bind fun btN => ((laws_toPointS.f k l0).bind fun tU => ((laws_toRatS.f k l1).bind fun tV => ((impl_ShadowBound.f k tU tV).bind fun btK => ((laws_eqRat.f btK.1 btK.2.1 btN.1 btN.2.1).bind fun tW => (if tW = true then (laws_FnExactShadowBound.j0 k l0 l1 tU tV (btK.2.2 != btN.2.2)) else (laws_FnExactShadowBound.j0 k l0 l1 tU tV true)))))))))) = some r := H; have A5 := Aside0.mk A50; clear A50; by_cases c6 : tQ < 0
  ·rw [if_pos c6] at H; have c6b0 : decide (tQ < 0) = true := decide_eq_true c6; clear c6; obtain rfl := Option.some.inj H; go_enter Try.func5, Try.ntmps5
   go_wp2_with (first | ((with_reducible refine gate_callee (f := 8) rfl ?_); refine goesL_ (some 14) rfl rfl Try.func8 (by kernel_rfl) rfl #[.slice A0 l0.length c0, .int .i64 1048576] rfl zz196 ?_; (with_reducible refine (laws_szPointS.calls _ _ l0 1048576 tP _ ?side1 ?side2 A3.out).mono ?_); (case side1 => repeat (first | exact HR0.out | (with_reducible refine Kd.C_alloc ?_ _) | (with_reducible refine Kd.C_drewN ?_ _) | (with_reducible refine Kd.C_drew ?_))); (case side2 => exact HC0.out); rintro e w' ⟨rfl, ⟨nd, rfl⟩⟩; refine ⟨_, rfl, ?_⟩) | ((with_reducible refine gate_callee (f := 9) rfl ?_); refine goesL_ (some 19) rfl rfl Try.func9 (by kernel_rfl) rfl #[.slice A1 l1.length c1, .int .i64 tP] rfl zz196 ?_; (with_reducible refine (laws_szRatS.calls _ _ l1 tP tQ _ ?side1 ?side2 A5.out).mono ?_); (case side1 => repeat (first | exact HR1.out | (with_reducible refine Kd.C_alloc ?_ _) | (with_reducible refine Kd.C_drewN ?_ _) | (with_reducible refine Kd.C_drew ?_))); (case side2 => exact HC1.out); rintro e w' ⟨rfl, ⟨nd, rfl⟩⟩; refine ⟨_, rfl, ?_⟩))
   go_ret
   exact ⟨zz272, zz197⟩
  ·rw [if_neg c6] at H; have c6b0 : decide (tQ < 0) = false := decide_eq_false c6; clear c6; replace H := Option.bind_eq_some_iff.mp H; obtain ⟨tR, A70, H⟩ := H; replace H : ((laws_toRatS.f k l1).bind fun tS => ((spec_ShadowBound.f k tR tS).bind fun btN => ((laws_toPointS.f k l0).bind fun tU => ((laws_toRatS.f k l1).bind fun tV => ((impl_ShadowBound.f k tU tV).bind fun btK => ((laws_eqRat.f btK.1 btK.2.1 btN.1 btN.2.1).bind fun tW => (if tW = true then (laws_FnExactShadowBound.j0 k l0 l1 tU tV (btK.2.2 != btN.2.2)) else (laws_FnExactShadowBound.j0 k l0 l1 tU tV true)))))))) = some r := H; have A7 := Aside0.mk A70; clear A70; replace H := Option.bind_eq_some_iff.mp H; obtain ⟨tS, A80, H⟩ := H; replace H : ((spec_ShadowBound.f k tR tS).bind fun btN => ((laws_toPointS.f k l0).bind fun tU => ((laws_toRatS.f k l1).bind fun tV => ((impl_ShadowBound.f k tU tV).bind fun btK => ((laws_eqRat.f btK.1 btK.2.1 btN.1 btN.2.1).bind fun tW => (if tW = true then (laws_FnExactShadowBound.j0 k l0 l1 tU tV (btK.2.2 != btN.2.2)) else (laws_FnExactShadowBound.j0 k l0 l1 tU tV true))))))) = some r := H; have A8 := Aside0.mk A80; clear A80; replace H := Option.bind_eq_some_iff.mp H; obtain ⟨⟨tN, tO, tX⟩, A90, H⟩ := H; replace H : ((laws_toPointS.f k l0).bind fun tU => ((laws_toRatS.f k l1).bind fun tV => ((impl_ShadowBound.f k tU tV).bind fun btK => ((laws_eqRat.f btK.1 btK.2.1 tN tO).bind fun tW => (if tW = true then (laws_FnExactShadowBound.j0 k l0 l1 tU tV (btK.2.2 != tX)) else (laws_FnExactShadowBound.j0 k l0 l1 tU tV true)))))) = some r := H; have A9 := Aside0.mk A90; clear A90; replace H := Option.bind_eq_some_iff.mp H; obtain ⟨tU, AY, H⟩ := H; replace H : ((laws_toRatS.f k l1).bind fun tV => ((impl_ShadowBound.f k tU tV).bind fun btK => ((laws_eqRat.f btK.1 btK.2.1 tN tO).bind fun tW => (if tW = true then (laws_FnExactShadowBound.j0 k l0 l1 tU tV (btK.2.2 != tX)) else (laws_FnExactShadowBound.j0 k l0 l1 tU tV true))))) = some r := H; have A10 := Aside0.mk AY; clear AY; replace H := Option.bind_eq_some_iff.mp H; obtain ⟨tV, AZ, H⟩ := H; replace H : ((impl_ShadowBound.f k tU tV).bind fun btK => ((laws_eqRat.f btK.1 btK.2.1 tN tO).bind fun tW => (if tW = true then (laws_FnExactShadowBound.j0 k l0 l1 tU tV (btK.2.2 != tX)) else (laws_FnExactShadowBound.j0 k l0 l1 tU tV true)))) = some r := H; have A11 := Aside0.mk AZ; clear AZ; replace H := Option.bind_eq_some_iff.mp H; obtain ⟨⟨tK, tM, tAA⟩, AAB, H⟩ := H; replace H : ((laws_eqRat.f tK tM tN tO).bind fun tW => (if tW = true then (laws_FnExactShadowBound.j0 k l0 l1 tU tV (tAA != tX)) else (laws_FnExactShadowBound.j0 k l0 l1 tU tV true))) = some r := H; have A12 := Aside0.mk AAB; clear AAB; have HC13 := Aside0.mk H; clear H; go_enter Try.func5, Try.ntmps5
   go_upto_region 12 with (first | ((with_reducible refine gate_callee (f := 8) rfl ?_); refine goesL_ (some 14) rfl rfl Try.func8 (by kernel_rfl) rfl #[.slice A0 l0.length c0, .int .i64 1048576] rfl zz196 ?_; (with_reducible refine (laws_szPointS.calls _ _ l0 1048576 tP _ ?side1 ?side2 A3.out).mono ?_); (case side1 => repeat (first | exact HR0.out | (with_reducible refine Kd.C_alloc ?_ _) | (with_reducible refine Kd.C_drewN ?_ _) | (with_reducible refine Kd.C_drew ?_))); (case side2 => exact HC0.out); rintro e w' ⟨rfl, ⟨nd, rfl⟩⟩; refine ⟨_, rfl, ?_⟩) | ((with_reducible refine gate_callee (f := 9) rfl ?_); refine goesL_ (some 19) rfl rfl Try.func9 (by kernel_rfl) rfl #[.slice A1 l1.length c1, .int .i64 tP] rfl zz196 ?_; (with_reducible refine (laws_szRatS.calls _ _ l1 tP tQ _ ?side1 ?side2 A5.out).mono ?_); (case side1 => repeat (first | exact HR1.out | (with_reducible refine Kd.C_alloc ?_ _) | (with_reducible refine Kd.C_drewN ?_ _) | (with_reducible refine Kd.C_drew ?_))); (case side2 => exact HC1.out); rintro e w' ⟨rfl, ⟨nd, rfl⟩⟩; refine ⟨_, rfl, ?_⟩) | ((with_reducible refine gate_callee (f := 11) rfl ?_); refine goesL_ (some 24) rfl rfl Try.func11 (by kernel_rfl) rfl #[.slice A0 l0.length c0] rfl zz196 ?_; (with_reducible refine (laws_toPointS.calls k _ _ l0 tR _ ?side1 ?side2 A7.out).mono ?_); (case side1 => repeat (first | exact HR0.out | (with_reducible refine Kd.C_alloc ?_ _) | (with_reducible refine Kd.C_drewN ?_ _) | (with_reducible refine Kd.C_drew ?_))); (case side2 => exact HC0.out); rintro e w14 ⟨vAC, rfl, ho0, hb⟩; refine ⟨_, rfl, ?_⟩; have HOH := Aside0.mk (Kd.R_lower ho0 (below_size zz197)); replace HB := Aside0.mk (below_step zz197 hb); (try clear hb); (try clear ho0)) | ((with_reducible refine gate_callee (f := 12) rfl ?_); refine goesL_ (some 26) rfl rfl Try.func12 (by kernel_rfl) rfl #[.slice A1 l1.length c1] rfl zz196 ?_; (with_reducible refine (laws_toRatS.calls k _ _ l1 tS _ ?side1 ?side2 A8.out).mono ?_); (case side1 => repeat (first | exact (Kd.C_below HR1.out HB.out) | (with_reducible refine Kd.C_alloc ?_ _) | (with_reducible refine Kd.C_drewN ?_ _) | (with_reducible refine Kd.C_drew ?_))); (case side2 => exact HC1.out); rintro e w15 ⟨vAD, rfl, ho0, hb⟩; refine ⟨_, rfl, ?_⟩; replace HOH := Aside0.mk (Kd.R_below zz259 hb); have HOG := Aside0.mk (Kd.R_lower ho0 (below_size zz197)); replace HB := Aside0.mk (below_step zz197 hb); (try clear hb); (try clear ho0); obtain ⟨Ao16, co16, eo16⟩ := Kd.R_slice HOH.out; subst eo16; obtain ⟨Ao17, co17, eo17⟩ := Kd.R_slice HOG.out; subst eo17) | ((with_reducible refine gate_callee (f := 20) rfl ?_); refine goesL_ (some 27) rfl rfl Try.func20 (by kernel_rfl) rfl #[.slice Ao16 tR.length co16, .slice Ao17 tS.length co17] rfl zz196 ?_; (with_reducible refine (spec_ShadowBound.calls k _ _ tR _ _ tS tN tO tX _ ?side1 ?side2 ?side3 ?side4 A9.out).mono ?_); (case side1 => repeat (first | exact (Kd.R_reads' HOH.out).2.2 | (with_reducible refine Kd.C_alloc ?_ _) | (with_reducible refine Kd.C_drewN ?_ _) | (with_reducible refine Kd.C_drew ?_))); (case side2 => exact (Kd.R_reads' HOH.out).2.1); (case side3 => repeat (first | exact (Kd.R_reads' HOG.out).2.2 | (with_reducible refine Kd.C_alloc ?_ _) | (with_reducible refine Kd.C_drewN ?_ _) | (with_reducible refine Kd.C_drew ?_))); (case side4 => exact (Kd.R_reads' HOG.out).2.1); rintro e w18 ⟨rfl, hb⟩; refine ⟨_, rfl, ?_⟩; replace HOH := Aside0.mk (Kd.R_below zz259 hb); replace HOG := Aside0.mk (Kd.R_below zz260 hb); replace HB := Aside0.mk (below_step zz197 hb); (try clear hb)) | ((with_reducible refine gate_dst (N := 6) rfl ?_); refine boxE 6 #[.int .i64 0, .int .i64 0] 27 ?_; intro gbJ hg w19 hbox hb; replace HOH := Aside0.mk (Kd.R_below zz259 hb); replace HOG := Aside0.mk (Kd.R_below (Kd.R_elderB zz260 gbJ (Nat.le_of_eq hg.symm)) hb); have GWJ := gwA (below_size zz197) hg; have GEJ := GWJ; have BKJ := Aside0.mk (hbox); replace HB := Aside0.mk (below_step zz197 hb); clear hb hbox hg; obtain ⟨hcz20_0, hcz20_1, hfz20_0, hfz20_1⟩ := cz2 BKJ.out) | ((with_reducible refine gate_callee (f := 11) rfl ?_); refine goesL_ (some 31) rfl rfl Try.func11 (by kernel_rfl) rfl #[.slice A0 l0.length c0] rfl zz196 ?_; (with_reducible refine (laws_toPointS.calls k _ _ l0 tU _ ?side1 ?side2 A10.out).mono ?_); (case side1 => exact Kd.C_below HR0.out zz192); (case side2 => exact HC0.out); rintro e w21 ⟨vAE, rfl, ho0, hb⟩; refine ⟨_, rfl, ?_⟩; have n0_ := Aside0.mk (Kd.R_elder' zz45 (Kd.R_base ho0) hb); have n1_ := Aside0.mk (Kd.R_below (by (with_reducible repeat (first | apply Kd.R_alloc | apply Kd.R_drewN | apply Kd.R_drew)); exact (Kd.R_mono (Kd.R_far (p := ⟨gbJ, 1, none⟩) (Kd.R_far (p := ⟨gbJ, 0, none⟩) (Kd.R_mono HOG.out (fun k_ hk => (⟨hk, hk.2⟩ : _ ∧ k_ ≠ gbJ))) (fun _ hk => hk.2) (.int .i64 tN)) (fun _ hk => hk.2) (.int .i64 tO)) (fun _ h_ => h_.1))) hb); have n2_ := Aside0.mk (Kd.R_lower (Kd.R_new' ho0 (Kd.R_lt zz45)) (below_size zz192)); have n3_ := Aside0.mk (blk_below (g := gbJ) (o := .cells #[.int .i64 tN, .int .i64 tO] 27 (0, 0)) (by (with_reducible repeat (first | refine blk_drewN ?_ _ | refine blk_drew ?_ | refine blk_alloc ?_ _)); refine blk_put (cs := #[.int .i64 tN, .int .i64 0]) ?_ 1 _ rfl; (with_reducible repeat (first | refine blk_drewN ?_ _ | refine blk_drew ?_ | refine blk_alloc ?_ _)); refine blk_put (cs := #[.int .i64 0, .int .i64 0]) ?_ 0 _ rfl; (with_reducible repeat (first | refine blk_drewN ?_ _ | refine blk_drew ?_ | refine blk_alloc ?_ _)); exact BKJ.out) hb); clear HOH HOG BKJ; have HOH := n0_; have HOG := n1_; have HOE := n2_; have BKJ := n3_; clear n0_ n1_ n2_ n3_; replace HB := Aside0.mk (below_step zz192 hb); (try clear hb); (try clear ho0)) | ((with_reducible refine gate_callee (f := 12) rfl ?_); refine goesL_ (some 33) rfl rfl Try.func12 (by kernel_rfl) rfl #[.slice A1 l1.length c1] rfl zz196 ?_; (with_reducible refine (laws_toRatS.calls k _ _ l1 tV _ ?side1 ?side2 A11.out).mono ?_); (case side1 => repeat (first | exact (Kd.C_below HR1.out HB.out) | (with_reducible refine Kd.C_alloc ?_ _) | (with_reducible refine Kd.C_drewN ?_ _) | (with_reducible refine Kd.C_drew ?_))); (case side2 => exact HC1.out); rintro e w22 ⟨vAF, rfl, ho0, hb⟩; refine ⟨_, rfl, ?_⟩; replace HOH := Aside0.mk (Kd.R_below zz259 hb); have n1_ := Aside0.mk (Kd.R_elder' zz260 (Kd.R_base ho0) hb); replace HOE := Aside0.mk (Kd.R_below zz261 hb); have HOD := Aside0.mk (Kd.R_lower (Kd.R_newB (Kd.R_new' ho0 (Kd.R_lt zz260)) (g := gbJ) (o := .cells #[.int .i64 tN, .int .i64 tO] 27 (0, 0)) zz251) (below_size zz192)); clear HOG; have HOG := n1_; clear n1_; replace BKJ := blkA BKJ hb; replace HB := Aside0.mk (below_step zz192 hb); (try clear hb); (try clear ho0); obtain ⟨Ao23, co23, eo23⟩ := Kd.R_slice HOE.out; subst eo23; obtain ⟨Ao24, co24, eo24⟩ := Kd.R_slice HOD.out; subst eo24) | ((with_reducible refine gate_callee (f := 21) rfl ?_); refine goesL_ (some 37) rfl rfl Try.func21 (by kernel_rfl) rfl #[.slice Ao23 tU.length co23, .slice Ao24 tV.length co24] rfl zz196 ?_; (with_reducible refine (impl_ShadowBound.calls k _ _ tU _ _ tV tK tM tAA _ ?side1 ?side2 ?side3 ?side4 A12.out).mono ?_); (case side1 => repeat (first | exact (Kd.R_reads' HOE.out).2.2 | (with_reducible refine Kd.C_alloc ?_ _) | (with_reducible refine Kd.C_drewN ?_ _) | (with_reducible refine Kd.C_drew ?_))); (case side2 => exact (Kd.R_reads' HOE.out).2.1); (case side3 => repeat (first | exact (Kd.R_reads' HOD.out).2.2 | (with_reducible refine Kd.C_alloc ?_ _) | (with_reducible refine Kd.C_drewN ?_ _) | (with_reducible refine Kd.C_drew ?_))); (case side4 => exact (Kd.R_reads' HOD.out).2.1); rintro e w25 ⟨rfl, hb⟩; refine ⟨_, rfl, ?_⟩; replace HOH := Aside0.mk (Kd.R_below zz259 hb); replace HOG := Aside0.mk (Kd.R_below zz260 hb); replace HOE := Aside0.mk (Kd.R_below zz261 hb); replace HOD := Aside0.mk (Kd.R_below zz262 hb); replace BKJ := blkA BKJ hb; replace HB := Aside0.mk (below_step zz192 hb); (try clear hb)) | ((with_reducible refine gate_dst (N := 10) rfl ?_); refine boxE 10 #[.int .i64 0, .int .i64 0] 27 ?_; intro gbI hg w26 hbox hb; replace HOH := Aside0.mk (Kd.R_below zz259 hb); replace HOG := Aside0.mk (Kd.R_below (Kd.R_elderB zz260 gbI (Nat.le_of_eq hg.symm)) hb); replace HOE := Aside0.mk (Kd.R_below zz261 hb); replace HOD := Aside0.mk (Kd.R_below (Kd.R_elderB zz262 gbI (Nat.le_of_eq hg.symm)) hb); have GWI := gwA (below_size zz192) hg; have GEI := GWI; have NBJ_I := nltA BKJ hg; have NBI_J := ngtA BKJ hg; replace BKJ := blkA BKJ hb; have BKI := Aside0.mk (hbox); replace HB := Aside0.mk (below_step zz192 hb); clear hb hbox hg; have hnb27 := NBI_J.out; have hnc27 := NBJ_I.out; obtain ⟨hcz28_0, hcz28_1, hfz28_0, hfz28_1⟩ := cz2 BKI.out))
   (try simp only [Act.put, List.setIfInBounds_toArray, List.set_cons_zero, List.set_cons_succ]); go_cut [48] (fun v48 wc => ∃ (kq : Nat) (x48_12 : Bool), v48 = .bool x48_12 ∧ Aside0 (laws_FnExactShadowBound.j0 kq l0 l1 tU tV x48_12 = some r) ∧ Aside0 (kq ≤ k) ∧ Aside0 (Kd.R k57 57 wc w.heap.size (fun _ => True) (.slice Ao23 tU.length co23) tU) ∧ Aside0 (Kd.R k27 27 wc w.heap.size (fun k_ => k_ ≠ gbJ ∧ k_ ≠ gbI) (.slice Ao24 tV.length co24) tV) ∧ Aside0 (wc.heap[gbJ]? = some (.cells #[.int .i64 tN, .int .i64 tO] 27 (0, 0))) ∧ Aside0 (wc.heap[gbI]? = some (.cells #[.int .i64 tK, .int .i64 tM] 27 (0, 0))) ∧ Aside0 (Below w.heap.size w wc))
   case first =>
    have H := HC13.out; clear HC13; replace H := Option.bind_eq_some_iff.mp H; obtain ⟨tW, AAG, H⟩ := H; replace H : (if tW = true then (laws_FnExactShadowBound.j0 k l0 l1 tU tV (tAA != tX)) else (laws_FnExactShadowBound.j0 k l0 l1 tU tV true)) = some r := H; have A29 := Aside0.mk AAG; clear AAG; by_cases c30 : tW = true
    ·subst c30; have H1 : (laws_FnExactShadowBound.j0 k l0 l1 tU tV (tAA != tX)) = some r := by rw [if_pos rfl] at H; exact H
     clear H; have H := H1; clear H1; have H' := Aside0.mk H; clear H; have hnb31 := NBI_J.out; have hnc31 := NBJ_I.out; obtain ⟨hcz32_0, hcz32_1, hfz32_0, hfz32_1⟩ := cz2 BKI.out; obtain ⟨hcz33_0, hcz33_1, hfz33_0, hfz33_1⟩ := cz2 BKJ.out; go_wp2_with (first | ((with_reducible refine gate_callee (f := 14) rfl ?_); refine goesL_ (some 42) rfl rfl Try.func14 (by kernel_rfl) rfl #[.agg #[.int .i64 tK, .int .i64 tM], .agg #[.int .i64 tN, .int .i64 tO]] rfl zz196 ?_; (with_reducible refine (laws_eqRat.calls tK tM tN tO true _ A29.out).mono ?_); rintro e w34 ⟨rfl, hb⟩; refine ⟨_, rfl, ?_⟩; replace HOH := Aside0.mk (Kd.R_below zz46 hb); replace HOG := Aside0.mk (Kd.R_below zz29 hb); replace HOE := Aside0.mk (Kd.R_below zz47 hb); replace HOD := Aside0.mk (Kd.R_below zz30 hb); replace BKJ := Aside0.mk (blk_below (g := gbJ) (o := .cells #[.int .i64 tN, .int .i64 tO] 27 (0, 0)) zz28 hb); replace BKI := Aside0.mk (blk_below (g := gbI) (o := .cells #[.int .i64 tK, .int .i64 tM] 27 (0, 0)) zz18 hb); replace HB := Aside0.mk (below_step zz126 hb)))
     go_meet
     case rel => exact ⟨_, ((tAA != tX)), zz284, H', ⟨by first | omega | exact Nat.le_refl _⟩, ⟨by (with_reducible repeat (first | apply Kd.R_alloc | apply Kd.R_drewN | apply Kd.R_drew)); exact Kd.R_mono HOE.out (fun _ hk => trivial)⟩, ⟨by (with_reducible repeat (first | apply Kd.R_alloc | apply Kd.R_drewN | apply Kd.R_drew)); exact Kd.R_mono HOD.out (fun _ hk => ⟨hk.1.2, hk.2⟩)⟩, ⟨by (with_reducible repeat (first | refine blk_drewN ?_ _ | refine blk_drew ?_ | refine blk_alloc ?_ _)); exact BKJ.out⟩, ⟨by (with_reducible repeat (first | refine blk_drewN ?_ _ | refine blk_drew ?_ | refine blk_alloc ?_ _)); exact BKI.out⟩, ⟨by repeat (first | (with_reducible first | exact HB.out | apply below_alloc | apply pw_below_drewN | apply below_drew1 | refine below_set ?_ GEJ.out | refine below_set ?_ GEI.out) | exact HB.out)⟩⟩
    ·replace c30 := Bool.eq_false_iff.mpr c30; subst c30; have H1 : (laws_FnExactShadowBound.j0 k l0 l1 tU tV true) = some r := by rw [if_neg (show ¬ (false = true) by decide)] at H; exact H
     clear H; have H := H1; clear H1; have H' := Aside0.mk H; clear H; have hnb35 := NBI_J.out; have hnc35 := NBJ_I.out; obtain ⟨hcz36_0, hcz36_1, hfz36_0, hfz36_1⟩ := cz2 BKI.out; obtain ⟨hcz37_0, hcz37_1, hfz37_0, hfz37_1⟩ := cz2 BKJ.out; go_wp2_with (first | ((with_reducible refine gate_callee (f := 14) rfl ?_); refine goesL_ (some 42) rfl rfl Try.func14 (by kernel_rfl) rfl #[.agg #[.int .i64 tK, .int .i64 tM], .agg #[.int .i64 tN, .int .i64 tO]] rfl zz196 ?_; (with_reducible refine (laws_eqRat.calls tK tM tN tO false _ A29.out).mono ?_); rintro e w38 ⟨rfl, hb⟩; refine ⟨_, rfl, ?_⟩; replace HOH := Aside0.mk (Kd.R_below zz46 hb); replace HOG := Aside0.mk (Kd.R_below zz29 hb); replace HOE := Aside0.mk (Kd.R_below zz47 hb); replace HOD := Aside0.mk (Kd.R_below zz30 hb); replace BKJ := Aside0.mk (blk_below (g := gbJ) (o := .cells #[.int .i64 tN, .int .i64 tO] 27 (0, 0)) zz28 hb); replace BKI := Aside0.mk (blk_below (g := gbI) (o := .cells #[.int .i64 tK, .int .i64 tM] 27 (0, 0)) zz18 hb); replace HB := Aside0.mk (below_step zz126 hb)))
     go_meet
     case rel => exact ⟨_, (true), zz284, H', ⟨by first | omega | exact Nat.le_refl _⟩, ⟨by (with_reducible repeat (first | apply Kd.R_alloc | apply Kd.R_drewN | apply Kd.R_drew)); exact Kd.R_mono HOE.out (fun _ hk => trivial)⟩, ⟨by (with_reducible repeat (first | apply Kd.R_alloc | apply Kd.R_drewN | apply Kd.R_drew)); exact Kd.R_mono HOD.out (fun _ hk => ⟨hk.1.2, hk.2⟩)⟩, ⟨by (with_reducible repeat (first | refine blk_drewN ?_ _ | refine blk_drew ?_ | refine blk_alloc ?_ _)); exact BKJ.out⟩, ⟨by (with_reducible repeat (first | refine blk_drewN ?_ _ | refine blk_drew ?_ | refine blk_alloc ?_ _)); exact BKI.out⟩, ⟨by repeat (first | (with_reducible first | exact HB.out | apply below_alloc | apply pw_below_drewN | apply below_drew1 | refine below_set ?_ GEJ.out | refine below_set ?_ GEI.out) | exact HB.out)⟩⟩
   case rest =>
    clear HC13; try clear c1
    try clear c2
    try clear p2
    try clear c3
    try clear c4
    try clear c4b0
    try clear c5
    try clear c6
    try clear c6b0
    try clear c8
    try clear c9
    try clear c11
    try clear c12
    try clear c14
    try clear c20
    try clear c21
    try clear c27
    try clear c30
    try clear c31
    try clear c35
    try clear hcz20_0
    try clear hcz20_1
    try clear hcz28_0
    try clear hcz28_1
    try clear hcz32_0
    try clear hcz32_1
    try clear hcz33_0
    try clear hcz33_1
    try clear hcz36_0
    try clear hcz36_1
    try clear hcz37_0
    try clear hcz37_1
    try clear hfz20_0
    try clear hfz20_1
    try clear hfz28_0
    try clear hfz28_1
    try clear hfz32_0
    try clear hfz32_1
    try clear hfz33_0
    try clear hfz33_1
    try clear hfz36_0
    try clear hfz36_1
    try clear hfz37_0
    try clear hfz37_1
    obtain ⟨kq, x48_12, rfl, HA, HJ12, HO_8, HO_9, BKJ, BKI, HB⟩ := hcut; cases kq with
    | zero => exact absurd HA.out (by simp [laws_FnExactShadowBound.j0])
    | succ kj12 =>
     have H := HA.out; clear HA; simp only [laws_FnExactShadowBound.j0] at H; by_cases c39 : x48_12 = true
     ·subst c39; have H1 : (some false) = some r := by rw [if_pos rfl] at H; exact H
      clear H; have H := H1; clear H1; obtain rfl := Option.some.inj H; go_wp2
      go_ret
      exact ⟨zz272, zz126⟩
     ·replace c39 := Bool.eq_false_iff.mpr c39; subst c39; have H1 : ((laws_toPointS.f kj12 l0).bind fun tAH => ((laws_eqPointS.f kj12 tU tAH).bind fun tAI => (if tAI = true then ((laws_toRatS.f kj12 l1).bind fun tAJ => ((laws_eqRatS.f kj12 tV tAJ).bind fun tAK => (if tAK = true then (some true) else (some false)))) else (some false)))) = some r := by rw [if_neg (show ¬ (false = true) by decide)] at H; exact H
      clear H; have H := H1; clear H1; replace H := Option.bind_eq_some_iff.mp H; obtain ⟨tAH, AAL, H⟩ := H; replace H : ((laws_eqPointS.f kj12 tU tAH).bind fun tAI => (if tAI = true then ((laws_toRatS.f kj12 l1).bind fun tAJ => ((laws_eqRatS.f kj12 tV tAJ).bind fun tAK => (if tAK = true then (some true) else (some false)))) else (some false))) = some r := H; have A40 := Aside0.mk AAL; clear AAL; replace H := Option.bind_eq_some_iff.mp H; obtain ⟨tAI, AAM, H⟩ := H; replace H : (if tAI = true then ((laws_toRatS.f kj12 l1).bind fun tAJ => ((laws_eqRatS.f kj12 tV tAJ).bind fun tAK => (if tAK = true then (some true) else (some false)))) else (some false)) = some r := H; have A41 := Aside0.mk AAM; clear AAM; by_cases c42 : tAI = true
      ·subst c42; have H1 : ((laws_toRatS.f kj12 l1).bind fun tAJ => ((laws_eqRatS.f kj12 tV tAJ).bind fun tAK => (if tAK = true then (some true) else (some false)))) = some r := by rw [if_pos rfl] at H; exact H
       clear H; have H := H1; clear H1; replace H := Option.bind_eq_some_iff.mp H; obtain ⟨tAJ, AAN, H⟩ := H; replace H : ((laws_eqRatS.f kj12 tV tAJ).bind fun tAK => (if tAK = true then (some true) else (some false))) = some r := H; have A43 := Aside0.mk AAN; clear AAN; replace H := Option.bind_eq_some_iff.mp H; obtain ⟨tAK, AAO, H⟩ := H; replace H : (if tAK = true then (some true) else (some false)) = some r := H; have A44 := Aside0.mk AAO; clear AAO; by_cases c45 : tAK = true
       ·subst c45; have H1 : (some true) = some r := by rw [if_pos rfl] at H; exact H
        clear H; have H := H1; clear H1; obtain rfl := Option.some.inj H; go_wp2_with (first | ((with_reducible refine gate_callee (f := 11) rfl ?_); refine goesL_ (some 51) rfl rfl Try.func11 (by kernel_rfl) rfl #[.slice A0 l0.length c0] rfl zz196 ?_; (with_reducible refine (laws_toPointS.calls kj12 _ _ l0 tAH _ ?side1 ?side2 A40.out).mono ?_); (case side1 => repeat (first | exact (Kd.C_below HR0.out HB.out) | (with_reducible refine Kd.C_alloc ?_ _) | (with_reducible refine Kd.C_drewN ?_ _) | (with_reducible refine Kd.C_drew ?_))); (case side2 => exact HC0.out); rintro e w46 ⟨vAP, rfl, ho0, hb⟩; refine ⟨_, rfl, ?_⟩; have n0_ := Aside0.mk (Kd.R_elder' zz269 (Kd.R_base ho0) hb); replace HO_9 := Aside0.mk (Kd.R_below zz270 hb); have HOC := Aside0.mk (Kd.R_lower (Kd.R_new' ho0 (Kd.R_lt zz269)) (below_size zz126)); clear HO_8; have HO_8 := n0_; clear n0_; replace BKJ := blkA BKJ hb; replace BKI := blkA BKI hb; replace HB := Aside0.mk (below_step zz126 hb); (try clear hb); (try clear ho0); obtain ⟨Ao47, co47, eo47⟩ := Kd.R_slice HOC.out; subst eo47) | ((with_reducible refine gate_callee (f := 15) rfl ?_); refine goesL_ (some 52) rfl rfl Try.func15 (by kernel_rfl) rfl #[.slice Ao23 tU.length co23, .slice Ao47 tAH.length co47] rfl zz196 ?_; (with_reducible refine (laws_eqPointS.calls kj12 _ _ tU _ _ tAH true _ ?side1 ?side2 ?side3 ?side4 A41.out).mono ?_); (case side1 => repeat (first | exact (Kd.R_reads' HO_8.out).2.2 | (with_reducible refine Kd.C_alloc ?_ _) | (with_reducible refine Kd.C_drewN ?_ _) | (with_reducible refine Kd.C_drew ?_))); (case side2 => exact (Kd.R_reads' HO_8.out).2.1); (case side3 => repeat (first | exact (Kd.R_reads' HOC.out).2.2 | (with_reducible refine Kd.C_alloc ?_ _) | (with_reducible refine Kd.C_drewN ?_ _) | (with_reducible refine Kd.C_drew ?_))); (case side4 => exact (Kd.R_reads' HOC.out).2.1); rintro e w48 ⟨rfl, hb⟩; refine ⟨_, rfl, ?_⟩; replace HO_8 := Aside0.mk (Kd.R_below zz269 hb); replace HO_9 := Aside0.mk (Kd.R_below zz270 hb); replace HOC := Aside0.mk (Kd.R_below zz263 hb); replace BKJ := blkA BKJ hb; replace BKI := blkA BKI hb; replace HB := Aside0.mk (below_step zz126 hb); (try clear hb)) | ((with_reducible refine gate_callee (f := 12) rfl ?_); refine goesL_ (some 56) rfl rfl Try.func12 (by kernel_rfl) rfl #[.slice A1 l1.length c1] rfl zz196 ?_; (with_reducible refine (laws_toRatS.calls kj12 _ _ l1 tAJ _ ?side1 ?side2 A43.out).mono ?_); (case side1 => repeat (first | exact (Kd.C_below HR1.out HB.out) | (with_reducible refine Kd.C_alloc ?_ _) | (with_reducible refine Kd.C_drewN ?_ _) | (with_reducible refine Kd.C_drew ?_))); (case side2 => exact HC1.out); rintro e w49 ⟨vAQ, rfl, ho0, hb⟩; refine ⟨_, rfl, ?_⟩; replace HO_8 := Aside0.mk (Kd.R_below zz269 hb); have n1_ := Aside0.mk (Kd.R_elder' zz270 (Kd.R_base ho0) hb); replace HOC := Aside0.mk (Kd.R_below zz263 hb); have HOA := Aside0.mk (Kd.R_lower (Kd.R_newB (Kd.R_newB (Kd.R_new' ho0 (Kd.R_lt zz270)) (g := gbJ) (o := .cells #[.int .i64 tN, .int .i64 tO] 27 (0, 0)) zz251) (g := gbI) (o := .cells #[.int .i64 tK, .int .i64 tM] 27 (0, 0)) zz252) (below_size zz126)); clear HO_9; have HO_9 := n1_; clear n1_; replace BKJ := blkA BKJ hb; replace BKI := blkA BKI hb; replace HB := Aside0.mk (below_step zz126 hb); (try clear hb); (try clear ho0); obtain ⟨Ao50, co50, eo50⟩ := Kd.R_slice HOA.out; subst eo50) | ((with_reducible refine gate_callee (f := 16) rfl ?_); refine goesL_ (some 57) rfl rfl Try.func16 (by kernel_rfl) rfl #[.slice Ao24 tV.length co24, .slice Ao50 tAJ.length co50] rfl zz196 ?_; (with_reducible refine (laws_eqRatS.calls kj12 _ _ tV _ _ tAJ true _ ?side1 ?side2 ?side3 ?side4 A44.out).mono ?_); (case side1 => repeat (first | exact (Kd.R_reads' HO_9.out).2.2 | (with_reducible refine Kd.C_alloc ?_ _) | (with_reducible refine Kd.C_drewN ?_ _) | (with_reducible refine Kd.C_drew ?_))); (case side2 => exact (Kd.R_reads' HO_9.out).2.1); (case side3 => repeat (first | exact (Kd.R_reads' HOA.out).2.2 | (with_reducible refine Kd.C_alloc ?_ _) | (with_reducible refine Kd.C_drewN ?_ _) | (with_reducible refine Kd.C_drew ?_))); (case side4 => exact (Kd.R_reads' HOA.out).2.1); rintro e w51 ⟨rfl, hb⟩; refine ⟨_, rfl, ?_⟩; replace HO_8 := Aside0.mk (Kd.R_below zz269 hb); replace HO_9 := Aside0.mk (Kd.R_below zz270 hb); replace HOC := Aside0.mk (Kd.R_below zz263 hb); replace HOA := Aside0.mk (Kd.R_below zz264 hb); replace BKJ := blkA BKJ hb; replace BKI := blkA BKI hb; replace HB := Aside0.mk (below_step zz126 hb); (try clear hb)))
        go_ret
        exact ⟨zz272, zz126⟩
       ·replace c45 := Bool.eq_false_iff.mpr c45; subst c45; have H1 : (some false) = some r := by rw [if_neg (show ¬ (false = true) by decide)] at H; exact H
        clear H; have H := H1; clear H1; obtain rfl := Option.some.inj H; go_wp2_with (first | ((with_reducible refine gate_callee (f := 11) rfl ?_); refine goesL_ (some 51) rfl rfl Try.func11 (by kernel_rfl) rfl #[.slice A0 l0.length c0] rfl zz196 ?_; (with_reducible refine (laws_toPointS.calls kj12 _ _ l0 tAH _ ?side1 ?side2 A40.out).mono ?_); (case side1 => repeat (first | exact (Kd.C_below HR0.out HB.out) | (with_reducible refine Kd.C_alloc ?_ _) | (with_reducible refine Kd.C_drewN ?_ _) | (with_reducible refine Kd.C_drew ?_))); (case side2 => exact HC0.out); rintro e w52 ⟨vAP, rfl, ho0, hb⟩; refine ⟨_, rfl, ?_⟩; have n0_ := Aside0.mk (Kd.R_elder' zz269 (Kd.R_base ho0) hb); replace HO_9 := Aside0.mk (Kd.R_below zz270 hb); have HOC := Aside0.mk (Kd.R_lower (Kd.R_new' ho0 (Kd.R_lt zz269)) (below_size zz126)); clear HO_8; have HO_8 := n0_; clear n0_; replace BKJ := blkA BKJ hb; replace BKI := blkA BKI hb; replace HB := Aside0.mk (below_step zz126 hb); (try clear hb); (try clear ho0); obtain ⟨Ao53, co53, eo53⟩ := Kd.R_slice HOC.out; subst eo53) | ((with_reducible refine gate_callee (f := 15) rfl ?_); refine goesL_ (some 52) rfl rfl Try.func15 (by kernel_rfl) rfl #[.slice Ao23 tU.length co23, .slice Ao53 tAH.length co53] rfl zz196 ?_; (with_reducible refine (laws_eqPointS.calls kj12 _ _ tU _ _ tAH true _ ?side1 ?side2 ?side3 ?side4 A41.out).mono ?_); (case side1 => repeat (first | exact (Kd.R_reads' HO_8.out).2.2 | (with_reducible refine Kd.C_alloc ?_ _) | (with_reducible refine Kd.C_drewN ?_ _) | (with_reducible refine Kd.C_drew ?_))); (case side2 => exact (Kd.R_reads' HO_8.out).2.1); (case side3 => repeat (first | exact (Kd.R_reads' HOC.out).2.2 | (with_reducible refine Kd.C_alloc ?_ _) | (with_reducible refine Kd.C_drewN ?_ _) | (with_reducible refine Kd.C_drew ?_))); (case side4 => exact (Kd.R_reads' HOC.out).2.1); rintro e w54 ⟨rfl, hb⟩; refine ⟨_, rfl, ?_⟩; replace HO_8 := Aside0.mk (Kd.R_below zz269 hb); replace HO_9 := Aside0.mk (Kd.R_below zz270 hb); replace HOC := Aside0.mk (Kd.R_below zz263 hb); replace BKJ := blkA BKJ hb; replace BKI := blkA BKI hb; replace HB := Aside0.mk (below_step zz126 hb); (try clear hb)) | ((with_reducible refine gate_callee (f := 12) rfl ?_); refine goesL_ (some 56) rfl rfl Try.func12 (by kernel_rfl) rfl #[.slice A1 l1.length c1] rfl zz196 ?_; (with_reducible refine (laws_toRatS.calls kj12 _ _ l1 tAJ _ ?side1 ?side2 A43.out).mono ?_); (case side1 => repeat (first | exact (Kd.C_below HR1.out HB.out) | (with_reducible refine Kd.C_alloc ?_ _) | (with_reducible refine Kd.C_drewN ?_ _) | (with_reducible refine Kd.C_drew ?_))); (case side2 => exact HC1.out); rintro e w55 ⟨vAQ, rfl, ho0, hb⟩; refine ⟨_, rfl, ?_⟩; replace HO_8 := Aside0.mk (Kd.R_below zz269 hb); have n1_ := Aside0.mk (Kd.R_elder' zz270 (Kd.R_base ho0) hb); replace HOC := Aside0.mk (Kd.R_below zz263 hb); have HOA := Aside0.mk (Kd.R_lower (Kd.R_newB (Kd.R_newB (Kd.R_new' ho0 (Kd.R_lt zz270)) (g := gbJ) (o := .cells #[.int .i64 tN, .int .i64 tO] 27 (0, 0)) zz251) (g := gbI) (o := .cells #[.int .i64 tK, .int .i64 tM] 27 (0, 0)) zz252) (below_size zz126)); clear HO_9; have HO_9 := n1_; clear n1_; replace BKJ := blkA BKJ hb; replace BKI := blkA BKI hb; replace HB := Aside0.mk (below_step zz126 hb); (try clear hb); (try clear ho0); obtain ⟨Ao56, co56, eo56⟩ := Kd.R_slice HOA.out; subst eo56) | ((with_reducible refine gate_callee (f := 16) rfl ?_); refine goesL_ (some 57) rfl rfl Try.func16 (by kernel_rfl) rfl #[.slice Ao24 tV.length co24, .slice Ao56 tAJ.length co56] rfl zz196 ?_; (with_reducible refine (laws_eqRatS.calls kj12 _ _ tV _ _ tAJ false _ ?side1 ?side2 ?side3 ?side4 A44.out).mono ?_); (case side1 => repeat (first | exact (Kd.R_reads' HO_9.out).2.2 | (with_reducible refine Kd.C_alloc ?_ _) | (with_reducible refine Kd.C_drewN ?_ _) | (with_reducible refine Kd.C_drew ?_))); (case side2 => exact (Kd.R_reads' HO_9.out).2.1); (case side3 => repeat (first | exact (Kd.R_reads' HOA.out).2.2 | (with_reducible refine Kd.C_alloc ?_ _) | (with_reducible refine Kd.C_drewN ?_ _) | (with_reducible refine Kd.C_drew ?_))); (case side4 => exact (Kd.R_reads' HOA.out).2.1); rintro e w57 ⟨rfl, hb⟩; refine ⟨_, rfl, ?_⟩; replace HO_8 := Aside0.mk (Kd.R_below zz269 hb); replace HO_9 := Aside0.mk (Kd.R_below zz270 hb); replace HOC := Aside0.mk (Kd.R_below zz263 hb); replace HOA := Aside0.mk (Kd.R_below zz264 hb); replace BKJ := blkA BKJ hb; replace BKI := blkA BKI hb; replace HB := Aside0.mk (below_step zz126 hb); (try clear hb)))
        go_ret
        exact ⟨zz272, zz126⟩
      ·replace c42 := Bool.eq_false_iff.mpr c42; subst c42; have H1 : (some false) = some r := by rw [if_neg (show ¬ (false = true) by decide)] at H; exact H
       clear H; have H := H1; clear H1; obtain rfl := Option.some.inj H; go_wp2_with (first | ((with_reducible refine gate_callee (f := 11) rfl ?_); refine goesL_ (some 51) rfl rfl Try.func11 (by kernel_rfl) rfl #[.slice A0 l0.length c0] rfl zz196 ?_; (with_reducible refine (laws_toPointS.calls kj12 _ _ l0 tAH _ ?side1 ?side2 A40.out).mono ?_); (case side1 => repeat (first | exact (Kd.C_below HR0.out HB.out) | (with_reducible refine Kd.C_alloc ?_ _) | (with_reducible refine Kd.C_drewN ?_ _) | (with_reducible refine Kd.C_drew ?_))); (case side2 => exact HC0.out); rintro e w58 ⟨vAP, rfl, ho0, hb⟩; refine ⟨_, rfl, ?_⟩; have n0_ := Aside0.mk (Kd.R_elder' zz269 (Kd.R_base ho0) hb); replace HO_9 := Aside0.mk (Kd.R_below zz270 hb); have HOC := Aside0.mk (Kd.R_lower (Kd.R_new' ho0 (Kd.R_lt zz269)) (below_size zz126)); clear HO_8; have HO_8 := n0_; clear n0_; replace BKJ := blkA BKJ hb; replace BKI := blkA BKI hb; replace HB := Aside0.mk (below_step zz126 hb); (try clear hb); (try clear ho0); obtain ⟨Ao59, co59, eo59⟩ := Kd.R_slice HOC.out; subst eo59) | ((with_reducible refine gate_callee (f := 15) rfl ?_); refine goesL_ (some 52) rfl rfl Try.func15 (by kernel_rfl) rfl #[.slice Ao23 tU.length co23, .slice Ao59 tAH.length co59] rfl zz196 ?_; (with_reducible refine (laws_eqPointS.calls kj12 _ _ tU _ _ tAH false _ ?side1 ?side2 ?side3 ?side4 A41.out).mono ?_); (case side1 => repeat (first | exact (Kd.R_reads' HO_8.out).2.2 | (with_reducible refine Kd.C_alloc ?_ _) | (with_reducible refine Kd.C_drewN ?_ _) | (with_reducible refine Kd.C_drew ?_))); (case side2 => exact (Kd.R_reads' HO_8.out).2.1); (case side3 => repeat (first | exact (Kd.R_reads' HOC.out).2.2 | (with_reducible refine Kd.C_alloc ?_ _) | (with_reducible refine Kd.C_drewN ?_ _) | (with_reducible refine Kd.C_drew ?_))); (case side4 => exact (Kd.R_reads' HOC.out).2.1); rintro e w60 ⟨rfl, hb⟩; refine ⟨_, rfl, ?_⟩; replace HO_8 := Aside0.mk (Kd.R_below zz269 hb); replace HO_9 := Aside0.mk (Kd.R_below zz270 hb); replace HOC := Aside0.mk (Kd.R_below zz263 hb); replace BKJ := blkA BKJ hb; replace BKI := blkA BKI hb; replace HB := Aside0.mk (below_step zz126 hb); (try clear hb)))
       go_ret
       exact ⟨zz272, zz126⟩
def laws_FnExactShadowBound.Pure : Prop := ∀ (l0 : List (S60)) (l1 : List (S38)), l0.length ≤ maxLen → (∀ x ∈ l0, (((Lit.int .i64 x.f0.f0).wf = true ∧ (Lit.int .i64 x.f0.f1).wf = true) ∧ ((Lit.int .i64 x.f1.f0).wf = true ∧ (Lit.int .i64 x.f1.f1).wf = true))) → l1.length ≤ maxLen → (∀ x ∈ l1, ((Lit.int .i64 x.f0).wf = true ∧ (Lit.int .i64 x.f1).wf = true)) → ∃ k, laws_FnExactShadowBound.f k l0 l1 = some true
end Go.Proofs.Ytlggehdfigkliaa.Q
set_option linter.unusedVariables false
set_option linter.unusedSimpArgs false
namespace Go.Proofs.Ytlggehdfigkliaa.Pu
open Go.RowKit Go.Proofs.Ytlggehdfigkliaa.Q Go.Proofs.YtlggehdfigkliaaW.PrintWords Go.Proofs.YtlggehdfigkliaaW.PrintLast Go.Proofs.YtlggehdfigkliaaW.PrintMore
theorem wr (x : Int) (h : -9223372036854775808 ≤ x ∧ x ≤ 9223372036854775807) : wrap64 x = x := by unfold wrap64; omega
theorem drop_getD {α : Type} (l : List α) (i : Nat) (d : α) (h : i < l.length) : l.drop i = l.getD i d :: l.drop (i + 1) := by
  rw [List.drop_eq_getElem_cons h, List.getD_eq_getElem?_getD, List.getElem?_eq_getElem h]
  rfl
theorem getD_setG {α : Type} (l : List α) (i j : Nat) (v d : α) (hi : i < l.length) : (l.set i v).getD j d = if i = j then v else l.getD j d := by
  simp only [List.getD_eq_getElem?_getD, List.getElem?_set]
  by_cases e : i = j
  · subst e; simp [hi]
  · simp [e]
theorem ext_getDG {α : Type} (d : α) (a b : List α) (hl : a.length = b.length) (h : ∀ j, j < a.length → a.getD j d = b.getD j d) : a = b := by
  apply List.ext_getElem hl
  intro j h1 h2
  have := h j h1
  simpa [List.getD_eq_getElem?_getD, h1, h2] using this
theorem half_lt (b r n : Nat) (hb : b < 2 ^ (n + 1)) (hr : r < b) (h0 : 0 < r) : b % r < 2 ^ n := by
  have h1 : b % r < r := Nat.mod_lt _ h0
  have h2 := Nat.div_add_mod b r
  have h3 : 1 ≤ b / r := (Nat.one_le_div_iff h0).2 (Nat.le_of_lt hr)
  have h4 : r * 1 ≤ r * (b / r) := Nat.mul_le_mul_left r h3
  have h5 : 2 ^ (n + 1) = 2 * 2 ^ n := by rw [Nat.pow_succ]; omega
  omega
theorem gcd_l : ∀ (n k a b : Nat), b < 2 ^ n → 2 * n + 1 < k → impl_greatestDivisor.l0 k (a : Int) (b : Int) = some ((Nat.gcd a b : Nat) : Int) := by
  intro n
  induction n with
  | zero =>
    intro k a b hb hk
    obtain ⟨k, rfl⟩ : ∃ m, k = m + 1 := ⟨k - 1, by omega⟩
    have : b = 0 := by simpa using hb
    subst this
    simp [impl_greatestDivisor.l0]
  | succ n ih =>
    intro k a b hb hk
    obtain ⟨k, rfl⟩ : ∃ m, k = m + 2 := ⟨k - 2, by omega⟩
    simp only [impl_greatestDivisor.l0]
    by_cases h0 : b = 0
    · subst h0; simp
    · rw [if_neg (by omega), ← Int.ofNat_tmod]
      by_cases h1 : a % b = 0
      · rw [h1, if_pos (by rfl), Nat.gcd_comm, Nat.gcd_rec, h1, Nat.gcd_zero_left]
      · rw [if_neg (by omega), ← Int.ofNat_tmod, ih k _ _ (half_lt b (a % b) n hb (Nat.mod_lt _ (by omega)) (by omega)) (by omega)]
        congr 2
        rw [Nat.gcd_comm a b, Nat.gcd_rec b a, Nat.gcd_rec (a % b) b, Nat.gcd_comm]
theorem raCommon_l : ∀ (n k a b : Nat), b < 2 ^ n → 2 * n + 1 < k → spec_raCommon.l0 k (a : Int) (b : Int) = some ((Nat.gcd a b : Nat) : Int) := by
  intro n
  induction n with
  | zero =>
    intro k a b hb hk
    obtain ⟨k, rfl⟩ : ∃ m, k = m + 1 := ⟨k - 1, by omega⟩
    have : b = 0 := by simpa using hb
    subst this
    simp [spec_raCommon.l0]
  | succ n ih =>
    intro k a b hb hk
    obtain ⟨k, rfl⟩ : ∃ m, k = m + 2 := ⟨k - 2, by omega⟩
    simp only [spec_raCommon.l0]
    by_cases h0 : b = 0
    · subst h0; simp
    · rw [if_pos (by omega), if_neg (by omega), ← Int.ofNat_tmod]
      by_cases h1 : a % b = 0
      · rw [h1, if_neg (by simp), Nat.gcd_comm, Nat.gcd_rec, h1, Nat.gcd_zero_left]
      · rw [if_pos (by omega), if_neg (by omega), ← Int.ofNat_tmod, ih k _ _ (half_lt b (a % b) n hb (Nat.mod_lt _ (by omega)) (by omega)) (by omega)]
        congr 2
        rw [Nat.gcd_comm a b, Nat.gcd_rec b a, Nat.gcd_rec (a % b) b, Nat.gcd_comm]
theorem abs_eq (a : Int) (h : -9223372036854775807 ≤ a ∧ a ≤ 9223372036854775807) : impl_abs.f a = some (a.natAbs : Int) := by
  unfold impl_abs.f
  split
  · rw [wr _ (by omega)]; congr 1; omega
  · congr 1; omega
theorem l1Abs_eq (a : Int) (h : -9223372036854775807 ≤ a ∧ a ≤ 9223372036854775807) : spec_l1Abs.f a = some (a.natAbs : Int) := by
  unfold spec_l1Abs.f spec_l1Most.f
  rw [wr _ (by omega)]
  split
  · simp only [Option.bind_some]; congr 1; omega
  · simp only [Option.bind_some]; congr 1; omega
theorem gcd_eq (a b : Int) (ha : -9223372036854775807 ≤ a ∧ a ≤ 9223372036854775807) (hb : -9223372036854775807 ≤ b ∧ b ≤ 9223372036854775807) (k : Nat) (hk : 200 ≤ k) : impl_greatestDivisor.f k a b = some ((Int.gcd a b : Nat) : Int) := by
  unfold impl_greatestDivisor.f
  rw [abs_eq a ha, abs_eq b hb]
  simp only [Option.bind_some]
  rw [gcd_l 64 k _ _ (by omega) (by omega)]
  rfl
def OkR (n d : Int) : Prop := 1 ≤ d ∧ d ≤ 1000000000 ∧ -1000000000 ≤ n ∧ n ≤ 1000000000 ∧ Int.gcd n d = 1
instance (n d : Int) : Decidable (OkR n d) := by unfold OkR; infer_instance
theorem isRat_eq (n d : Int) (k : Nat) (hk : 200 ≤ k) : impl_isRat.f k n d = some (decide (OkR n d)) := by
  unfold impl_isRat.f impl_within.f OkR
  by_cases h1 : 1 ≤ d
  · rw [if_pos h1]
    simp only [Option.bind_some]
    by_cases h2 : d ≤ 1000000000
    · rw [if_pos (by simpa using h2)]
      by_cases h3 : -1000000000 ≤ n
      · rw [if_pos h3]
        simp only [Option.bind_some]
        by_cases h4 : n ≤ 1000000000
        · rw [if_pos (by simpa using h4), gcd_eq n d (by omega) (by omega) k hk]
          simp only [Option.bind_some]
          congr 1
          simp only [h1, h2, h3, h4, true_and]
          rw [Bool.eq_iff_iff]
          simp only [beq_iff_eq, decide_eq_true_eq]
          omega
        · rw [if_neg (by simpa using h4)]; simp [h4]
      · rw [if_neg h3]; simp [h3]
    · rw [if_neg (by simpa using h2)]; simp [h2]
  · rw [if_neg h1]; simp [h1]
theorem raGood_eq (n d : Int) (k : Nat) (hk : 200 ≤ k) : spec_raGood.f k n d = some (decide (OkR n d)) := by
  unfold spec_raGood.f spec_l1In.f OkR
  by_cases h1 : 1 ≤ d
  · rw [if_pos h1]
    simp only [Option.bind_some]
    by_cases h2 : d ≤ 1000000000
    · rw [if_pos (by simpa using h2)]
      by_cases h3 : -1000000000 ≤ n
      · rw [if_pos h3]
        simp only [Option.bind_some]
        by_cases h4 : n ≤ 1000000000
        · rw [if_pos (by simpa using h4), l1Abs_eq n (by omega)]
          simp only [Option.bind_some]
          unfold spec_raCommon.f
          have := raCommon_l 64 k n.natAbs d.natAbs (by omega) (by omega)
          rw [show (d.natAbs : Int) = d by omega] at this
          rw [this]
          simp only [Option.bind_some]
          congr 1
          simp only [h1, h2, h3, h4, true_and]
          rw [Bool.eq_iff_iff, Int.gcd_eq_natAbs_gcd_natAbs]
          simp only [beq_iff_eq, decide_eq_true_eq]
          omega
        · rw [if_neg (by simpa using h4)]; simp [h4]
      · rw [if_neg h3]; simp [h3]
    · rw [if_neg (by simpa using h2)]; simp [h2]
  · rw [if_neg h1]; simp [h1]
def sg (n d : Int) : Int := if d < 0 then -(Int.gcd n d : Int) else (Int.gcd n d : Int)
def mk (n d : Int) : Int × Int × Bool := if OkR (n.tdiv (sg n d)) (d.tdiv (sg n d)) then (n.tdiv (sg n d), d.tdiv (sg n d), true) else (0, 0, false)
theorem tdiv_bd (n q : Int) (h : -9223372036854775807 ≤ n ∧ n ≤ 9223372036854775807) : -9223372036854775808 ≤ n.tdiv q ∧ n.tdiv q ≤ 9223372036854775807 := by
  have h1 := Int.natAbs_tdiv n q
  have h2 : n.natAbs.div q.natAbs ≤ n.natAbs := Nat.div_le_self _ _
  omega
theorem gcd_pos (n d : Int) (hd : d ≠ 0) : 0 < Int.gcd n d := by
  rw [Int.gcd_eq_natAbs_gcd_natAbs]
  exact Nat.gcd_pos_of_pos_right _ (by omega)
theorem gcd_le (n d : Int) (hd : d ≠ 0) : Int.gcd n d ≤ d.natAbs := by
  rw [Int.gcd_eq_natAbs_gcd_natAbs]
  exact Nat.gcd_le_right _ (by omega)
theorem lowest_eq (n d : Int) (hd : d ≠ 0) (hn : -9223372036854775807 ≤ n ∧ n ≤ 9223372036854775807) (hd2 : -9223372036854775807 ≤ d ∧ d ≤ 9223372036854775807) (k : Nat) (hk : 200 ≤ k) : impl_lowest.f k n d = some (mk n d) := by
  unfold impl_lowest.f mk
  have h1 := gcd_pos n d hd
  have h2 := gcd_le n d hd
  rw [gcd_eq n d hn hd2 k hk]
  simp only [Option.bind_some]
  unfold sg
  split
  · rw [wr (-(Int.gcd n d : Int)) (by omega), if_neg (by omega), wr _ (tdiv_bd _ _ hn), wr _ (tdiv_bd _ _ hd2), isRat_eq _ _ k hk]
    simp only [Option.bind_some, decide_eq_true_eq]
    split <;> rfl
  · rw [if_neg (by omega), wr _ (tdiv_bd _ _ hn), wr _ (tdiv_bd _ _ hd2), isRat_eq _ _ k hk]
    simp only [Option.bind_some, decide_eq_true_eq]
    split <;> rfl
theorem raMake_eq (n d : Int) (hd : d ≠ 0) (hn : -9223372036854775807 ≤ n ∧ n ≤ 9223372036854775807) (hd2 : -9223372036854775807 ≤ d ∧ d ≤ 9223372036854775807) (k : Nat) (hk : 200 ≤ k) : spec_raMake.f k n d = some (mk n d) := by
  unfold spec_raMake.f mk
  have h1 := gcd_pos n d hd
  have h2 := gcd_le n d hd
  rw [if_neg hd, l1Abs_eq n hn, l1Abs_eq d hd2]
  simp only [Option.bind_some]
  unfold spec_raCommon.f
  rw [raCommon_l 64 k _ _ (by omega) (by omega)]
  simp only [Option.bind_some]
  rw [← Int.gcd_eq_natAbs_gcd_natAbs]
  unfold sg
  split
  · rw [wr (-(Int.gcd n d : Int)) (by omega), if_neg (by omega), wr _ (tdiv_bd _ _ hn), wr _ (tdiv_bd _ _ hd2), raGood_eq _ _ k hk]
    simp only [Option.bind_some, decide_eq_true_eq]
    split <;> rfl
  · rw [if_neg (by omega), wr _ (tdiv_bd _ _ hn), wr _ (tdiv_bd _ _ hd2), raGood_eq _ _ k hk]
    simp only [Option.bind_some, decide_eq_true_eq]
    split <;> rfl
theorem raMake_zero (n : Int) (k : Nat) : spec_raMake.f k n 0 = some (0, 0, false) := by
  unfold spec_raMake.f
  rw [if_pos rfl]
theorem mk_ok (n d : Int) (h : (mk n d).2.2 = true) : OkR (mk n d).1 (mk n d).2.1 := by
  unfold mk at h ⊢
  split
  · rename_i h1; exact h1
  · rename_i h1; rw [if_neg h1] at h; cases h
theorem mk_bad (n d : Int) (h : (mk n d).2.2 = false) : mk n d = (0, 0, false) := by
  unfold mk at h ⊢
  split
  · rename_i h1; rw [if_pos h1] at h; cases h
  · rfl
theorem natAbs_div_le (n q : Int) : (n.tdiv q).natAbs ≤ n.natAbs := by
  rw [Int.natAbs_tdiv]
  exact Nat.div_le_self _ _
theorem mk_small (n d : Int) (hd : d ≠ 0) (hn : n.natAbs ≤ 1000000000) (hd2 : d.natAbs ≤ 1000000000) : OkR (n.tdiv (sg n d)) (d.tdiv (sg n d)) ∧ (n.tdiv (sg n d)).natAbs ≤ n.natAbs ∧ (d.tdiv (sg n d)).natAbs ≤ d.natAbs ∧ mk n d = (n.tdiv (sg n d), d.tdiv (sg n d), true) := by
  have hg := gcd_pos n d hd
  have e1 : (Int.gcd n d : Int) ∣ n := Int.gcd_dvd_left n d
  have e2 : (Int.gcd n d : Int) ∣ d := Int.gcd_dvd_right n d
  have h1 := natAbs_div_le n (sg n d)
  have h2 := natAbs_div_le d (sg n d)
  have hgo := Int.gcd_ediv_gcd_ediv_gcd hg
  have ok : OkR (n.tdiv (sg n d)) (d.tdiv (sg n d)) := by
    have hpos : 1 ≤ d.tdiv (sg n d) ∧ Int.gcd (n.tdiv (sg n d)) (d.tdiv (sg n d)) = 1 := by
      unfold sg
      split
      · rename_i hneg
        rw [Int.tdiv_neg, Int.tdiv_neg, Int.gcd_neg, Int.neg_gcd, Int.tdiv_eq_ediv_of_dvd e1, Int.tdiv_eq_ediv_of_dvd e2]
        refine ⟨?_, hgo⟩
        obtain ⟨c, hc⟩ := e2
        have : d / (Int.gcd n d : Int) = c := by
          conv => lhs; lhs; rw [hc]
          exact Int.mul_ediv_cancel_left c (by omega)
        rw [this]
        have : c < 0 := by
          rcases Int.lt_or_le c 0 with h | h
          · exact h
          · have := Int.mul_nonneg (show (0 : Int) ≤ (Int.gcd n d : Int) by omega) h
            omega
        omega
      · rename_i hpos
        rw [Int.tdiv_eq_ediv_of_dvd e1, Int.tdiv_eq_ediv_of_dvd e2]
        refine ⟨?_, hgo⟩
        obtain ⟨c, hc⟩ := e2
        have : d / (Int.gcd n d : Int) = c := by
          conv => lhs; lhs; rw [hc]
          exact Int.mul_ediv_cancel_left c (by omega)
        rw [this]
        rcases Int.lt_or_le 0 c with h | h
        · omega
        · have := Int.mul_le_mul_of_nonneg_left h (show (0 : Int) ≤ (Int.gcd n d : Int) by omega)
          rw [Int.mul_zero] at this
          omega
    exact ⟨hpos.1, by omega, by omega, by omega, hpos.2⟩
  exact ⟨ok, h1, h2, by unfold mk; rw [if_pos ok]⟩
end Go.Proofs.Ytlggehdfigkliaa.Pu
set_option linter.unusedVariables false
set_option linter.unusedSimpArgs false
namespace Go.Proofs.Ytlggehdfigkliaa.Pu
open Go.RowKit Go.Proofs.Ytlggehdfigkliaa.Q Go.Proofs.YtlggehdfigkliaaW.PrintWords Go.Proofs.YtlggehdfigkliaaW.PrintLast Go.Proofs.YtlggehdfigkliaaW.PrintMore
theorem rdRat (l : List S27) (i : Nat) : rd_T27 l (i : Int) = l.getD i z27 := by simp [rd_T27]
theorem rdlRat (l : List S38) (i : Nat) : rd_T38 l (i : Int) = l.getD i z38 := by simp [rd_T38]
def cvRat (x : S38) : S27 := ⟨x.f0, x.f1⟩
theorem cvRat_getD (l : List S38) (i : Nat) (h : i < l.length) : (l.map cvRat).getD i z27 = cvRat (l.getD i z38) := by
  simp [List.getD_eq_getElem?_getD, h]
theorem toRatS_l (x0 : List S38) (hb : x0.length ≤ 9000000000000000000) : ∀ (d k : Nat) (x3 : List S27) (i : Nat), i + d = x0.length → x3.length = x0.length → (∀ j, j < i → x3.getD j z27 = cvRat (x0.getD j z38)) → d < k → laws_toRatS.l0 k x0 x3 (i : Int) = some (x0.map cvRat) := by
  intro d
  induction d with
  | zero =>
    intro k x3 i hi hl hj hk
    obtain ⟨k, rfl⟩ : ∃ m, k = m + 1 := ⟨k - 1, by omega⟩
    simp only [laws_toRatS.l0]
    rw [if_neg (by omega), ext_getDG z27 x3 (x0.map cvRat) (by simpa using hl) (fun j h => by rw [hj j (by omega), cvRat_getD _ _ (by omega)])]
  | succ d ih =>
    intro k x3 i hi hl hj hk
    obtain ⟨k, rfl⟩ : ∃ m, k = m + 1 := ⟨k - 1, by omega⟩
    simp only [laws_toRatS.l0, laws_toRat.f, laws_toRat.f, Option.bind_some]
    rw [if_pos (by omega), if_pos (by omega), if_pos (by omega), wr _ (by omega), Int.toNat_natCast, rdlRat]
    refine ih k _ (i + 1) (by omega) (by simpa using hl) (fun j h => ?_) (by omega)
    rw [getD_setG _ _ _ _ _ (by omega)]
    split
    · rename_i e; rw [← e]; rfl
    · exact hj j (by omega)
theorem toRatS (l : List S38) (hb : l.length ≤ 1048576) (k : Nat) (hk : l.length < k) : laws_toRatS.f k l = some (l.map cvRat) := by
  unfold laws_toRatS.f
  rw [if_pos (by omega), if_pos (by omega)]
  exact toRatS_l l (by omega) l.length k _ 0 (by omega) (by simp) (fun j h => by omega) hk
theorem eqRat_self (x : S27) : laws_eqRat.f x.f0 x.f1 x.f0 x.f1 = some true := by
  simp [laws_eqRat.f, laws_eqRat.f]
theorem eqRatS_l (a : List S27) (hb : a.length ≤ 9000000000000000000) : ∀ (d k : Nat) (i : Nat), i + d = a.length → d < k → laws_eqRatS.l0 k a a (i : Int) = some true := by
  intro d
  induction d with
  | zero =>
    intro k i hi hk
    obtain ⟨k, rfl⟩ : ∃ m, k = m + 1 := ⟨k - 1, by omega⟩
    simp only [laws_eqRatS.l0]
    rw [if_neg (by omega)]
  | succ d ih =>
    intro k i hi hk
    obtain ⟨k, rfl⟩ : ∃ m, k = m + 1 := ⟨k - 1, by omega⟩
    simp only [laws_eqRatS.l0, eqRat_self, Option.bind_some]
    rw [if_pos (by omega), if_pos (by omega), if_pos (by omega), wr _ (by omega)]
    exact ih k (i + 1) (by omega) (by omega)
theorem eqRatS_self (a : List S27) (hb : a.length ≤ 9000000000000000000) (k : Nat) (hk : a.length < k) : laws_eqRatS.f k a a = some true := by
  unfold laws_eqRatS.f
  rw [if_pos rfl]
  exact eqRatS_l a hb a.length k 0 (by omega) hk
end Go.Proofs.Ytlggehdfigkliaa.Pu
set_option linter.unusedVariables false
set_option linter.unusedSimpArgs false
namespace Go.Proofs.Ytlggehdfigkliaa.Pu
open Go.RowKit Go.Proofs.Ytlggehdfigkliaa.Q Go.Proofs.YtlggehdfigkliaaW.PrintWords Go.Proofs.YtlggehdfigkliaaW.PrintLast Go.Proofs.YtlggehdfigkliaaW.PrintMore
theorem rdPoint (l : List S57) (i : Nat) : rd_T57 l (i : Int) = l.getD i z57 := by simp [rd_T57]
theorem rdlPoint (l : List S60) (i : Nat) : rd_T60 l (i : Int) = l.getD i z60 := by simp [rd_T60]
def cvPoint (x : S60) : S57 := ⟨⟨x.f0.f0, x.f0.f1⟩, ⟨x.f1.f0, x.f1.f1⟩⟩
theorem cvPoint_getD (l : List S60) (i : Nat) (h : i < l.length) : (l.map cvPoint).getD i z57 = cvPoint (l.getD i z60) := by
  simp [List.getD_eq_getElem?_getD, h]
theorem toPointS_l (x0 : List S60) (hb : x0.length ≤ 9000000000000000000) : ∀ (d k : Nat) (x3 : List S57) (i : Nat), i + d = x0.length → x3.length = x0.length → (∀ j, j < i → x3.getD j z57 = cvPoint (x0.getD j z60)) → d < k → laws_toPointS.l0 k x0 x3 (i : Int) = some (x0.map cvPoint) := by
  intro d
  induction d with
  | zero =>
    intro k x3 i hi hl hj hk
    obtain ⟨k, rfl⟩ : ∃ m, k = m + 1 := ⟨k - 1, by omega⟩
    simp only [laws_toPointS.l0]
    rw [if_neg (by omega), ext_getDG z57 x3 (x0.map cvPoint) (by simpa using hl) (fun j h => by rw [hj j (by omega), cvPoint_getD _ _ (by omega)])]
  | succ d ih =>
    intro k x3 i hi hl hj hk
    obtain ⟨k, rfl⟩ : ∃ m, k = m + 1 := ⟨k - 1, by omega⟩
    simp only [laws_toPointS.l0, laws_toPoint.f, laws_toRat.f, Option.bind_some]
    rw [if_pos (by omega), if_pos (by omega), if_pos (by omega), wr _ (by omega), Int.toNat_natCast, rdlPoint]
    refine ih k _ (i + 1) (by omega) (by simpa using hl) (fun j h => ?_) (by omega)
    rw [getD_setG _ _ _ _ _ (by omega)]
    split
    · rename_i e; rw [← e]; rfl
    · exact hj j (by omega)
theorem toPointS (l : List S60) (hb : l.length ≤ 1048576) (k : Nat) (hk : l.length < k) : laws_toPointS.f k l = some (l.map cvPoint) := by
  unfold laws_toPointS.f
  rw [if_pos (by omega), if_pos (by omega)]
  exact toPointS_l l (by omega) l.length k _ 0 (by omega) (by simp) (fun j h => by omega) hk
theorem eqPoint_self (x : S57) : laws_eqPoint.f x.f0.f0 x.f0.f1 x.f1.f0 x.f1.f1 x.f0.f0 x.f0.f1 x.f1.f0 x.f1.f1 = some true := by
  simp [laws_eqPoint.f, laws_eqRat.f]
theorem eqPointS_l (a : List S57) (hb : a.length ≤ 9000000000000000000) : ∀ (d k : Nat) (i : Nat), i + d = a.length → d < k → laws_eqPointS.l0 k a a (i : Int) = some true := by
  intro d
  induction d with
  | zero =>
    intro k i hi hk
    obtain ⟨k, rfl⟩ : ∃ m, k = m + 1 := ⟨k - 1, by omega⟩
    simp only [laws_eqPointS.l0]
    rw [if_neg (by omega)]
  | succ d ih =>
    intro k i hi hk
    obtain ⟨k, rfl⟩ : ∃ m, k = m + 1 := ⟨k - 1, by omega⟩
    simp only [laws_eqPointS.l0, eqPoint_self, Option.bind_some]
    rw [if_pos (by omega), if_pos (by omega), if_pos (by omega), wr _ (by omega)]
    exact ih k (i + 1) (by omega) (by omega)
theorem eqPointS_self (a : List S57) (hb : a.length ≤ 9000000000000000000) (k : Nat) (hk : a.length < k) : laws_eqPointS.f k a a = some true := by
  unfold laws_eqPointS.f
  rw [if_pos rfl]
  exact eqPointS_l a hb a.length k 0 (by omega) hk
end Go.Proofs.Ytlggehdfigkliaa.Pu
set_option linter.unusedVariables false
set_option linter.unusedSimpArgs false
namespace Go.Proofs.Ytlggehdfigkliaa.Pu
open Go.RowKit Go.Proofs.Ytlggehdfigkliaa.Q Go.Proofs.YtlggehdfigkliaaW.PrintWords Go.Proofs.YtlggehdfigkliaaW.PrintLast Go.Proofs.YtlggehdfigkliaaW.PrintMore
theorem mul_bd (x y : Int) (B C : Nat) (hx : x.natAbs ≤ B) (hy : y.natAbs ≤ C) : (x * y).natAbs ≤ B * C := by
  rw [Int.natAbs_mul]
  exact Nat.mul_le_mul hx hy
def Bd (n d : Int) : Prop := n.natAbs ≤ 1000000000 ∧ d.natAbs ≤ 1000000000
theorem OkR.bd {n d : Int} (h : OkR n d) : Bd n d := by
  obtain ⟨h1, h2, h3, h4, _⟩ := h
  exact ⟨by omega, by omega⟩
theorem cross_bd {a b c d : Int} (h1 : Bd a b) (h2 : Bd c d) : (a * d).natAbs ≤ 1000000000000000000 ∧ (c * b).natAbs ≤ 1000000000000000000 ∧ (b * d).natAbs ≤ 1000000000000000000 ∧ (a * c).natAbs ≤ 1000000000000000000 :=
  ⟨mul_bd a d _ _ h1.1 h2.2, mul_bd c b _ _ h2.1 h1.2, mul_bd b d _ _ h1.2 h2.2, mul_bd a c _ _ h1.1 h2.1⟩
theorem less_eq {a b c d : Int} (h1 : Bd a b) (h2 : Bd c d) : impl_less.f a b c d = some (decide (a * d < c * b)) := by
  obtain ⟨m1, m2, _⟩ := cross_bd h1 h2
  unfold impl_less.f impl_compare.f
  generalize a * d = p at *
  generalize c * b = q at *
  rw [wr p (by omega), wr q (by omega)]
  by_cases h : p < q
  · rw [if_pos h]; simp [h]
  · rw [if_neg h]
    by_cases h3 : p > q
    · rw [if_pos h3]; simp [h]
    · rw [if_neg h3]; simp [h]
theorem raCmp_eq {a b c d : Int} (h1 : Bd a b) (h2 : Bd c d) : ∃ t, spec_raCmp.f a b c d = some t ∧ (t < 0 ↔ a * d < c * b) ∧ (t = 0 ↔ a * d = c * b) := by
  obtain ⟨m1, m2, _⟩ := cross_bd h1 h2
  unfold spec_raCmp.f spec_l1Sign.f
  generalize a * d = p at *
  generalize c * b = q at *
  rw [wr p (by omega), wr q (by omega), wr (p - q) (by omega)]
  by_cases h : p - q > 0
  · rw [if_pos h]
    exact ⟨1, rfl, by omega, by omega⟩
  · rw [if_neg h]
    by_cases h3 : p - q < 0
    · rw [if_pos h3]
      exact ⟨-1, rfl, by omega, by omega⟩
    · rw [if_neg h3]
      exact ⟨0, rfl, by omega, by omega⟩
def OkU (n d : Int) : Prop := OkR n d ∧ 0 ≤ n ∧ n ≤ d
instance (n d : Int) : Decidable (OkU n d) := by unfold OkU; infer_instance
def Co (n d : Int) : Prop := OkU n d ∧ d ≤ 100
instance (n d : Int) : Decidable (Co n d) := by unfold Co; infer_instance
theorem isUnit_eq (n d : Int) (k : Nat) (hk : 200 ≤ k) : impl_isUnit.f k n d = some (decide (OkU n d)) := by
  unfold impl_isUnit.f OkU
  rw [isRat_eq n d k hk]
  simp only [Option.bind_some, decide_eq_true_eq]
  by_cases h : OkR n d
  · rw [if_pos h]
    by_cases h2 : n ≥ 0
    · rw [if_pos h2]; simp [h, h2]
    · rw [if_neg h2]; simp [h2]
  · rw [if_neg h]; simp [h]
theorem raUnit_eq (n d : Int) (k : Nat) (hk : 200 ≤ k) : spec_raUnit.f k n d = some (decide (OkU n d)) := by
  unfold spec_raUnit.f spec_l1In.f OkU
  rw [raGood_eq n d k hk]
  simp only [Option.bind_some, decide_eq_true_eq]
  by_cases h : OkR n d
  · rw [if_pos h]
    by_cases h2 : n ≥ 0
    · rw [if_pos h2]; simp [h, h2]
    · rw [if_neg h2]; simp [h2]
  · rw [if_neg h]; simp [h]
theorem isCoord_eq (n d : Int) (k : Nat) (hk : 200 ≤ k) : impl_isCoord.f k n d = some (decide (Co n d)) := by
  unfold impl_isCoord.f Co
  rw [isUnit_eq n d k hk]
  simp only [Option.bind_some, decide_eq_true_eq]
  by_cases h : OkU n d
  · rw [if_pos h]; simp [h]
  · rw [if_neg h]; simp [h]
theorem imCoord_eq (n d : Int) (k : Nat) (hk : 200 ≤ k) : spec_imCoord.f k n d = some (decide (Co n d)) := by
  unfold spec_imCoord.f Co
  rw [raUnit_eq n d k hk]
  simp only [Option.bind_some, decide_eq_true_eq]
  by_cases h : OkU n d
  · rw [if_pos h]; simp [h]
  · rw [if_neg h]; simp [h]
abbrev Ra := S27
abbrev Pt := S57
def nr (l : List Ra) (i : Nat) : Ra := l.getD i z27
def np (l : List Pt) (i : Nat) : Pt := l.getD i z57
theorem rd_nr (l : List Ra) (i : Nat) : rd_T27 l (i : Int) = nr l i := rdRat l i
theorem rd_np (l : List Pt) (i : Nat) : rd_T57 l (i : Int) = np l i := rdPoint l i
theorem rd_nr0 (l : List Ra) : rd_T27 l 0 = nr l 0 := rdRat l 0
theorem rd_np0 (l : List Pt) : rd_T57 l 0 = np l 0 := rdPoint l 0
theorem nr_mem (l : List Ra) (i : Nat) (h : i < l.length) : nr l i ∈ l := getD_mem l i _ h
theorem np_mem (l : List Pt) (i : Nat) (h : i < l.length) : np l i ∈ l := getD_mem l i _ h
theorem mem_nr (l : List Ra) (x : Ra) (h : x ∈ l) : ∃ i, i < l.length ∧ nr l i = x := by
  obtain ⟨i, hi, e⟩ := List.mem_iff_getElem.1 h
  exact ⟨i, hi, by simp [nr, List.getD_eq_getElem?_getD, hi, e]⟩
theorem mem_np (l : List Pt) (x : Pt) (h : x ∈ l) : ∃ i, i < l.length ∧ np l i = x := by
  obtain ⟨i, hi, e⟩ := List.mem_iff_getElem.1 h
  exact ⟨i, hi, by simp [np, List.getD_eq_getElem?_getD, hi, e]⟩
def Lt (a b : Ra) : Prop := a.f0 * b.f1 < b.f0 * a.f1
instance (a b : Ra) : Decidable (Lt a b) := by unfold Lt; infer_instance
def BdR (a : Ra) : Prop := Bd a.f0 a.f1
theorem rising_l (l : List Ra) (hl : l.length ≤ 1048576) (hb : ∀ x ∈ l, BdR x) : ∀ (d k i : Nat), 1 ≤ i → i + d = l.length ∨ d = 0 ∧ l.length ≤ i ∧ i ≤ 1048577 → d < k →
    ∃ b, impl_isRising.l0 k l (i : Int) = some b ∧ (b = true ↔ ∀ j, i ≤ j → j < l.length → Lt (nr l (j - 1)) (nr l j)) := by
  intro d
  induction d with
  | zero =>
    intro k i h1 hi hk
    obtain ⟨k, rfl⟩ : ∃ m, k = m + 1 := ⟨k - 1, by omega⟩
    simp only [impl_isRising.l0]
    rw [if_neg (by omega)]
    exact ⟨true, rfl, by simp; intro j _ _; omega⟩
  | succ d ih =>
    intro k i h1 hi hk
    obtain ⟨k, rfl⟩ : ∃ m, k = m + 1 := ⟨k - 1, by omega⟩
    simp only [impl_isRising.l0]
    rw [wr (_ - 1) (by omega), wr (_ + 1) (by omega), if_pos (by omega), if_pos (by omega), if_pos (by omega), if_pos (by omega),
      show (i : Int) - 1 = ((i - 1 : Nat) : Int) by omega, show (i : Int) + 1 = ((i + 1 : Nat) : Int) by omega, rd_nr, rd_nr, less_eq (hb _ (nr_mem l _ (by omega))) (hb _ (nr_mem l _ (by omega)))]
    simp only [Option.bind_some, decide_eq_true_eq]
    by_cases h : Lt (nr l (i - 1)) (nr l i)
    · rw [if_pos (show (nr l (i - 1)).f0 * (nr l i).f1 < (nr l i).f0 * (nr l (i - 1)).f1 from h)]
      obtain ⟨b, e, hb2⟩ := ih k (i + 1) (by omega) (by omega) (by omega)
      refine ⟨b, e, hb2.trans ⟨fun hh j hj hl2 => ?_, fun hh j hj hl2 => hh j (by omega) hl2⟩⟩
      by_cases ej : j = i
      · subst ej; exact h
      · exact hh j (by omega) hl2
    · rw [if_neg (show ¬ (nr l (i - 1)).f0 * (nr l i).f1 < (nr l i).f0 * (nr l (i - 1)).f1 from h)]
      exact ⟨false, rfl, by simp; exact ⟨i, Nat.le_refl _, by omega, h⟩⟩
def Rising (l : List Ra) : Prop := ∀ j, 1 ≤ j → j < l.length → Lt (nr l (j - 1)) (nr l j)
theorem rising_eq (l : List Ra) (hl : l.length ≤ 1048576) (hb : ∀ x ∈ l, BdR x) (k : Nat) (hk : l.length < k) : ∃ b, impl_isRising.f k l = some b ∧ (b = true ↔ Rising l) := by
  unfold impl_isRising.f
  exact rising_l l hl hb (l.length - 1) k 1 (by omega) (by omega) (by omega)
theorem xsOf_l (l : List Pt) (hl : l.length ≤ 1048576) : ∀ (d k i : Nat) (out : List Ra), i + d = l.length → out.length ≤ i → d < k → impl_xsOf.l0 k out l (l.length : Int) (i : Int) = some (out ++ (l.drop i).map fun p => p.f0) := by
  intro d
  induction d with
  | zero =>
    intro k i out hi ho hk
    obtain ⟨k, rfl⟩ : ∃ m, k = m + 1 := ⟨k - 1, by omega⟩
    simp only [impl_xsOf.l0]
    rw [if_neg (by omega), List.drop_of_length_le (by omega)]
    simp
  | succ d ih =>
    intro k i out hi ho hk
    obtain ⟨k, rfl⟩ : ∃ m, k = m + 1 := ⟨k - 1, by omega⟩
    simp only [impl_xsOf.l0]
    rw [wr (_ + 1) (by omega), if_pos (by omega), if_pos (by omega), if_pos (by omega), if_pos (by omega), show (i : Int) + 1 = ((i + 1 : Nat) : Int) by omega, rd_np, ih k (i + 1) _ (by omega) (by simp; omega) (by omega),
      drop_getD l i z57 (by omega)]
    simp [np]
theorem xsOf_eq (l : List Pt) (hl : l.length ≤ 1048576) (k : Nat) (hk : l.length < k) : impl_xsOf.f k l = some (l.map fun p => p.f0) := by
  unfold impl_xsOf.f
  have := xsOf_l l hl l.length k 0 [] (by omega) (by simp) hk
  simpa using this
theorem nr_xs (l : List Pt) (i : Nat) (h : i < l.length) : nr (l.map fun p => p.f0) i = (np l i).f0 := by
  simp [nr, np, List.getD_eq_getElem?_getD, h]
def CoP (p : Pt) : Prop := Co p.f0.f0 p.f0.f1 ∧ Co p.f1.f0 p.f1.f1
instance (p : Pt) : Decidable (CoP p) := by unfold CoP; infer_instance
structure IsMap (l : List Pt) : Prop where
  two : 2 ≤ l.length
  most : l.length ≤ 12
  co : ∀ i, i < l.length → CoP (np l i)
  up : ∀ i, 1 ≤ i → i < l.length → Lt (np l (i - 1)).f0 (np l i).f0
  first : (np l 0).f0 = ⟨0, 1⟩
  last : (np l (l.length - 1)).f0 = ⟨1, 1⟩
theorem CoP.bx {p : Pt} (h : CoP p) : BdR p.f0 := h.1.1.1.bd
theorem CoP.by {p : Pt} (h : CoP p) : BdR p.f1 := h.2.1.1.bd
theorem rat_ext {a : Ra} {n d : Int} (h0 : a.f0 = n) (h1 : a.f1 = d) : a = ⟨n, d⟩ := by cases a; simp_all
theorem isMap_eq (l : List Pt) (hl : l.length ≤ 1048576) (k : Nat) (hk : 1000 ≤ k) : ∃ b, impl_isMap.f k l = some b ∧ (b = true ↔ IsMap l) := by
  unfold impl_isMap.f impl_within.f
  obtain ⟨k, rfl⟩ : ∃ m, k = m + 1 := ⟨k - 1, by omega⟩
  by_cases h2 : (2 : Int) ≤ (l.length : Int)
  · rw [if_pos h2]
    simp only [Option.bind_some]
    by_cases h12 : (l.length : Int) ≤ 12
    · rw [if_pos (by simpa using h12)]
      have hc : ContainsFunc_impl_isMap_1.f (k + 1) l = some (l.any fun p => !decide (CoP p)) := by
        unfold ContainsFunc_impl_isMap_1.f
        apply anyS_of
        intro x _
        unfold impl_isMap_1.f
        rw [isCoord_eq _ _ _ (by omega), isCoord_eq _ _ _ (by omega)]
        simp only [Option.bind_some, decide_eq_true_eq]
        by_cases h : Co x.f0.f0 x.f0.f1
        · rw [if_pos h]; simp [CoP, h]
        · rw [if_neg h]; simp [CoP, h]
      rw [hc]
      simp only [Option.bind_some, impl_isMap.j0]
      by_cases ha : (l.any fun p => !decide (CoP p)) = true
      · rw [if_pos ha]
        refine ⟨false, rfl, ⟨fun h => (by cases h), fun hm => ?_⟩⟩
        obtain ⟨x, hx, hn⟩ := List.any_eq_true.1 ha
        obtain ⟨i, hi, e⟩ := mem_np l x hx
        have := hm.co i hi
        rw [e] at this
        simp [this] at hn
      · rw [if_neg ha]
        have hco : ∀ x ∈ l, CoP x := fun x hx => by
          have : ¬ ((!decide (CoP x)) = true) := fun hh => ha (List.any_eq_true.2 ⟨x, hx, hh⟩)
          simpa using this
        rw [if_pos (by omega)]
        unfold impl_zero.f impl_oneRat.f
        simp only [Option.bind_some]
        rw [wr (_ - 1) (by omega), rd_np0, show (l.length : Int) - 1 = ((l.length - 1 : Nat) : Int) by omega, rd_np]
        by_cases hf : ((np l 0).f0.f0 == 0 && (np l 0).f0.f1 == 1) = true
        · rw [if_pos hf, if_pos (by omega), if_pos (by omega)]
          have hf' : (np l 0).f0 = ⟨0, 1⟩ := by
            simp only [Bool.and_eq_true, beq_iff_eq] at hf
            exact rat_ext hf.1 hf.2
          by_cases hg : ((np l (l.length - 1)).f0.f0 == 1 && (np l (l.length - 1)).f0.f1 == 1) = true
          · rw [if_pos hg]
            have hg' : (np l (l.length - 1)).f0 = ⟨1, 1⟩ := by
              simp only [Bool.and_eq_true, beq_iff_eq] at hg
              exact rat_ext hg.1 hg.2
            rw [xsOf_eq l (by omega) _ (by omega)]
            simp only [Option.bind_some]
            obtain ⟨b, e, hb⟩ := rising_eq (l.map fun p => p.f0) (by simp; omega) (fun x hx => by
              obtain ⟨p, hp, rfl⟩ := List.mem_map.1 hx
              exact (hco p hp).bx) k (by simp; omega)
            rw [e]
            refine ⟨b, rfl, hb.trans ⟨fun hr => ⟨by omega, by omega, fun i hi => hco _ (np_mem l i hi), fun i h1 hi => ?_, hf', hg'⟩, fun hm j h1 hj => ?_⟩⟩
            · have := hr i h1 (by simpa using hi)
              rwa [nr_xs _ _ (by omega), nr_xs _ _ hi] at this
            · rw [nr_xs _ _ (by simp at hj; omega), nr_xs _ _ (by simpa using hj)]
              exact hm.up j h1 (by simpa using hj)
          · rw [if_neg hg]
            exact ⟨false, rfl, by simp; intro hm; exact hg (by rw [hm.last]; rfl)⟩
        · rw [if_neg hf]
          exact ⟨false, rfl, by simp; intro hm; exact hf (by rw [hm.first]; rfl)⟩
    · rw [if_neg (by simpa using h12)]
      simp only [impl_isMap.j0, if_true]
      exact ⟨false, rfl, by simp; intro hm; have := hm.most; omega⟩
  · rw [if_neg h2]
    simp only [Option.bind_some, impl_isMap.j0, if_true]
    exact ⟨false, rfl, by simp; intro hm; have := hm.two; omega⟩
theorem imGood_l (l : List Pt) (h2 : 2 ≤ l.length) (h12 : l.length ≤ 12) : ∀ (d k i : Nat), i + d = l.length → (∀ j, j < i → CoP (np l j)) → (∀ j, 1 ≤ j → j < i → Lt (np l (j - 1)).f0 (np l j).f0) → 500 + d < k →
    ∃ b, spec_imGood.l0 k l l (l.length : Int) (i : Int) = some b ∧ (b = true ↔ IsMap l) := by
  intro d
  induction d with
  | zero =>
    intro k i hi hco hup hk
    obtain ⟨k, rfl⟩ : ∃ m, k = m + 1 := ⟨k - 1, by omega⟩
    simp only [spec_imGood.l0, spec_raInt.f, Option.bind_some]
    rw [if_neg (by omega), if_pos (by omega), rd_np0, wr (_ - 1) (by omega), show (l.length : Int) - 1 = ((l.length - 1 : Nat) : Int) by omega, rd_np]
    obtain ⟨t, e, _, h0⟩ := raCmp_eq (hco 0 (by omega)).bx (show Bd 0 1 by unfold Bd; omega)
    obtain ⟨t2, e2, _, h02⟩ := raCmp_eq (hco (l.length - 1) (by omega)).bx (show Bd 1 1 by unfold Bd; omega)
    rw [e, e2]
    simp only [Option.bind_some]
    have c0 := (hco 0 (by omega)).1.1
    have c1 := (hco (l.length - 1) (by omega)).1.1
    by_cases ht : t = 0
    · rw [if_pos ht, if_pos (by omega), if_pos (by omega)]
      refine ⟨_, rfl, ?_⟩
      have hz := h0.1 ht
      have hz0 : (np l 0).f0.f0 = 0 := by omega
      have hf' : (np l 0).f0 = ⟨0, 1⟩ := by
        refine rat_ext hz0 ?_
        have hg := c0.1.2.2.2.2
        have hp := c0.1.1
        rw [hz0, Int.gcd_zero_left] at hg
        omega
      simp only [beq_iff_eq]
      rw [h02]
      constructor
      · intro hh
        have hz1 : (np l (l.length - 1)).f0.f0 = (np l (l.length - 1)).f0.f1 := by omega
        have hg' : (np l (l.length - 1)).f0 = ⟨1, 1⟩ := by
          have hg := c1.1.2.2.2.2
          have hp := c1.1.1
          rw [hz1, Int.gcd_self] at hg
          exact rat_ext (by omega) (by omega)
        exact ⟨by omega, by omega, fun j hj => hco j (by omega), fun j h1 hj => hup j h1 (by omega), hf', hg'⟩
      · intro hm
        rw [hm.last]
    · rw [if_neg ht]
      refine ⟨false, rfl, ⟨fun h => (by cases h), fun hm => absurd (h0.2 (by rw [hm.first])) ht⟩⟩
  | succ d ih =>
    intro k i hi hco hup hk
    obtain ⟨k, rfl⟩ : ∃ m, k = m + 1 := ⟨k - 1, by omega⟩
    simp only [spec_imGood.l0]
    rw [if_pos (by omega), if_pos (by omega), if_pos (by omega), rd_np, imCoord_eq _ _ k (by omega), imCoord_eq _ _ k (by omega)]
    simp only [Option.bind_some, decide_eq_true_eq]
    by_cases hx : Co (np l i).f0.f0 (np l i).f0.f1
    · rw [if_pos hx]
      by_cases hy : Co (np l i).f1.f0 (np l i).f1.f1
      · rw [if_pos hy, wr (_ + 1) (by omega), show (i : Int) + 1 = ((i + 1 : Nat) : Int) by omega]
        have hci : CoP (np l i) := ⟨hx, hy⟩
        have hco' : ∀ j, j < i + 1 → CoP (np l j) := fun j hj => by
          by_cases ej : j = i
          · subst ej; exact hci
          · exact hco j (by omega)
        by_cases h0 : (i : Int) > 0
        · rw [if_pos h0, wr (_ - 1) (by omega), if_pos (by omega), if_pos (by omega), show (i : Int) - 1 = ((i - 1 : Nat) : Int) by omega, rd_np]
          obtain ⟨t, e, hlt, _⟩ := raCmp_eq (hco (i - 1) (by omega)).bx hci.bx
          rw [e]
          simp only [Option.bind_some]
          by_cases ht : t ≥ 0
          · rw [if_pos ht]
            refine ⟨false, rfl, ⟨fun h => (by cases h), fun hm => ?_⟩⟩
            have := hm.up i (by omega) (by omega)
            have := hlt.2 this
            omega
          · rw [if_neg ht]
            refine ih k (i + 1) (by omega) hco' (fun j h1 hj => ?_) (by omega)
            by_cases ej : j = i
            · subst ej; exact hlt.1 (by omega)
            · exact hup j h1 (by omega)
        · rw [if_neg h0]
          exact ih k (i + 1) (by omega) hco' (fun j h1 hj => by omega) (by omega)
      · rw [if_neg hy]
        exact ⟨false, rfl, by simp; intro hm; exact hy (hm.co i (by omega)).2⟩
    · rw [if_neg hx]
      exact ⟨false, rfl, by simp; intro hm; exact hx (hm.co i (by omega)).1⟩
theorem imGood_eq (l : List Pt) (hl : l.length ≤ 1048576) (k : Nat) (hk : 1000 ≤ k) : ∃ b, spec_imGood.f k l = some b ∧ (b = true ↔ IsMap l) := by
  unfold spec_imGood.f spec_l1In.f
  by_cases h2 : (l.length : Int) ≥ 2
  · rw [if_pos h2]
    simp only [Option.bind_some]
    by_cases h12 : (l.length : Int) ≤ 12
    · rw [if_pos (by simpa using h12)]
      exact imGood_l l (by omega) (by omega) l.length k 0 (by omega) (fun j hj => by omega) (fun j _ hj => by omega) (by omega)
    · rw [if_neg (by simpa using h12)]
      exact ⟨false, rfl, by simp; intro hm; have := hm.most; omega⟩
  · rw [if_neg h2]
    simp only [Option.bind_some]
    exact ⟨false, rfl, by simp; intro hm; have := hm.two; omega⟩
open Classical in
noncomputable def mapB (l : List Pt) : Bool := decide (IsMap l)
theorem mapB_iff (l : List Pt) : mapB l = true ↔ IsMap l := by unfold mapB; simp
theorem isMapB (l : List Pt) (hl : l.length ≤ 1048576) (k : Nat) (hk : 1000 ≤ k) : impl_isMap.f k l = some (mapB l) := by
  obtain ⟨b, e, h⟩ := isMap_eq l hl k hk
  rw [e]
  congr 1
  rw [Bool.eq_iff_iff, h, mapB_iff]
theorem imGoodB (l : List Pt) (hl : l.length ≤ 1048576) (k : Nat) (hk : 1000 ≤ k) : spec_imGood.f k l = some (mapB l) := by
  obtain ⟨b, e, h⟩ := imGood_eq l hl k hk
  rw [e]
  congr 1
  rw [Bool.eq_iff_iff, h, mapB_iff]
end Go.Proofs.Ytlggehdfigkliaa.Pu
set_option linter.unusedVariables false
set_option linter.unusedSimpArgs false
namespace Go.Proofs.Ytlggehdfigkliaa.Pu
open Go.RowKit Go.Proofs.Ytlggehdfigkliaa.Q Go.Proofs.YtlggehdfigkliaaW.PrintWords Go.Proofs.YtlggehdfigkliaaW.PrintLast Go.Proofs.YtlggehdfigkliaaW.PrintMore
abbrev Tri := Int × Int × Bool
def kp (s : Bool) (m : Tri) : Tri := if m.2.2 = true then (m.1, m.2.1, s) else (0, 1, true)
theorem keep_eq (s : Bool) (m : Tri) : impl_calc_keep.f s m.1 m.2.1 m.2.2 = some (kp s m) := by
  unfold impl_calc_keep.f kp impl_zero.f
  split <;> rfl
theorem ok_zero : OkR 0 1 := by unfold OkR; decide
theorem kp_ok {s : Bool} {m : Tri} (h : m.2.2 = true → OkR m.1 m.2.1) : OkR (kp s m).1 (kp s m).2.1 := by
  unfold kp
  split
  · rename_i h1; exact h h1
  · exact ok_zero
theorem kp_bad (s : Bool) (m : Tri) : (kp s m).2.2 = (s || !m.2.2) := by
  unfold kp
  cases m.2.2 <;> simp
theorem kp_val {s : Bool} {m : Tri} (h : m.2.2 = true) : kp s m = (m.1, m.2.1, s) := by
  unfold kp
  rw [if_pos h]
theorem areRats2 (a b : Ra) (k : Nat) (hk : 300 ≤ k) : impl_areRats.f k [a, b] = some (decide (OkR a.f0 a.f1) && decide (OkR b.f0 b.f1)) := by
  unfold impl_areRats.f
  obtain ⟨k, rfl⟩ : ∃ m, k = m + 3 := ⟨k - 3, by omega⟩
  have r0 : rd_T27 [a, b] 0 = a := rfl
  have r1 : rd_T27 [a, b] 1 = b := rfl
  simp only [impl_areRats.l0, List.length_cons, List.length_nil]
  rw [if_pos (by decide), if_pos (by decide), if_pos (by decide), r0, isRat_eq _ _ _ (by omega)]
  simp only [Option.bind_some, decide_eq_true_eq]
  by_cases h : OkR a.f0 a.f1
  · rw [if_pos h]
    have e1 : wrap64 (0 + 1) = 1 := wr _ (by decide)
    have e2 : wrap64 (1 + 1) = 2 := wr _ (by decide)
    rw [e1, if_pos (by decide), if_pos (by decide), if_pos (by decide), r1, isRat_eq _ _ _ (by omega)]
    simp only [Option.bind_some, decide_eq_true_eq]
    by_cases h2 : OkR b.f0 b.f1
    · rw [if_pos h2, e2, if_neg (by decide)]
      simp [h, h2]
    · rw [if_neg h2]; simp [h2]
  · rw [if_neg h]; simp [h]
def addT (a b c d : Int) : Tri := mk (a * d + c * b) (b * d)
def subT (a b c d : Int) : Tri := mk (a * d - c * b) (b * d)
def mulT (a b c d : Int) : Tri := mk (a * c) (b * d)
def divT (a b c d : Int) : Tri := if c = 0 then (0, 0, false) else mk (a * d) (b * c)
theorem addT_ok (a b c d : Int) (h : (addT a b c d).2.2 = true) : OkR (addT a b c d).1 (addT a b c d).2.1 := mk_ok _ _ h
theorem subT_ok (a b c d : Int) (h : (subT a b c d).2.2 = true) : OkR (subT a b c d).1 (subT a b c d).2.1 := mk_ok _ _ h
theorem mulT_ok (a b c d : Int) (h : (mulT a b c d).2.2 = true) : OkR (mulT a b c d).1 (mulT a b c d).2.1 := mk_ok _ _ h
theorem den_pos {a b c d : Int} (h1 : OkR a b) (h2 : OkR c d) : b * d ≠ 0 := by
  have := Int.mul_pos (show 0 < b by have := h1.1; omega) (show 0 < d by have := h2.1; omega)
  omega
section
variable {a b c d : Int} (h1 : OkR a b) (h2 : OkR c d) (k : Nat)
include h1 h2
theorem addRats_eq (hk : 300 ≤ k) : impl_AddRats.f k a b c d = some (addT a b c d) := by
  unfold impl_AddRats.f
  rw [areRats2 _ _ k hk, decide_eq_true h1, decide_eq_true h2]
  simp only [Option.bind_some, Bool.and_true, if_true]
  obtain ⟨m1, m2, m3, _⟩ := cross_bd h1.bd h2.bd
  have hd := den_pos h1 h2
  rw [wr (a * d) (by omega), wr (c * b) (by omega), wr (b * d) (by omega), wr _ (by omega), lowest_eq _ _ hd (by omega) (by omega) k (by omega)]
  rfl
theorem raAdd_eq (hk : 300 ≤ k) : spec_raAdd.f k a b c d = some (addT a b c d) := by
  unfold spec_raAdd.f
  obtain ⟨m1, m2, m3, _⟩ := cross_bd h1.bd h2.bd
  have hd := den_pos h1 h2
  rw [wr (a * d) (by omega), wr (c * b) (by omega), wr (b * d) (by omega), wr _ (by omega), raMake_eq _ _ hd (by omega) (by omega) k (by omega)]
  rfl
theorem raSub_eq (hk : 300 ≤ k) : spec_raSub.f k a b c d = some (subT a b c d) := by
  unfold spec_raSub.f
  obtain ⟨m1, m2, m3, _⟩ := cross_bd h1.bd h2.bd
  have hd := den_pos h1 h2
  rw [wr (a * d) (by omega), wr (c * b) (by omega), wr (b * d) (by omega), wr _ (by omega), raMake_eq _ _ hd (by omega) (by omega) k (by omega)]
  rfl
theorem raMul_eq (hk : 300 ≤ k) : spec_raMul.f k a b c d = some (mulT a b c d) := by
  unfold spec_raMul.f
  obtain ⟨m1, m2, m3, m4⟩ := cross_bd h1.bd h2.bd
  have hd := den_pos h1 h2
  rw [wr (a * c) (by omega), wr (b * d) (by omega), raMake_eq _ _ hd (by omega) (by omega) k (by omega)]
  rfl
theorem raDiv_eq (hk : 300 ≤ k) : spec_raDiv.f k a b c d = some (divT a b c d) := by
  unfold spec_raDiv.f divT
  obtain ⟨m1, m2, m3, m4⟩ := cross_bd h1.bd h2.bd
  split
  · rfl
  · rename_i hc
    have hd : b * c ≠ 0 := Int.mul_ne_zero (by have := h1.1; omega) hc
    have m5 := mul_bd b c _ _ h1.bd.2 h2.bd.1
    rw [wr (a * d) (by omega), wr (b * c) (by omega), raMake_eq _ _ hd (by omega) (by omega) k (by omega)]
    rfl
omit h1 in
theorem negated_ok : OkR (-c) d := by
  obtain ⟨e1, e2, e3, e4, e5⟩ := h2
  exact ⟨e1, e2, by omega, by omega, by rw [Int.neg_gcd]; exact e5⟩
theorem subRats_eq (hk : 300 ≤ k) : impl_SubtractRats.f k a b c d = some (subT a b c d) := by
  unfold impl_SubtractRats.f impl_negated.f
  have hb := h2.bd
  simp only [Option.bind_some]
  rw [wr (-c) (by unfold Bd at hb; omega), addRats_eq h1 (negated_ok h2) k hk]
  simp only [Option.bind_some]
  unfold addT subT
  rw [Int.neg_mul]
  rfl
theorem mulRats_eq (hk : 300 ≤ k) : impl_MultiplyRats.f k a b c d = some (mulT a b c d) := by
  unfold impl_MultiplyRats.f
  rw [areRats2 _ _ k hk, decide_eq_true h1, decide_eq_true h2]
  simp only [Option.bind_some, Bool.and_true, if_true]
  obtain ⟨m1, m2, m3, m4⟩ := cross_bd h1.bd h2.bd
  have hd := den_pos h1 h2
  rw [wr (a * c) (by omega), wr (b * d) (by omega), lowest_eq _ _ hd (by omega) (by omega) k (by omega)]
  rfl
theorem divRats_eq (hk : 300 ≤ k) : impl_DivideRats.f k a b c d = some (divT a b c d) := by
  unfold impl_DivideRats.f divT
  rw [areRats2 _ _ k hk, decide_eq_true h1, decide_eq_true h2]
  simp only [Option.bind_some, Bool.and_true, if_true]
  obtain ⟨m1, m2, m3, m4⟩ := cross_bd h1.bd h2.bd
  split
  · rfl
  · rename_i hc
    have hd : b * c ≠ 0 := Int.mul_ne_zero (by have := h1.1; omega) hc
    have m5 := mul_bd b c _ _ h1.bd.2 h2.bd.1
    rw [wr (a * d) (by omega), wr (b * c) (by omega), lowest_eq _ _ hd (by omega) (by omega) k (by omega)]
    rfl
theorem calc_add (s : Bool) (hk : 300 ≤ k) : impl_calc_add.f k s a b c d = some (kp s (addT a b c d)) := by
  unfold impl_calc_add.f
  rw [addRats_eq h1 h2 k hk, Option.bind_some, keep_eq, Option.bind_some]
theorem calc_sub (s : Bool) (hk : 300 ≤ k) : impl_calc_sub.f k s a b c d = some (kp s (subT a b c d)) := by
  unfold impl_calc_sub.f
  rw [subRats_eq h1 h2 k hk, Option.bind_some, keep_eq, Option.bind_some]
theorem calc_mul (s : Bool) (hk : 300 ≤ k) : impl_calc_mul.f k s a b c d = some (kp s (mulT a b c d)) := by
  unfold impl_calc_mul.f
  rw [mulRats_eq h1 h2 k hk, Option.bind_some, keep_eq, Option.bind_some]
theorem calc_div (s : Bool) (hk : 300 ≤ k) : impl_calc_div.f k s a b c d = some (kp s (divT a b c d)) := by
  unfold impl_calc_div.f
  rw [divRats_eq h1 h2 k hk, Option.bind_some, keep_eq, Option.bind_some]
end
def slT (p q : Pt) : Tri := divT (subT q.f1.f0 q.f1.f1 p.f1.f0 p.f1.f1).1 (subT q.f1.f0 q.f1.f1 p.f1.f0 p.f1.f1).2.1 (subT q.f0.f0 q.f0.f1 p.f0.f0 p.f0.f1).1 (subT q.f0.f0 q.f0.f1 p.f0.f0 p.f0.f1).2.1
theorem co_sub {a b c d : Int} (h1 : Co a b) (h2 : Co c d) : (subT a b c d).2.2 = true ∧ OkR (subT a b c d).1 (subT a b c d).2.1 ∧ (subT a b c d).1.natAbs ≤ 10000 ∧ (subT a b c d).2.1.natAbs ≤ 10000 := by
  obtain ⟨⟨⟨b1, b2, _, _, _⟩, b3, b4⟩, b5⟩ := h1
  obtain ⟨⟨⟨d1, d2, _, _, _⟩, d3, d4⟩, d5⟩ := h2
  have m1 := mul_bd a d 100 100 (by omega) (by omega)
  have m2 := mul_bd c b 100 100 (by omega) (by omega)
  have m3 := mul_bd b d 100 100 (by omega) (by omega)
  have n1 := Int.mul_nonneg b3 (show (0 : Int) ≤ d by omega)
  have n2 := Int.mul_nonneg d3 (show (0 : Int) ≤ b by omega)
  have n3 := Int.mul_pos (show (0 : Int) < b by omega) (show (0 : Int) < d by omega)
  unfold subT
  generalize a * d = x at *
  generalize c * b = y at *
  generalize b * d = z at *
  obtain ⟨e1, e2, e3, e4⟩ := mk_small (x - y) z (by omega) (by omega) (by omega)
  rw [e4]
  exact ⟨rfl, e1, by show (Int.tdiv _ _).natAbs ≤ _; omega, by show (Int.tdiv _ _).natAbs ≤ _; omega⟩
theorem sub_ne {a b c d : Int} (h1 : OkR a b) (h2 : OkR c d) (hlt : c * b < a * d) (hok : (subT a b c d).2.2 = true) : (subT a b c d).1 ≠ 0 := by
  have hd := den_pos h1 h2
  unfold subT mk at hok ⊢
  split at hok
  · rename_i h
    rw [if_pos h]
    intro h0
    have h0' : (a * d - c * b).tdiv (sg (a * d - c * b) (b * d)) = 0 := h0
    have hdv : (sg (a * d - c * b) (b * d)) ∣ (a * d - c * b) := by
      unfold sg
      split
      · exact Int.neg_dvd.2 (Int.gcd_dvd_left _ _)
      · exact Int.gcd_dvd_left _ _
    obtain ⟨t, ht⟩ := hdv
    have hs : sg (a * d - c * b) (b * d) ≠ 0 := by
      have := gcd_pos (a * d - c * b) (b * d) hd
      unfold sg
      split <;> omega
    have : (sg (a * d - c * b) (b * d) * t).tdiv (sg (a * d - c * b) (b * d)) = t := Int.mul_tdiv_cancel_left _ hs
    generalize hg : sg (a * d - c * b) (b * d) = g at *
    rw [ht, this] at h0'
    rw [h0', Int.mul_zero] at ht
    omega
  · cases hok
structure Seg (p q : Pt) : Prop where
  cp : CoP p
  cq : CoP q
  lt : Lt p.f0 q.f0
theorem IsMap.seg {l : List Pt} (h : IsMap l) (i : Nat) (hi : i + 1 < l.length) : Seg (np l i) (np l (i + 1)) :=
  ⟨h.co i (by omega), h.co (i + 1) hi, by have := h.up (i + 1) (by omega) hi; rwa [Nat.add_sub_cancel] at this⟩
theorem seg_slope {p q : Pt} (h : Seg p q) : (slT p q).2.2 = true ∧ OkR (slT p q).1 (slT p q).2.1 := by
  obtain ⟨u1, u2, u3, u4⟩ := co_sub h.cq.2 h.cp.2
  obtain ⟨v1, v2, v3, v4⟩ := co_sub h.cq.1 h.cp.1
  have v5 := sub_ne h.cq.1.1.1 h.cp.1.1.1 h.lt v1
  unfold slT
  generalize hx : subT q.f1.f0 q.f1.f1 p.f1.f0 p.f1.f1 = x at *
  generalize hy : subT q.f0.f0 q.f0.f1 p.f0.f0 p.f0.f1 = y at *
  unfold divT
  rw [if_neg v5]
  have m1 := mul_bd x.1 y.2.1 10000 10000 u3 v4
  have m2 := mul_bd x.2.1 y.1 10000 10000 u4 v3
  have hd : x.2.1 * y.1 ≠ 0 := Int.mul_ne_zero (by have := u2.1; omega) v5
  obtain ⟨e1, e2, e3, e4⟩ := mk_small (x.1 * y.2.1) (x.2.1 * y.1) hd (by omega) (by omega)
  rw [e4]
  exact ⟨rfl, e1⟩
theorem slope_eq {p q : Pt} (h : Seg p q) (s : Bool) (k : Nat) (hk : 300 ≤ k) : impl_calc_slope.f k s p.f0.f0 p.f0.f1 p.f1.f0 p.f1.f1 q.f0.f0 q.f0.f1 q.f1.f0 q.f1.f1 = some ((slT p q).1, (slT p q).2.1, s) := by
  obtain ⟨u1, u2, u3, u4⟩ := co_sub h.cq.2 h.cp.2
  obtain ⟨v1, v2, v3, v4⟩ := co_sub h.cq.1 h.cp.1
  unfold impl_calc_slope.f
  rw [calc_sub h.cq.2.1.1 h.cp.2.1.1 k s hk, kp_val u1, Option.bind_some, calc_sub h.cq.1.1.1 h.cp.1.1.1 k s hk, kp_val v1, Option.bind_some, calc_div u2 v2 k s hk, Option.bind_some]
  have := kp_val (s := s) (seg_slope h).1
  unfold slT at this ⊢
  rw [this]
theorem imSlope_eq {p q : Pt} (h : Seg p q) (k : Nat) (hk : 300 ≤ k) : spec_imSlope.f k p.f0.f0 p.f0.f1 p.f1.f0 p.f1.f1 q.f0.f0 q.f0.f1 q.f1.f0 q.f1.f1 = some ((slT p q).1, (slT p q).2.1) := by
  obtain ⟨u1, u2, u3, u4⟩ := co_sub h.cq.2 h.cp.2
  obtain ⟨v1, v2, v3, v4⟩ := co_sub h.cq.1 h.cp.1
  unfold spec_imSlope.f
  rw [raSub_eq h.cq.2.1.1 h.cp.2.1.1 k hk, Option.bind_some, raSub_eq h.cq.1.1.1 h.cp.1.1.1 k hk, Option.bind_some, raDiv_eq u2 v2 k hk, Option.bind_some]
  rfl
end Go.Proofs.Ytlggehdfigkliaa.Pu
set_option linter.unusedVariables false
set_option linter.unusedSimpArgs false
namespace Go.Proofs.Ytlggehdfigkliaa.Pu
open Go.RowKit Go.Proofs.Ytlggehdfigkliaa.Q Go.Proofs.YtlggehdfigkliaaW.PrintWords Go.Proofs.YtlggehdfigkliaaW.PrintLast Go.Proofs.YtlggehdfigkliaaW.PrintMore
structure Rel (s : Bool) (v m : Tri) : Prop where
  ok : OkR v.1 v.2.1
  bad : v.2.2 = (s || !m.2.2)
  val : m.2.2 = true → v.1 = m.1 ∧ v.2.1 = m.2.1
theorem rel_kp {s : Bool} {m : Tri} (h : m.2.2 = true → OkR m.1 m.2.1) : Rel s (kp s m) m :=
  ⟨kp_ok h, kp_bad s m, fun hm => by rw [kp_val hm]; exact ⟨rfl, rfl⟩⟩
def pcq (x0 x1 : Int) (p : Pt) : Bool := !decide (p.f0.f0 * x1 < x0 * p.f0.f1)
def pc (l : List Pt) (x0 x1 : Int) : Nat := (idxOf (pcq x0 x1) l - 1).toNat
theorem imPiece_l (l : List Pt) (x0 x1 : Int) (hm : IsMap l) (hx : OkR x0 x1) (j : Nat) (hj : j < l.length) (h1 : 1 ≤ j) (hq : ¬ (np l j).f0.f0 * x1 < x0 * (np l j).f0.f1) (hlt : ∀ m, m < j → (np l m).f0.f0 * x1 < x0 * (np l m).f0.f1) :
    ∀ (d k i : Nat), i + d = j - 1 → d < k → spec_imPiece.l0 k l (i : Int) x0 x1 = some ((j - 1 : Nat) : Int) := by
  have hmost := hm.most
  intro d
  induction d with
  | zero =>
    intro k i hi hk
    obtain ⟨k, rfl⟩ : ∃ m, k = m + 1 := ⟨k - 1, by omega⟩
    simp only [spec_imPiece.l0]
    rw [wr (_ + 2) (by omega), wr (_ + 1) (by omega)]
    by_cases h2 : (i : Int) + 2 < (l.length : Int)
    · rw [if_pos h2, if_pos (by omega), if_pos (by omega), show (i : Int) + 1 = ((i + 1 : Nat) : Int) by omega, rd_np]
      obtain ⟨t, e, ht, _⟩ := raCmp_eq (hm.co (i + 1) (by omega)).bx hx.bd
      rw [e, Option.bind_some]
      have ej : i + 1 = j := by omega
      rw [ej] at ht
      rw [if_neg (fun h => hq (ht.1 h))]
      congr 1
      omega
    · rw [if_neg h2]
      congr 1
      omega
  | succ d ih =>
    intro k i hi hk
    obtain ⟨k, rfl⟩ : ∃ m, k = m + 1 := ⟨k - 1, by omega⟩
    simp only [spec_imPiece.l0]
    rw [wr (_ + 2) (by omega), wr (_ + 1) (by omega), if_pos (by omega), if_pos (by omega), if_pos (by omega), show (i : Int) + 1 = ((i + 1 : Nat) : Int) by omega, rd_np]
    obtain ⟨t, e, ht, _⟩ := raCmp_eq (hm.co (i + 1) (by omega)).bx hx.bd
    rw [e, Option.bind_some, if_pos (ht.2 (hlt (i + 1) (by omega)))]
    exact ih k (i + 1) (by omega) (by omega)
theorem piece_eq (l : List Pt) (x0 x1 : Int) (hm : IsMap l) (hx : OkU x0 x1) : pc l x0 x1 + 1 < l.length ∧ impl_pieceAt.f l x0 x1 = some (pc l x0 x1 : Int) ∧ (∀ k, 100 ≤ k → spec_imPiece.f k l x0 x1 = some (pc l x0 x1 : Int)) ∧
    (np l (pc l x0 x1)).f0.f0 * x1 ≤ x0 * (np l (pc l x0 x1)).f0.f1 ∧ x0 * (np l (pc l x0 x1 + 1)).f0.f1 ≤ (np l (pc l x0 x1 + 1)).f0.f0 * x1 := by
  have h2 := hm.two
  have hmost := hm.most
  have hne : idxOf (pcq x0 x1) l ≠ -1 := fun h => by
    have := idxOf_neg _ _ h (np l (l.length - 1)) (np_mem l _ (by omega))
    unfold pcq at this
    rw [hm.last] at this
    have h3 := hx.2.2
    simp at this
    omega
  obtain ⟨j, ej, hj, hq, hlt⟩ := idxOf_pos _ _ z57 hne
  have hqj : ¬ (np l j).f0.f0 * x1 < x0 * (np l j).f0.f1 := by
    have : pcq x0 x1 (np l j) = true := hq
    unfold pcq at this
    simpa using this
  have hltj : ∀ m, m < j → (np l m).f0.f0 * x1 < x0 * (np l m).f0.f1 := fun m hmj => by
    have : pcq x0 x1 (np l m) = false := hlt m hmj
    unfold pcq at this
    simpa using this
  have himpl : impl_pieceAt.f l x0 x1 = some (if (j : Int) ≤ 1 then 0 else (j : Int) - 1) := by
    unfold impl_pieceAt.f
    rw [idxS_of (p := pcq x0 x1) (fun p hp => by
      obtain ⟨i, hi, e⟩ := mem_np l p hp
      have hb := (hm.co i hi).bx
      rw [e] at hb
      rw [less_eq hb hx.1.bd]
      rfl)]
    rw [Option.bind_some, ej]
  have hpc : pc l x0 x1 = j - 1 := by
    unfold pc
    rw [ej]
    omega
  rw [hpc]
  rcases Nat.eq_zero_or_pos j with h0 | hpos
  · subst h0
    rw [hm.first] at hqj
    simp at hqj
    have hx0 : x0 = 0 := by have := hx.2.1; omega
    subst hx0
    have hx1 := hx.1.1
    refine ⟨by omega, himpl, fun k hk => ?_, by simp [hm.first], ?_⟩
    · obtain ⟨k, rfl⟩ : ∃ m, k = m + 1 := ⟨k - 1, by omega⟩
      unfold spec_imPiece.f
      simp only [spec_imPiece.l0]
      rw [wr (0 + 2) (by omega), wr (0 + 1) (by omega)]
      by_cases h3 : (0 : Int) + 2 < (l.length : Int)
      · rw [if_pos h3, if_pos (by omega), if_pos (by omega), show (0 : Int) + 1 = ((1 : Nat) : Int) by omega, rd_np]
        obtain ⟨t, e, ht, _⟩ := raCmp_eq (hm.co 1 (by omega)).bx hx.1.bd
        rw [e, Option.bind_some, if_neg (fun h => by
          have h4 := ht.1 h
          have h5 := Int.mul_nonneg (hm.co 1 (by omega)).1.1.2.1 (show (0 : Int) ≤ x1 by omega)
          omega)]
        rfl
      · rw [if_neg h3]; rfl
    · have h5 := Int.mul_nonneg (hm.co (0 - 1 + 1) (by omega)).1.1.2.1 (show (0 : Int) ≤ x1 by omega)
      omega
  · have e1 : j - 1 + 1 = j := by omega
    refine ⟨by omega, ?_, fun k hk => ?_, ?_, ?_⟩
    · rw [himpl]
      congr 1
      split <;> omega
    · unfold spec_imPiece.f
      exact imPiece_l l x0 x1 hm hx.1 j hj hpos hqj hltj (j - 1) k 0 (by omega) (by omega)
    · exact Int.le_of_lt (hltj (j - 1) (by omega))
    · rw [e1]
      omega
def onT (p q : Pt) (x0 x1 : Int) : Tri :=
  if (subT x0 x1 p.f0.f0 p.f0.f1).2.2 = true then
    if (mulT (subT x0 x1 p.f0.f0 p.f0.f1).1 (subT x0 x1 p.f0.f0 p.f0.f1).2.1 (slT p q).1 (slT p q).2.1).2.2 = true then
      addT p.f1.f0 p.f1.f1 (mulT (subT x0 x1 p.f0.f0 p.f0.f1).1 (subT x0 x1 p.f0.f0 p.f0.f1).2.1 (slT p q).1 (slT p q).2.1).1 (mulT (subT x0 x1 p.f0.f0 p.f0.f1).1 (subT x0 x1 p.f0.f0 p.f0.f1).2.1 (slT p q).1 (slT p q).2.1).2.1
    else (0, 0, false)
  else (0, 0, false)
theorem onT_ok {p q : Pt} {x0 x1 : Int} (h : (onT p q x0 x1).2.2 = true) : OkR (onT p q x0 x1).1 (onT p q x0 x1).2.1 := by
  unfold onT at h ⊢
  split at h
  · rename_i h1
    rw [if_pos h1]
    split at h
    · rename_i h2
      rw [if_pos h2]
      exact addT_ok _ _ _ _ h
    · cases h
  · cases h
theorem imOn_eq {p q : Pt} (h : Seg p q) {x0 x1 : Int} (hx : OkR x0 x1) (k : Nat) (hk : 300 ≤ k) : spec_imOn.f k p.f0.f0 p.f0.f1 p.f1.f0 p.f1.f1 q.f0.f0 q.f0.f1 q.f1.f0 q.f1.f1 x0 x1 = some (onT p q x0 x1) := by
  unfold spec_imOn.f onT
  rw [raSub_eq hx h.cp.1.1.1 k hk, Option.bind_some, imSlope_eq h k hk, Option.bind_some]
  have hsl := (seg_slope h).2
  cases hf : (subT x0 x1 p.f0.f0 p.f0.f1).2.2 with
  | true =>
    have hfo := subT_ok _ _ _ _ hf
    rw [raMul_eq hfo hsl k hk, Option.bind_some, if_pos rfl, if_pos rfl]
    cases hu : (mulT (subT x0 x1 p.f0.f0 p.f0.f1).1 (subT x0 x1 p.f0.f0 p.f0.f1).2.1 (slT p q).1 (slT p q).2.1).2.2 with
    | true =>
      rw [if_pos rfl, if_pos rfl, raAdd_eq h.cp.2.1.1 (mulT_ok _ _ _ _ hu) k hk, Option.bind_some]
    | false => rw [if_neg (by decide), if_neg (by decide)]
  | false =>
    have e : subT x0 x1 p.f0.f0 p.f0.f1 = (0, 0, false) := mk_bad _ _ hf
    rw [e]
    unfold spec_raMul.f
    rw [Int.zero_mul, Int.zero_mul, wr 0 (by omega), raMake_zero]
    rfl
theorem line_eq {p q : Pt} (h : Seg p q) {x0 x1 : Int} (hx : OkR x0 x1) (s : Bool) (k : Nat) (hk : 300 ≤ k) : ∃ v, impl_calc_line.f k s p.f0.f0 p.f0.f1 p.f1.f0 p.f1.f1 (slT p q).1 (slT p q).2.1 x0 x1 = some v ∧ Rel s v (onT p q x0 x1) := by
  unfold impl_calc_line.f onT
  have hsl := (seg_slope h).2
  have r1 : Rel s (kp s (subT x0 x1 p.f0.f0 p.f0.f1)) (subT x0 x1 p.f0.f0 p.f0.f1) := rel_kp (subT_ok _ _ _ _)
  rw [calc_sub hx h.cp.1.1.1 k s hk, Option.bind_some]
  generalize kp s (subT x0 x1 p.f0.f0 p.f0.f1) = v1 at r1 ⊢
  generalize subT x0 x1 p.f0.f0 p.f0.f1 = m1 at r1 ⊢
  rw [calc_mul hsl r1.ok k v1.2.2 hk, Option.bind_some]
  have r2 : Rel v1.2.2 (kp v1.2.2 (mulT (slT p q).1 (slT p q).2.1 v1.1 v1.2.1)) (mulT (slT p q).1 (slT p q).2.1 v1.1 v1.2.1) := rel_kp (mulT_ok _ _ _ _)
  have ec : mulT (slT p q).1 (slT p q).2.1 v1.1 v1.2.1 = mulT v1.1 v1.2.1 (slT p q).1 (slT p q).2.1 := by
    unfold mulT
    rw [Int.mul_comm (slT p q).1, Int.mul_comm (slT p q).2.1]
  generalize kp v1.2.2 (mulT (slT p q).1 (slT p q).2.1 v1.1 v1.2.1) = v2 at r2 ⊢
  rw [ec] at r2
  rw [calc_add h.cp.2.1.1 r2.ok k v2.2.2 hk, Option.bind_some]
  have r3 : Rel v2.2.2 (kp v2.2.2 (addT p.f1.f0 p.f1.f1 v2.1 v2.2.1)) (addT p.f1.f0 p.f1.f1 v2.1 v2.2.1) := rel_kp (addT_ok _ _ _ _)
  generalize kp v2.2.2 (addT p.f1.f0 p.f1.f1 v2.1 v2.2.1) = v3 at r3 ⊢
  refine ⟨_, rfl, r3.ok, ?_, ?_⟩
  · show v3.2.2 = _
    rw [r3.bad, r2.bad, r1.bad]
    cases hm1 : m1.2.2 with
    | false => simp
    | true =>
      obtain ⟨e1, e2⟩ := r1.val hm1
      rw [if_pos rfl, e1, e2]
      rw [e1, e2] at r2
      cases hm2 : (mulT m1.1 m1.2.1 (slT p q).1 (slT p q).2.1).2.2 with
      | false => simp
      | true =>
        obtain ⟨e3, e4⟩ := r2.val hm2
        rw [if_pos rfl, e3, e4]
        simp
  · intro hok
    show v3.1 = _ ∧ v3.2.1 = _
    split at hok
    · rename_i hm1
      obtain ⟨e1, e2⟩ := r1.val hm1
      rw [e1, e2] at r2
      rw [if_pos hm1]
      split at hok
      · rename_i hm2
        obtain ⟨e3, e4⟩ := r2.val hm2
        rw [e3, e4] at r3
        rw [if_pos hm2]
        exact r3.val hok
      · cases hok
    · cases hok
def atT (l : List Pt) (x0 x1 : Int) : Tri := onT (np l (pc l x0 x1)) (np l (pc l x0 x1 + 1)) x0 x1
theorem atT_ok {l : List Pt} {x0 x1 : Int} (h : (atT l x0 x1).2.2 = true) : OkR (atT l x0 x1).1 (atT l x0 x1).2.1 := onT_ok h
theorem imAt_eq {l : List Pt} (hm : IsMap l) {x0 x1 : Int} (hx : OkU x0 x1) (k : Nat) (hk : 300 ≤ k) : spec_imAt.f k l x0 x1 = some (atT l x0 x1) := by
  obtain ⟨h1, _, h3, _⟩ := piece_eq l x0 x1 hm hx
  have hmost := hm.most
  unfold spec_imAt.f atT
  rw [h3 k (by omega), Option.bind_some, wr (_ + 1) (by omega), if_pos (by omega), if_pos (by omega), if_pos (by omega), if_pos (by omega), show ((pc l x0 x1 : Nat) : Int) + 1 = ((pc l x0 x1 + 1 : Nat) : Int) by omega, rd_np, rd_np, imOn_eq (hm.seg _ h1) hx.1 k hk, Option.bind_some]
theorem value_eq {l : List Pt} (hm : IsMap l) {x0 x1 : Int} (hx : OkU x0 x1) (s : Bool) (k : Nat) (hk : 300 ≤ k) : ∃ v, impl_calc_value.f k s l x0 x1 = some v ∧ Rel s v (atT l x0 x1) := by
  obtain ⟨h1, h2, _, _⟩ := piece_eq l x0 x1 hm hx
  have hmost := hm.most
  unfold impl_calc_value.f atT
  rw [h2, Option.bind_some, wr (_ + 1) (by omega), if_pos (by omega), if_pos (by omega), if_pos (by omega), if_pos (by omega), show ((pc l x0 x1 : Nat) : Int) + 1 = ((pc l x0 x1 + 1 : Nat) : Int) by omega, rd_np, rd_np, slope_eq (hm.seg _ h1) s k hk, Option.bind_some]
  obtain ⟨v, e, r⟩ := line_eq (hm.seg _ h1) hx.1 s k hk
  exact ⟨v, by rw [e]; rfl, r⟩
theorem distance_eq {a b c d : Int} (h1 : OkR a b) (h2 : OkR c d) (s : Bool) (k : Nat) (hk : 300 ≤ k) : impl_calc_distance.f k s a b c d = some (kp s (if a * d < c * b then subT c d a b else subT a b c d)) := by
  unfold impl_calc_distance.f
  rw [less_eq h1.bd h2.bd, Option.bind_some]
  by_cases h : a * d < c * b
  · rw [if_pos (decide_eq_true h), if_pos h, calc_sub h2 h1 k s hk]; rfl
  · rw [if_neg (by simpa using h), if_neg h, calc_sub h1 h2 k s hk]; rfl
theorem apart_eq {a b c d : Int} (h1 : OkR a b) (h2 : OkR c d) (k : Nat) (hk : 300 ≤ k) : spec_orApart.f k a b c d = some (if a * d < c * b then subT c d a b else subT a b c d) := by
  unfold spec_orApart.f
  obtain ⟨t, e, ht, _⟩ := raCmp_eq h1.bd h2.bd
  rw [e, Option.bind_some]
  by_cases h : a * d < c * b
  · rw [if_pos (ht.2 h), if_pos h, raSub_eq h2 h1 k hk]; rfl
  · rw [if_neg (fun h3 => h (ht.1 h3)), if_neg h, raSub_eq h1 h2 k hk]; rfl
def dsT (a b c d : Int) : Tri := if a * d < c * b then subT c d a b else subT a b c d
theorem dsT_ok (a b c d : Int) (h : (dsT a b c d).2.2 = true) : OkR (dsT a b c d).1 (dsT a b c d).2.1 := by
  unfold dsT at h ⊢
  split
  · rename_i h1; rw [if_pos h1] at h; exact subT_ok _ _ _ _ h
  · rename_i h1; rw [if_neg h1] at h; exact subT_ok _ _ _ _ h
def Units (l : List Ra) : Prop := ∀ x ∈ l, OkU x.f0 x.f1
instance (l : List Ra) : Decidable (Units l) := by unfold Units; infer_instance
theorem areUnits_eq (l : List Ra) (k : Nat) (hk : 300 ≤ k) : impl_areUnits.f k l = some (decide (Units l)) := by
  unfold impl_areUnits.f ContainsFunc_impl_areUnits_1.f
  rw [anyS_of (p := fun x => !decide (OkU x.f0 x.f1)) (fun x _ => by
    unfold impl_areUnits_1.f
    rw [isUnit_eq _ _ k (by omega)]
    rfl), Option.bind_some]
  congr 1
  rw [Bool.eq_iff_iff]
  rw [Bool.not_eq_true', decide_eq_true_eq, ← Bool.not_eq_true, List.any_eq_true]
  constructor
  · intro h x hx
    by_cases hu : OkU x.f0 x.f1
    · exact hu
    · exact absurd ⟨x, hx, by simp [hu]⟩ h
  · rintro h ⟨x, hx, hn⟩
    simp [h x hx] at hn
def Pseudo (l : List Ra) : Prop := 1 ≤ l.length ∧ l.length ≤ 20 ∧ Units l
instance (l : List Ra) : Decidable (Pseudo l) := by unfold Pseudo; infer_instance
theorem isPseudo_eq (l : List Ra) (k : Nat) (hk : 300 ≤ k) : impl_isPseudo.f k l = some (decide (Pseudo l)) := by
  unfold impl_isPseudo.f impl_within.f
  by_cases h1 : (1 : Int) ≤ (l.length : Int)
  · rw [if_pos h1, Option.bind_some]
    by_cases h2 : (l.length : Int) ≤ 20
    · rw [if_pos (by simpa using h2), areUnits_eq l k hk, Option.bind_some]
      congr 1
      rw [Bool.eq_iff_iff, decide_eq_true_eq, decide_eq_true_eq]
      exact ⟨fun h => ⟨by omega, by omega, h⟩, fun h => h.2.2⟩
    · rw [if_neg (by simpa using h2), decide_eq_false (fun h : Pseudo l => h2 (by have := h.2.1; omega))]
  · rw [if_neg h1, Option.bind_some, if_neg (by decide), decide_eq_false (fun h : Pseudo l => h1 (by have := h.1; omega))]
theorem sdGood_l (l : List Ra) (hl : l.length ≤ 1048576) : ∀ (d k i : Nat), i + d = l.length → (∀ j, j < i → OkU (nr l j).f0 (nr l j).f1) → 300 + d < k → spec_sdGood.l0 k l l (l.length : Int) (i : Int) = some (decide (Pseudo l)) := by
  intro d
  induction d with
  | zero =>
    intro k i hi hj hk
    obtain ⟨k, rfl⟩ : ∃ m, k = m + 1 := ⟨k - 1, by omega⟩
    simp only [spec_sdGood.l0, spec_l1In.f]
    rw [if_neg (by omega)]
    have hu : Units l := fun x hx => by
      obtain ⟨i, hi, rfl⟩ := mem_nr l x hx
      exact hj i (by omega)
    by_cases h1 : (l.length : Int) ≥ 1
    · rw [if_pos h1, Option.bind_some]
      congr 1
      rw [Bool.eq_iff_iff, decide_eq_true_eq, decide_eq_true_eq]
      exact ⟨fun h => ⟨by omega, by omega, hu⟩, fun h => by have := h.2.1; omega⟩
    · rw [if_neg h1, Option.bind_some, decide_eq_false (fun h : Pseudo l => h1 (by have := h.1; omega))]
  | succ d ih =>
    intro k i hi hj hk
    obtain ⟨k, rfl⟩ : ∃ m, k = m + 1 := ⟨k - 1, by omega⟩
    simp only [spec_sdGood.l0]
    rw [if_pos (by omega), if_pos (by omega), if_pos (by omega), rd_nr, raUnit_eq _ _ k (by omega), Option.bind_some]
    by_cases h : OkU (nr l i).f0 (nr l i).f1
    · rw [if_pos (decide_eq_true h), wr (_ + 1) (by omega), show (i : Int) + 1 = ((i + 1 : Nat) : Int) by omega]
      refine ih k (i + 1) (by omega) (fun j hj2 => ?_) (by omega)
      by_cases e : j = i
      · subst e; exact h
      · exact hj j (by omega)
    · rw [if_neg (by simpa using h), decide_eq_false (fun hp : Pseudo l => h (hp.2.2 _ (nr_mem l i (by omega))))]
theorem sdGood_eq (l : List Ra) (hl : l.length ≤ 1048576) (k : Nat) (hk : 1048576 + 400 ≤ k) : spec_sdGood.f k l = some (decide (Pseudo l)) := by
  unfold spec_sdGood.f
  exact sdGood_l l hl l.length k 0 (by omega) (fun j hj => by omega) (by omega)
theorem sdAsked_eq (f : List Pt) (l : List Ra) (hf : f.length ≤ 1048576) (hl : l.length ≤ 1048576) (k : Nat) (hk : 1048576 + 400 ≤ k) : spec_sdAsked.f k f l = some (mapB f && decide (Pseudo l)) := by
  unfold spec_sdAsked.f
  rw [imGoodB f hf k (by omega), Option.bind_some]
  cases h : mapB f with
  | true => rw [if_pos rfl, sdGood_eq l hl k hk]; rfl
  | false => rfl
theorem Pseudo.unit {l : List Ra} (h : Pseudo l) (i : Nat) (hi : i < l.length) : OkU (nr l i).f0 (nr l i).f1 := h.2.2 _ (nr_mem l i hi)
end Go.Proofs.Ytlggehdfigkliaa.Pu
set_option linter.unusedVariables false
set_option linter.unusedSimpArgs false
namespace Go.Proofs.Ytlggehdfigkliaa.Pu
open Go.RowKit Go.Proofs.Ytlggehdfigkliaa.Q Go.Proofs.YtlggehdfigkliaaW.PrintWords Go.Proofs.YtlggehdfigkliaaW.PrintLast Go.Proofs.YtlggehdfigkliaaW.PrintMore
def jumpT (f : List Pt) (l : List Ra) (i : Nat) : Tri :=
  if (atT f (nr l (i - 1)).f0 (nr l (i - 1)).f1).2.2 = true then dsT (atT f (nr l (i - 1)).f0 (nr l (i - 1)).f1).1 (atT f (nr l (i - 1)).f0 (nr l (i - 1)).f1).2.1 (nr l i).f0 (nr l i).f1 else (0, 0, false)
theorem jumpT_ok {f : List Pt} {l : List Ra} {i : Nat} (h : (jumpT f l i).2.2 = true) : OkR (jumpT f l i).1 (jumpT f l i).2.1 := by
  unfold jumpT at h ⊢
  split
  · rename_i h1; rw [if_pos h1] at h; exact dsT_ok _ _ _ _ h
  · rename_i h1; rw [if_neg h1] at h; cases h
def jumpsO (f : List Pt) (l : List Ra) : Nat → Nat → List Ra → Option (List Ra)
  | 0, _, out => some out
  | d + 1, i, out => if (jumpT f l i).2.2 = true then jumpsO f l d (i + 1) (out ++ [⟨(jumpT f l i).1, (jumpT f l i).2.1⟩]) else none
theorem jumpsO_len (f : List Pt) (l : List Ra) : ∀ d i out o, jumpsO f l d i out = some o → o.length = out.length + d := by
  intro d
  induction d with
  | zero => intro i out o h; simp [jumpsO] at h; subst h; rfl
  | succ d ih =>
    intro i out o h
    unfold jumpsO at h
    split at h
    · have := ih _ _ _ h; simp at this; omega
    · cases h
theorem jumpsO_ok (f : List Pt) (l : List Ra) : ∀ d i out o, (∀ x ∈ out, OkR x.f0 x.f1) → jumpsO f l d i out = some o → ∀ x ∈ o, OkR x.f0 x.f1 := by
  intro d
  induction d with
  | zero => intro i out o ho h; simp [jumpsO] at h; subst h; exact ho
  | succ d ih =>
    intro i out o ho h
    unfold jumpsO at h
    split at h
    · rename_i hj
      refine ih _ _ _ (fun x hx => ?_) h
      rcases List.mem_append.1 hx with hx | hx
      · exact ho x hx
      · rw [List.mem_singleton.1 hx]; exact jumpT_ok hj
    · cases h
def retO (o : Option (List Ra)) : List Ra × Bool := match o with | some l => (l, true) | none => ([], false)
theorem spec_jumps_l (f : List Pt) (l : List Ra) (hm : IsMap f) (hp : Pseudo l) : ∀ (d k i : Nat) (out : List Ra), 1 ≤ i → i + d = l.length ∨ d = 0 ∧ i = l.length → out.length ≤ i → 400 + d < k →
    spec_sdJumps.l0 k f l out (i : Int) = some (retO (jumpsO f l d i out)) := by
  have h20 := hp.2.1
  intro d
  induction d with
  | zero =>
    intro k i out h1 hi ho hk
    obtain ⟨k, rfl⟩ : ∃ m, k = m + 1 := ⟨k - 1, by omega⟩
    simp only [spec_sdJumps.l0]
    rw [if_neg (by omega)]
    rfl
  | succ d ih =>
    intro k i out h1 hi ho hk
    obtain ⟨k, rfl⟩ : ∃ m, k = m + 1 := ⟨k - 1, by omega⟩
    simp only [spec_sdJumps.l0]
    rw [wr (_ - 1) (by omega), wr (_ + 1) (by omega), if_pos (by omega), if_pos (by omega), if_pos (by omega), show (i : Int) - 1 = ((i - 1 : Nat) : Int) by omega, show (i : Int) + 1 = ((i + 1 : Nat) : Int) by omega, rd_nr, rd_nr,
      imAt_eq hm (hp.unit (i - 1) (by omega)) k (by omega), Option.bind_some]
    unfold jumpsO jumpT
    cases ha : (atT f (nr l (i - 1)).f0 (nr l (i - 1)).f1).2.2 with
    | false => simp [retO]
    | true =>
      rw [if_pos rfl, if_pos rfl, if_pos (by omega), apart_eq (atT_ok ha) (hp.unit i (by omega)).1 k (by omega), Option.bind_some]
      have ed : (if (atT f (nr l (i - 1)).f0 (nr l (i - 1)).f1).1 * (nr l i).f1 < (nr l i).f0 * (atT f (nr l (i - 1)).f0 (nr l (i - 1)).f1).2.1 then subT (nr l i).f0 (nr l i).f1 (atT f (nr l (i - 1)).f0 (nr l (i - 1)).f1).1 (atT f (nr l (i - 1)).f0 (nr l (i - 1)).f1).2.1
          else subT (atT f (nr l (i - 1)).f0 (nr l (i - 1)).f1).1 (atT f (nr l (i - 1)).f0 (nr l (i - 1)).f1).2.1 (nr l i).f0 (nr l i).f1) = dsT (atT f (nr l (i - 1)).f0 (nr l (i - 1)).f1).1 (atT f (nr l (i - 1)).f0 (nr l (i - 1)).f1).2.1 (nr l i).f0 (nr l i).f1 := rfl
      rw [ed]
      cases hd : (dsT (atT f (nr l (i - 1)).f0 (nr l (i - 1)).f1).1 (atT f (nr l (i - 1)).f0 (nr l (i - 1)).f1).2.1 (nr l i).f0 (nr l i).f1).2.2 with
      | false => rw [if_neg (by decide), if_neg (by decide)]; rfl
      | true =>
        rw [if_pos rfl, if_pos rfl, if_pos (by omega)]
        exact ih k (i + 1) _ (by omega) (by omega) (by simp; omega) (by omega)
theorem impl_jumps_l (f : List Pt) (l : List Ra) (hm : IsMap f) (hp : Pseudo l) : ∀ (d k i : Nat) (out : List Ra) (s : Bool), 1 ≤ i → i + d = l.length ∨ d = 0 ∧ i = l.length → out.length ≤ i → 400 + d < k →
    ∃ o t, impl_calc_jumps.l0 k f l out (i : Int) s = some (o, t) ∧ (s = true → t = true) ∧ (s = false → t = (jumpsO f l d i out).isNone ∧ ∀ z, jumpsO f l d i out = some z → o = z) := by
  have h20 := hp.2.1
  intro d
  induction d with
  | zero =>
    intro k i out s h1 hi ho hk
    obtain ⟨k, rfl⟩ : ∃ m, k = m + 1 := ⟨k - 1, by omega⟩
    simp only [impl_calc_jumps.l0]
    rw [if_neg (by omega)]
    exact ⟨out, s, rfl, fun h => h, fun h => ⟨h, fun z hz => by simp [jumpsO] at hz; exact hz⟩⟩
  | succ d ih =>
    intro k i out s h1 hi ho hk
    obtain ⟨k, rfl⟩ : ∃ m, k = m + 1 := ⟨k - 1, by omega⟩
    simp only [impl_calc_jumps.l0]
    rw [wr (_ - 1) (by omega), wr (_ + 1) (by omega), if_pos (by omega), if_pos (by omega), if_pos (by omega), show (i : Int) - 1 = ((i - 1 : Nat) : Int) by omega, show (i : Int) + 1 = ((i + 1 : Nat) : Int) by omega, rd_nr, rd_nr]
    obtain ⟨v, e, r⟩ := value_eq hm (hp.unit (i - 1) (by omega)) s k (by omega)
    rw [e, Option.bind_some, if_pos (by omega), distance_eq r.ok (hp.unit i (by omega)).1 v.2.2 k (by omega), Option.bind_some, if_pos (by omega)]
    have r2 : Rel v.2.2 (kp v.2.2 (dsT v.1 v.2.1 (nr l i).f0 (nr l i).f1)) (dsT v.1 v.2.1 (nr l i).f0 (nr l i).f1) := rel_kp (dsT_ok _ _ _ _)
    have ed : (if v.1 * (nr l i).f1 < (nr l i).f0 * v.2.1 then subT (nr l i).f0 (nr l i).f1 v.1 v.2.1 else subT v.1 v.2.1 (nr l i).f0 (nr l i).f1) = dsT v.1 v.2.1 (nr l i).f0 (nr l i).f1 := rfl
    rw [ed]
    generalize hw : kp v.2.2 (dsT v.1 v.2.1 (nr l i).f0 (nr l i).f1) = w at r2 ⊢
    obtain ⟨o, t, e2, ht, hf⟩ := ih k (i + 1) (out ++ [⟨w.1, w.2.1⟩]) w.2.2 (by omega) (by omega) (by simp; omega) (by omega)
    refine ⟨o, t, e2, fun hs => ?_, fun hs => ?_⟩
    · apply ht
      rw [r2.bad, r.bad, hs]
      rfl
    · subst hs
      have rb := r.bad
      unfold jumpsO jumpT
      cases ha : (atT f (nr l (i - 1)).f0 (nr l (i - 1)).f1).2.2 with
      | false =>
        rw [ha] at rb
        simp only [Bool.false_eq_true, if_false]
        have : w.2.2 = true := by rw [r2.bad, rb]; rfl
        exact ⟨ht this, fun z hz => by cases hz⟩
      | true =>
        rw [ha] at rb
        obtain ⟨v1, v2⟩ := r.val ha
        rw [v1, v2] at r2
        rw [if_pos rfl]
        have r2b := r2.bad
        rw [rb] at r2b
        cases hd : (dsT (atT f (nr l (i - 1)).f0 (nr l (i - 1)).f1).1 (atT f (nr l (i - 1)).f0 (nr l (i - 1)).f1).2.1 (nr l i).f0 (nr l i).f1).2.2 with
        | false =>
          rw [hd] at r2b
          rw [if_neg (by decide)]
          exact ⟨ht r2b, fun z hz => by cases hz⟩
        | true =>
          rw [hd] at r2b
          obtain ⟨w1, w2⟩ := r2.val hd
          rw [if_pos rfl, ← w1, ← w2]
          exact hf r2b
noncomputable def jumpsR (f : List Pt) (l : List Ra) : List Ra × Bool := if mapB f = true ∧ Pseudo l then retO (jumpsO f l (l.length - 1) 1 []) else ([], false)
theorem sdJumps_eq (f : List Pt) (l : List Ra) (hm : mapB f = true) (hp : Pseudo l) (k : Nat) (hk : 1000 ≤ k) : spec_sdJumps.f k f l = some (retO (jumpsO f l (l.length - 1) 1 [])) := by
  unfold spec_sdJumps.f
  have h1 := hp.1
  have := spec_jumps_l f l ((mapB_iff f).1 hm) hp (l.length - 1) k 1 [] (by omega) (by omega) (by simp) (by have := hp.2.1; omega)
  rw [show ((1 : Nat) : Int) = 1 from rfl] at this
  exact this
theorem implJumps_eq (f : List Pt) (l : List Ra) (hf : f.length ≤ 1048576) (hl : l.length ≤ 1048576) (k : Nat) (hk : 2000000 ≤ k) : impl_JumpsOf.f k f l = some (jumpsR f l) := by
  unfold impl_JumpsOf.f jumpsR
  obtain ⟨k, rfl⟩ : ∃ m, k = m + 1 := ⟨k - 1, by omega⟩
  rw [isMapB f hf (k + 1) (by omega), Option.bind_some]
  cases hmb : mapB f with
  | false =>
    rw [if_neg (by decide)]
    simp only [impl_JumpsOf.j0, if_true]
    simp
  | true =>
    rw [if_pos rfl, isPseudo_eq l (k + 1) (by omega), Option.bind_some]
    by_cases hp : Pseudo l
    · rw [decide_eq_true hp, if_pos ⟨rfl, hp⟩]
      simp only [impl_JumpsOf.j0]
      rw [if_neg (by decide)]
      have h1 := hp.1
      obtain ⟨o, t, e, _, ht⟩ := impl_jumps_l f l ((mapB_iff f).1 hmb) hp (l.length - 1) k 1 [] false (by omega) (by omega) (by simp) (by have := hp.2.1; omega)
      rw [show ((1 : Nat) : Int) = 1 from rfl] at e
      unfold impl_calc_jumps.f
      rw [e, Option.bind_some]
      obtain ⟨ht1, ht2⟩ := ht rfl
      cases hj : jumpsO f l (l.length - 1) 1 [] with
      | none =>
        have ht3 : t = true := by rw [ht1, hj]; rfl
        subst ht3
        rfl
      | some z =>
        have ht3 : t = false := by rw [ht1, hj]; rfl
        rw [ht3, ht2 z hj]
        rfl
    · rw [decide_eq_false hp, if_neg (fun h => hp h.2)]
      simp only [impl_JumpsOf.j0]
      rw [if_pos (by rfl)]
end Go.Proofs.Ytlggehdfigkliaa.Pu
set_option linter.unusedVariables false
set_option linter.unusedSimpArgs false
namespace Go.Proofs.Ytlggehdfigkliaa.Pu
open Go.RowKit Go.Proofs.Ytlggehdfigkliaa.Q Go.Proofs.YtlggehdfigkliaaW.PrintWords Go.Proofs.YtlggehdfigkliaaW.PrintLast Go.Proofs.YtlggehdfigkliaaW.PrintMore
def slR (f : List Pt) (i : Nat) : Ra := ⟨(slT (np f (i - 1)) (np f i)).1, (slT (np f (i - 1)) (np f i)).2.1⟩
def slFrom (f : List Pt) (d i : Nat) : List Ra := (List.range d).map fun (j : Nat) => slR f (i + j)
theorem slFrom_succ (f : List Pt) (d i : Nat) : slFrom f (d + 1) i = slR f i :: slFrom f d (i + 1) := by
  unfold slFrom
  rw [List.range_succ_eq_map, List.map_cons, List.map_map]
  congr 1
  apply List.map_congr_left
  intro j _
  simp only [Function.comp]
  congr 1
  omega
def slAll (f : List Pt) : List Ra := slFrom f (f.length - 1) 1
theorem slAll_length (f : List Pt) : (slAll f).length = f.length - 1 := by simp [slAll, slFrom]
theorem slR_ok {f : List Pt} (hm : IsMap f) (i : Nat) (h1 : 1 ≤ i) (hi : i < f.length) : OkR (slR f i).f0 (slR f i).f1 := by
  have := (seg_slope (hm.seg (i - 1) (by omega))).2
  rw [show i - 1 + 1 = i by omega] at this
  exact this
theorem slAll_ok {f : List Pt} (hm : IsMap f) : ∀ x ∈ slAll f, OkR x.f0 x.f1 := by
  intro x hx
  obtain ⟨j, hj, rfl⟩ := List.mem_map.1 hx
  have := List.mem_range.1 hj
  exact slR_ok hm (1 + j) (by omega) (by omega)
theorem impl_slopes_l (f : List Pt) (hm : IsMap f) : ∀ (d k i : Nat) (out : List Ra), 1 ≤ i → i + d = f.length → out.length ≤ i → 400 + d < k → impl_slopes.l0 k f out (i : Int) false = some (out ++ slFrom f d i) := by
  have h12 := hm.most
  intro d
  induction d with
  | zero =>
    intro k i out h1 hi ho hk
    obtain ⟨k, rfl⟩ : ∃ m, k = m + 1 := ⟨k - 1, by omega⟩
    simp only [impl_slopes.l0]
    rw [if_neg (by omega)]
    simp [slFrom]
  | succ d ih =>
    intro k i out h1 hi ho hk
    obtain ⟨k, rfl⟩ : ∃ m, k = m + 1 := ⟨k - 1, by omega⟩
    simp only [impl_slopes.l0]
    have hs := hm.seg (i - 1) (by omega)
    rw [show i - 1 + 1 = i by omega] at hs
    rw [wr (_ - 1) (by omega), wr (_ + 1) (by omega), if_pos (by omega), if_pos (by omega), if_pos (by omega), if_pos (by omega), show (i : Int) - 1 = ((i - 1 : Nat) : Int) by omega, show (i : Int) + 1 = ((i + 1 : Nat) : Int) by omega, rd_np, rd_np, slope_eq hs false k (by omega), Option.bind_some, if_pos (by omega), slFrom_succ]
    rw [ih k (i + 1) _ (by omega) (by omega) (by simp; omega) (by omega)]
    simp [slR]
theorem impl_slopes_eq (f : List Pt) (hm : IsMap f) (k : Nat) (hk : 1000 ≤ k) : impl_slopes.f k f = some (slAll f) := by
  unfold impl_slopes.f slAll
  have h2 := hm.two
  have := impl_slopes_l f hm (f.length - 1) k 1 [] (by omega) (by omega) (by simp) (by have := hm.most; omega)
  simpa using this
theorem spec_slopes_l (f : List Pt) (hm : IsMap f) : ∀ (d k i : Nat) (out : List Ra), 1 ≤ i → i + d = f.length → out.length ≤ i → 400 + d < k → spec_imSlopes.l0 k f out (i : Int) = some (out ++ slFrom f d i) := by
  have h12 := hm.most
  intro d
  induction d with
  | zero =>
    intro k i out h1 hi ho hk
    obtain ⟨k, rfl⟩ : ∃ m, k = m + 1 := ⟨k - 1, by omega⟩
    simp only [spec_imSlopes.l0]
    rw [if_neg (by omega)]
    simp [slFrom]
  | succ d ih =>
    intro k i out h1 hi ho hk
    obtain ⟨k, rfl⟩ : ∃ m, k = m + 1 := ⟨k - 1, by omega⟩
    simp only [spec_imSlopes.l0]
    have hs := hm.seg (i - 1) (by omega)
    rw [show i - 1 + 1 = i by omega] at hs
    rw [wr (_ - 1) (by omega), wr (_ + 1) (by omega), if_pos (by omega), if_pos (by omega), if_pos (by omega), if_pos (by omega), show (i : Int) - 1 = ((i - 1 : Nat) : Int) by omega, show (i : Int) + 1 = ((i + 1 : Nat) : Int) by omega, rd_np, rd_np, imSlope_eq hs k (by omega), Option.bind_some, if_pos (by omega), slFrom_succ]
    rw [ih k (i + 1) _ (by omega) (by omega) (by simp; omega) (by omega)]
    simp [slR]
theorem spec_slopes_eq (f : List Pt) (hm : IsMap f) (k : Nat) (hk : 1000 ≤ k) : spec_imSlopes.f k f = some (slAll f) := by
  unfold spec_imSlopes.f slAll
  have h2 := hm.two
  have := spec_slopes_l f hm (f.length - 1) k 1 [] (by omega) (by omega) (by simp) (by have := hm.most; omega)
  simpa using this
theorem same_rat {a b c d : Int} (h1 : OkR a b) (h2 : OkR c d) (h : a * d = c * b) : a = c ∧ b = d := by
  obtain ⟨b1, _, _, _, hg1⟩ := h1
  obtain ⟨d1, _, _, _, hg2⟩ := h2
  have hn : a.natAbs * d.natAbs = c.natAbs * b.natAbs := by rw [← Int.natAbs_mul, ← Int.natAbs_mul, h]
  rw [Int.gcd_eq_natAbs_gcd_natAbs] at hg1 hg2
  have c1 : Nat.Coprime b.natAbs a.natAbs := by unfold Nat.Coprime; rw [Nat.gcd_comm]; exact hg1
  have c2 : Nat.Coprime d.natAbs c.natAbs := by unfold Nat.Coprime; rw [Nat.gcd_comm]; exact hg2
  have e1 : b.natAbs ∣ d.natAbs := c1.dvd_of_dvd_mul_left ⟨c.natAbs, by rw [hn, Nat.mul_comm]⟩
  have e2 : d.natAbs ∣ b.natAbs := c2.dvd_of_dvd_mul_left ⟨a.natAbs, by rw [← hn, Nat.mul_comm]⟩
  have e3 : b.natAbs = d.natAbs := Nat.dvd_antisymm e1 e2
  have e4 : b = d := by omega
  subst e4
  exact ⟨Int.eq_of_mul_eq_mul_right (by omega) h, rfl⟩
def absR (x : Ra) : Ra := ⟨(x.f0.natAbs : Int), x.f1⟩
theorem absR_ok {x : Ra} (h : OkR x.f0 x.f1) : OkR (absR x).f0 (absR x).f1 := by
  obtain ⟨h1, h2, h3, h4, h5⟩ := h
  refine ⟨h1, h2, by show (-1000000000 : Int) ≤ (x.f0.natAbs : Int); omega, by show (x.f0.natAbs : Int) ≤ 1000000000; omega, ?_⟩
  show Int.gcd (x.f0.natAbs : Int) x.f1 = 1
  rw [Int.gcd_eq_natAbs_gcd_natAbs] at h5 ⊢
  simpa using h5
def minR (m s : Ra) : Ra := if s.f0 * m.f1 < m.f0 * s.f1 then s else m
theorem minR_ok {m s : Ra} (h1 : OkR m.f0 m.f1) (h2 : OkR s.f0 s.f1) : OkR (minR m s).f0 (minR m s).f1 := by
  unfold minR
  split
  · exact h2
  · exact h1
theorem ivLess_min {m s : Ra} (h1 : OkR m.f0 m.f1) (h2 : OkR s.f0 s.f1) : spec_ivLess.f m.f0 m.f1 s.f0 s.f1 = some ((minR m s).f0, (minR m s).f1) := by
  unfold spec_ivLess.f minR
  obtain ⟨t, e, ht, _⟩ := raCmp_eq h1.bd h2.bd
  rw [e, Option.bind_some]
  by_cases h : m.f0 * s.f1 < s.f0 * m.f1
  · rw [if_pos (ht.2 h), if_neg (by omega)]
  · rw [if_neg (fun hh => h (ht.1 hh))]
    by_cases h3 : s.f0 * m.f1 < m.f0 * s.f1
    · rw [if_pos h3]
    · rw [if_neg h3]
      obtain ⟨e1, e2⟩ := same_rat h1 h2 (by omega)
      rw [e1, e2]
theorem compare_eq {a b c d : Int} (h1 : Bd a b) (h2 : Bd c d) : ∃ t, impl_compare.f a b c d = some t ∧ (t < 0 ↔ a * d < c * b) := by
  obtain ⟨m1, m2, _⟩ := cross_bd h1 h2
  unfold impl_compare.f
  generalize a * d = p at *
  generalize c * b = q at *
  rw [wr p (by omega), wr q (by omega)]
  by_cases h : p < q
  · rw [if_pos h]; exact ⟨-1, rfl, by omega⟩
  · rw [if_neg h]
    by_cases h3 : p > q
    · rw [if_pos h3]; exact ⟨1, rfl, by omega⟩
    · rw [if_neg h3]; exact ⟨0, rfl, by omega⟩
theorem minFunc_l (l : List Ra) (hl : l.length ≤ 1048576) (hb : ∀ x ∈ l, OkR x.f0 x.f1) : ∀ (d k i : Nat) (m : Ra), OkR m.f0 m.f1 → i + d = l.length → d < k → MinFunc_impl_compare.l0 k l (i : Int) m.f0 m.f1 = some (((l.drop i).foldl minR m).f0, ((l.drop i).foldl minR m).f1) := by
  intro d
  induction d with
  | zero =>
    intro k i m hm hi hk
    obtain ⟨k, rfl⟩ : ∃ m, k = m + 1 := ⟨k - 1, by omega⟩
    simp only [MinFunc_impl_compare.l0]
    rw [if_neg (by omega), List.drop_of_length_le (by omega)]
    rfl
  | succ d ih =>
    intro k i m hm hi hk
    obtain ⟨k, rfl⟩ : ∃ m, k = m + 1 := ⟨k - 1, by omega⟩
    simp only [MinFunc_impl_compare.l0]
    have hx := hb _ (nr_mem l i (by omega))
    obtain ⟨t, e, ht⟩ := compare_eq hx.bd hm.bd
    rw [wr (_ + 1) (by omega), if_pos (by omega), if_pos (by omega), show (i : Int) + 1 = ((i + 1 : Nat) : Int) by omega, rd_nr, e, Option.bind_some, drop_getD l i z27 (by omega), List.foldl_cons]
    have := ih k (i + 1) (minR m (nr l i)) (minR_ok hm hx) (by omega) (by omega)
    by_cases h : (nr l i).f0 * m.f1 < m.f0 * (nr l i).f1
    · have e2 : minR m (nr l i) = nr l i := if_pos h
      rw [if_pos (ht.2 h), show minR m (l.getD i z27) = nr l i from e2]
      rw [e2] at this
      exact this
    · have e2 : minR m (nr l i) = m := if_neg h
      rw [if_neg (fun hh => h (ht.1 hh)), show minR m (l.getD i z27) = m from e2]
      rw [e2] at this
      exact this
theorem minFunc_eq (l : List Ra) (h1 : 1 ≤ l.length) (hl : l.length ≤ 1048576) (hb : ∀ x ∈ l, OkR x.f0 x.f1) (k : Nat) (hk : l.length < k) : MinFunc_impl_compare.f k l = some (((l.drop 1).foldl minR (nr l 0)).f0, ((l.drop 1).foldl minR (nr l 0)).f1) := by
  unfold MinFunc_impl_compare.f
  rw [if_neg (by omega), if_pos (by omega), rd_nr0]
  exact minFunc_l l hl hb (l.length - 1) k 1 (nr l 0) (hb _ (nr_mem l 0 (by omega))) (by omega) (by omega)
def expR (f : List Pt) : Ra := (((slAll f).map absR).drop 1).foldl minR (nr ((slAll f).map absR) 0)
theorem absAll_ok {f : List Pt} (hm : IsMap f) : ∀ x ∈ (slAll f).map absR, OkR x.f0 x.f1 := by
  intro x hx
  obtain ⟨y, hy, rfl⟩ := List.mem_map.1 hx
  exact absR_ok (slAll_ok hm y hy)
theorem fold_ok (l : List Ra) : ∀ m : Ra, OkR m.f0 m.f1 → (∀ x ∈ l, OkR x.f0 x.f1) → OkR (l.foldl minR m).f0 (l.foldl minR m).f1 := by
  induction l with
  | nil => intro m hm _; exact hm
  | cons a t ih =>
    intro m hm h
    exact ih _ (minR_ok hm (h a List.mem_cons_self)) (fun x hx => h x (List.mem_cons_of_mem _ hx))
theorem expR_ok {f : List Pt} (hm : IsMap f) : OkR (expR f).f0 (expR f).f1 := by
  have h2 := hm.two
  have hl : ((slAll f).map absR).length = f.length - 1 := by rw [List.length_map, slAll_length]
  unfold expR
  exact fold_ok _ _ (absAll_ok hm _ (nr_mem _ 0 (by omega))) (fun x hx => absAll_ok hm x (List.mem_of_mem_drop hx))
theorem impl_exp_l (l : List Ra) (hl : l.length ≤ 1048576) (hb : ∀ x ∈ l, OkR x.f0 x.f1) : ∀ (d k i : Nat) (out : List Ra), i + d = l.length → out.length ≤ i → d < k → impl_expansion.l0 (k + 1) out l (l.length : Int) (i : Int) = (MinFunc_impl_compare.f (k - d) (out ++ (l.drop i).map absR)).bind fun b => some (b.1, b.2) := by
  intro d
  induction d with
  | zero =>
    intro k i out hi ho hk
    simp only [impl_expansion.l0]
    rw [if_neg (by omega), List.drop_of_length_le (by omega)]
    simp
  | succ d ih =>
    intro k i out hi ho hk
    obtain ⟨k, rfl⟩ : ∃ m, k = m + 1 := ⟨k - 1, by omega⟩
    rw [impl_expansion.l0]
    have hx := hb _ (nr_mem l i (by omega))
    have hbd := hx.bd.1
    rw [wr (_ + 1) (by omega), if_pos (by omega), if_pos (by omega), if_pos (by omega), show (i : Int) + 1 = ((i + 1 : Nat) : Int) by omega, rd_nr, abs_eq _ (by omega), Option.bind_some, if_pos (by omega), ih k (i + 1) _ (by omega) (by simp; omega) (by omega),
      drop_getD l i z27 (by omega), Nat.add_sub_add_right]
    simp [absR, nr]
theorem impl_exp_eq (f : List Pt) (hm : IsMap f) (k : Nat) (hk : 2000 ≤ k) : impl_expansion.f k f = some ((expR f).f0, (expR f).f1) := by
  unfold impl_expansion.f
  obtain ⟨k, rfl⟩ : ∃ m, k = m + 1 := ⟨k - 1, by omega⟩
  have h2 := hm.two
  have h12 := hm.most
  have hl := slAll_length f
  rw [impl_slopes_eq f hm (k + 1) (by omega), Option.bind_some]
  have := impl_exp_l (slAll f) (by omega) (slAll_ok hm) (slAll f).length k 0 [] (by omega) (by simp) (by omega)
  rw [show ((0 : Nat) : Int) = 0 from rfl] at this
  rw [this, List.drop_zero, List.nil_append, minFunc_eq _ (by rw [List.length_map]; omega) (by rw [List.length_map]; omega) (absAll_ok hm) _ (by rw [List.length_map]; omega)]
  rfl
theorem spec_exp_l (l : List Ra) (hl : l.length ≤ 1048576) (hb : ∀ x ∈ l, OkR x.f0 x.f1) : ∀ (d k i : Nat) (m : Ra), OkR m.f0 m.f1 → i + d = l.length → d < k → spec_sdExpansion.l0 k l (l.length : Int) (i : Int) m.f0 m.f1 = some ((((l.drop i).map absR).foldl minR m).f0, (((l.drop i).map absR).foldl minR m).f1) := by
  intro d
  induction d with
  | zero =>
    intro k i m hm hi hk
    obtain ⟨k, rfl⟩ : ∃ m, k = m + 1 := ⟨k - 1, by omega⟩
    simp only [spec_sdExpansion.l0]
    rw [if_neg (by omega), List.drop_of_length_le (by omega)]
    rfl
  | succ d ih =>
    intro k i m hm hi hk
    obtain ⟨k, rfl⟩ : ∃ m, k = m + 1 := ⟨k - 1, by omega⟩
    simp only [spec_sdExpansion.l0]
    have hx := hb _ (nr_mem l i (by omega))
    have hbd := hx.bd.1
    rw [wr (_ + 1) (by omega), if_pos (by omega), if_pos (by omega), if_pos (by omega), show (i : Int) + 1 = ((i + 1 : Nat) : Int) by omega, rd_nr, l1Abs_eq _ (by omega), Option.bind_some]
    have ei := ivLess_min hm (absR_ok hx)
    rw [show ((nr l i).f0.natAbs : Int) = (absR (nr l i)).f0 from rfl, show (nr l i).f1 = (absR (nr l i)).f1 from rfl, ei, Option.bind_some]
    rw [ih k (i + 1) (minR m (absR (nr l i))) (minR_ok hm (absR_ok hx)) (by omega) (by omega), drop_getD l i z27 (by omega), List.map_cons, List.foldl_cons]
    rfl
theorem spec_exp_eq (f : List Pt) (hm : IsMap f) (k : Nat) (hk : 2000 ≤ k) : spec_sdExpansion.f k f = some ((expR f).f0, (expR f).f1) := by
  unfold spec_sdExpansion.f expR
  have h2 := hm.two
  have h12 := hm.most
  have hl := slAll_length f
  rw [spec_slopes_eq f hm k (by omega), Option.bind_some, if_pos (by omega), rd_nr0]
  have hx := slAll_ok hm _ (nr_mem (slAll f) 0 (by omega))
  have hbd := hx.bd.1
  rw [l1Abs_eq _ (by omega), Option.bind_some]
  have := spec_exp_l (slAll f) (by omega) (slAll_ok hm) (slAll f).length k 0 (absR (nr (slAll f) 0)) (absR_ok hx) (by omega) (by omega)
  rw [show ((0 : Nat) : Int) = 0 from rfl] at this
  rw [show ((nr (slAll f) 0).f0.natAbs : Int) = (absR (nr (slAll f) 0)).f0 from rfl, show (nr (slAll f) 0).f1 = (absR (nr (slAll f) 0)).f1 from rfl, this]
  rw [List.drop_zero]
  have e0 : slAll f = nr (slAll f) 0 :: (slAll f).drop 1 := by
    have := drop_getD (slAll f) 0 z27 (by omega)
    rw [List.drop_zero] at this
    exact this
  have em : minR (absR (nr (slAll f) 0)) (absR (nr (slAll f) 0)) = absR (nr (slAll f) 0) := by unfold minR; split <;> rfl
  have e1 : nr ((slAll f).map absR) 0 = absR (nr (slAll f) 0) := by
    rw [e0]; rfl
  rw [e1, ← List.map_drop]
  conv => lhs; rw [e0]
  rw [List.map_cons, List.foldl_cons]
  have e2 : nr (nr (slAll f) 0 :: (slAll f).drop 1) 0 = nr (slAll f) 0 := rfl
  rw [e2, em]
end Go.Proofs.Ytlggehdfigkliaa.Pu
set_option linter.unusedVariables false
set_option linter.unusedSimpArgs false
namespace Go.Proofs.Ytlggehdfigkliaa.Pu
open Go.RowKit Go.Proofs.Ytlggehdfigkliaa.Q Go.Proofs.YtlggehdfigkliaaW.PrintWords Go.Proofs.YtlggehdfigkliaaW.PrintLast Go.Proofs.YtlggehdfigkliaaW.PrintMore
def maxR (m s : Ra) : Ra := if m.f0 * s.f1 < s.f0 * m.f1 then s else m
def Le (a b : Ra) : Prop := a.f0 * b.f1 ≤ b.f0 * a.f1
theorem Le.trans {a b c : Ra} (ha : OkR a.f0 a.f1) (hb : OkR b.f0 b.f1) (hc : OkR c.f0 c.f1) (h1 : Le a b) (h2 : Le b c) : Le a c := by
  have a1 := ha.1
  have b1 := hb.1
  have c1 := hc.1
  unfold Le at *
  have e1 := Int.mul_le_mul_of_nonneg_right h1 (show 0 ≤ c.f1 by omega)
  have e2 := Int.mul_le_mul_of_nonneg_right h2 (show 0 ≤ a.f1 by omega)
  have e3 : a.f0 * c.f1 * b.f1 ≤ c.f0 * a.f1 * b.f1 := by
    calc a.f0 * c.f1 * b.f1 = a.f0 * b.f1 * c.f1 := by rw [Int.mul_assoc, Int.mul_comm c.f1, ← Int.mul_assoc]
      _ ≤ b.f0 * a.f1 * c.f1 := e1
      _ = b.f0 * c.f1 * a.f1 := by rw [Int.mul_assoc, Int.mul_comm a.f1, ← Int.mul_assoc]
      _ ≤ c.f0 * b.f1 * a.f1 := e2
      _ = c.f0 * a.f1 * b.f1 := by rw [Int.mul_assoc, Int.mul_comm b.f1, ← Int.mul_assoc]
  exact Int.le_of_mul_le_mul_right e3 (by omega)
theorem fold_max (l : List Ra) : ∀ m : Ra, OkR m.f0 m.f1 → (∀ x ∈ l, OkR x.f0 x.f1) → (l.foldl maxR m = m ∨ l.foldl maxR m ∈ l) ∧ OkR (l.foldl maxR m).f0 (l.foldl maxR m).f1 ∧ Le m (l.foldl maxR m) ∧ ∀ x ∈ l, Le x (l.foldl maxR m) := by
  induction l with
  | nil => intro m hm _; exact ⟨.inl rfl, hm, Int.le_refl _, fun x hx => by cases hx⟩
  | cons a t ih =>
    intro m hm h
    have ha := h a List.mem_cons_self
    have hmx : OkR (maxR m a).f0 (maxR m a).f1 := by unfold maxR; split <;> assumption
    have hl1 : Le m (maxR m a) := by unfold maxR Le; split <;> omega
    have hl2 : Le a (maxR m a) := by unfold maxR Le; split <;> omega
    obtain ⟨h1, h2, h3, h4⟩ := ih (maxR m a) hmx (fun x hx => h x (List.mem_cons_of_mem _ hx))
    refine ⟨?_, h2, Le.trans hm hmx h2 hl1 h3, fun x hx => ?_⟩
    · show t.foldl maxR (maxR m a) = m ∨ t.foldl maxR (maxR m a) ∈ a :: t
      rcases h1 with h1 | h1
      · rw [h1]
        unfold maxR
        split
        · exact .inr List.mem_cons_self
        · exact .inl rfl
      · exact .inr (List.mem_cons_of_mem _ h1)
    · rcases List.mem_cons.1 hx with rfl | hx
      · exact Le.trans ha hmx h2 hl2 h3
      · exact h4 x hx
theorem Le.anti {a b : Ra} (ha : OkR a.f0 a.f1) (hb : OkR b.f0 b.f1) (h1 : Le a b) (h2 : Le b a) : a = b := by
  unfold Le at *
  obtain ⟨e1, e2⟩ := same_rat ha hb (by omega)
  cases a; cases b; simp_all
def maxOf (l : List Ra) : Ra := l.foldl maxR ⟨0, 1⟩
theorem maxOf_ok (l : List Ra) (h : ∀ x ∈ l, OkR x.f0 x.f1) : OkR (maxOf l).f0 (maxOf l).f1 := (fold_max l ⟨0, 1⟩ ok_zero h).2.1
theorem max_shift (l : List Ra) (h : ∀ x ∈ l, OkR x.f0 x.f1) : ((l ++ [(⟨0, 1⟩ : Ra)]).drop 1).foldl maxR (nr (l ++ [(⟨0, 1⟩ : Ra)]) 0) = maxOf l := by
  have h' : ∀ x ∈ l ++ [(⟨0, 1⟩ : Ra)], OkR x.f0 x.f1 := fun x hx => by
    rcases List.mem_append.1 hx with hx | hx
    · exact h x hx
    · rw [List.mem_singleton.1 hx]; exact ok_zero
  have hn : nr (l ++ [(⟨0, 1⟩ : Ra)]) 0 ∈ l ++ [(⟨0, 1⟩ : Ra)] := nr_mem _ 0 (by simp)
  have e0 : l ++ [(⟨0, 1⟩ : Ra)] = nr (l ++ [(⟨0, 1⟩ : Ra)]) 0 :: (l ++ [(⟨0, 1⟩ : Ra)]).drop 1 := by
    have := drop_getD (l ++ [(⟨0, 1⟩ : Ra)]) 0 z27 (by simp)
    rw [List.drop_zero] at this
    exact this
  obtain ⟨a1, a2, a3, a4⟩ := fold_max ((l ++ [(⟨0, 1⟩ : Ra)]).drop 1) (nr (l ++ [(⟨0, 1⟩ : Ra)]) 0) (h' _ hn) (fun x hx => h' x (List.mem_of_mem_drop hx))
  obtain ⟨b1, b2, b3, b4⟩ := fold_max l ⟨0, 1⟩ ok_zero h
  have aall : ∀ x ∈ l ++ [(⟨0, 1⟩ : Ra)], Le x (((l ++ [(⟨0, 1⟩ : Ra)]).drop 1).foldl maxR (nr (l ++ [(⟨0, 1⟩ : Ra)]) 0)) := fun x hx => by
    rw [e0] at hx
    rcases List.mem_cons.1 hx with rfl | hx
    · exact a3
    · exact a4 x hx
  have amem : ((l ++ [(⟨0, 1⟩ : Ra)]).drop 1).foldl maxR (nr (l ++ [(⟨0, 1⟩ : Ra)]) 0) ∈ l ++ [(⟨0, 1⟩ : Ra)] := by
    rcases a1 with a1 | a1
    · rw [a1]; exact hn
    · exact List.mem_of_mem_drop a1
  refine Le.anti a2 b2 ?_ ?_
  · rcases List.mem_append.1 amem with hx | hx
    · exact b4 _ hx
    · rw [List.mem_singleton.1 hx]; exact b3
  · rcases b1 with b1 | b1
    · rw [show maxOf l = ⟨0, 1⟩ from b1]; exact aall _ (by simp)
    · exact aall _ (List.mem_append_left _ b1)
theorem ivGreater_max {m s : Ra} (h1 : OkR m.f0 m.f1) (h2 : OkR s.f0 s.f1) : spec_ivGreater.f m.f0 m.f1 s.f0 s.f1 = some ((maxR m s).f0, (maxR m s).f1) := by
  unfold spec_ivGreater.f maxR
  obtain ⟨t, e, ht, _⟩ := raCmp_eq h1.bd h2.bd
  rw [e, Option.bind_some]
  by_cases h : m.f0 * s.f1 < s.f0 * m.f1
  · rw [if_pos (ht.2 h), if_pos h]
  · rw [if_neg (fun hh => h (ht.1 hh)), if_neg h]
theorem maxR_ok {m s : Ra} (h1 : OkR m.f0 m.f1) (h2 : OkR s.f0 s.f1) : OkR (maxR m s).f0 (maxR m s).f1 := by
  unfold maxR
  split <;> assumption
theorem sdMost_l (l : List Ra) (hl : l.length ≤ 1048576) (hb : ∀ x ∈ l, OkR x.f0 x.f1) : ∀ (d k i : Nat) (m : Ra), OkR m.f0 m.f1 → i + d = l.length → d < k → spec_sdMost.l0 k l (l.length : Int) (i : Int) m.f0 m.f1 = some (((l.drop i).foldl maxR m).f0, ((l.drop i).foldl maxR m).f1) := by
  intro d
  induction d with
  | zero =>
    intro k i m hm hi hk
    obtain ⟨k, rfl⟩ : ∃ m, k = m + 1 := ⟨k - 1, by omega⟩
    simp only [spec_sdMost.l0]
    rw [if_neg (by omega), List.drop_of_length_le (by omega)]
    rfl
  | succ d ih =>
    intro k i m hm hi hk
    obtain ⟨k, rfl⟩ : ∃ m, k = m + 1 := ⟨k - 1, by omega⟩
    simp only [spec_sdMost.l0]
    have hx := hb _ (nr_mem l i (by omega))
    rw [wr (_ + 1) (by omega), if_pos (by omega), if_pos (by omega), if_pos (by omega), show (i : Int) + 1 = ((i + 1 : Nat) : Int) by omega, rd_nr, ivGreater_max hm hx, Option.bind_some,
      drop_getD l i z27 (by omega), List.foldl_cons]
    exact ih k (i + 1) (maxR m (nr l i)) (maxR_ok hm hx) (by omega) (by omega)
theorem sdMost_eq (l : List Ra) (hl : l.length ≤ 1048576) (hb : ∀ x ∈ l, OkR x.f0 x.f1) (k : Nat) (hk : l.length < k) : spec_sdMost.f k l = some ((maxOf l).f0, (maxOf l).f1) := by
  unfold spec_sdMost.f spec_raInt.f
  rw [Option.bind_some]
  exact sdMost_l l hl hb l.length k 0 ⟨0, 1⟩ ok_zero (by omega) hk
theorem compare_gt {a b c d : Int} (h1 : Bd a b) (h2 : Bd c d) : ∃ t, impl_compare.f a b c d = some t ∧ (t > 0 ↔ c * b < a * d) := by
  obtain ⟨m1, m2, _⟩ := cross_bd h1 h2
  unfold impl_compare.f
  generalize a * d = p at *
  generalize c * b = q at *
  rw [wr p (by omega), wr q (by omega)]
  by_cases h : p < q
  · rw [if_pos h]; exact ⟨-1, rfl, by omega⟩
  · rw [if_neg h]
    by_cases h3 : p > q
    · rw [if_pos h3]; exact ⟨1, rfl, by omega⟩
    · rw [if_neg h3]; exact ⟨0, rfl, by omega⟩
theorem maxFunc_l (l : List Ra) (hl : l.length ≤ 1048576) (hb : ∀ x ∈ l, OkR x.f0 x.f1) : ∀ (d k i : Nat) (m : Ra), OkR m.f0 m.f1 → i + d = l.length → d < k → MaxFunc_impl_compare.l0 k l (i : Int) m.f0 m.f1 = some (((l.drop i).foldl maxR m).f0, ((l.drop i).foldl maxR m).f1) := by
  intro d
  induction d with
  | zero =>
    intro k i m hm hi hk
    obtain ⟨k, rfl⟩ : ∃ m, k = m + 1 := ⟨k - 1, by omega⟩
    simp only [MaxFunc_impl_compare.l0]
    rw [if_neg (by omega), List.drop_of_length_le (by omega)]
    rfl
  | succ d ih =>
    intro k i m hm hi hk
    obtain ⟨k, rfl⟩ : ∃ m, k = m + 1 := ⟨k - 1, by omega⟩
    simp only [MaxFunc_impl_compare.l0]
    have hx := hb _ (nr_mem l i (by omega))
    obtain ⟨t, e, ht⟩ := compare_gt hx.bd hm.bd
    rw [wr (_ + 1) (by omega), if_pos (by omega), if_pos (by omega), show (i : Int) + 1 = ((i + 1 : Nat) : Int) by omega, rd_nr, e, Option.bind_some, drop_getD l i z27 (by omega), List.foldl_cons]
    have := ih k (i + 1) (maxR m (nr l i)) (maxR_ok hm hx) (by omega) (by omega)
    by_cases h : m.f0 * (nr l i).f1 < (nr l i).f0 * m.f1
    · have e2 : maxR m (nr l i) = nr l i := if_pos h
      rw [if_pos (ht.2 h), show maxR m (l.getD i z27) = nr l i from e2]
      rw [e2] at this
      exact this
    · have e2 : maxR m (nr l i) = m := if_neg h
      rw [if_neg (fun hh => h (ht.1 hh)), show maxR m (l.getD i z27) = m from e2]
      rw [e2] at this
      exact this
theorem maxFunc_eq (l : List Ra) (h1 : 1 ≤ l.length) (hl : l.length ≤ 1048576) (hb : ∀ x ∈ l, OkR x.f0 x.f1) (k : Nat) (hk : l.length < k) : MaxFunc_impl_compare.f k l = some (((l.drop 1).foldl maxR (nr l 0)).f0, ((l.drop 1).foldl maxR (nr l 0)).f1) := by
  unfold MaxFunc_impl_compare.f
  rw [if_neg (by omega), if_pos (by omega), rd_nr0]
  exact maxFunc_l l hl hb (l.length - 1) k 1 (nr l 0) (hb _ (nr_mem l 0 (by omega))) (by omega) (by omega)
def worstO (o : Option (List Ra)) : Tri := match o with | some z => ((maxOf z).f0, (maxOf z).f1, true) | none => (0, 0, false)
noncomputable def worstR (f : List Pt) (l : List Ra) : Tri := if mapB f = true ∧ Pseudo l then worstO (jumpsO f l (l.length - 1) 1 []) else (0, 0, false)
theorem jumps_all {f : List Pt} {l z : List Ra} (hj : jumpsO f l (l.length - 1) 1 [] = some z) : ∀ x ∈ z, OkR x.f0 x.f1 := jumpsO_ok f l _ _ _ _ (fun x hx => by cases hx) hj
theorem jumps_len {f : List Pt} {l z : List Ra} (hp : Pseudo l) (hj : jumpsO f l (l.length - 1) 1 [] = some z) : z.length ≤ 20 := by
  have h1 := jumpsO_len _ _ _ _ _ _ hj
  have h2 := hp.2.1
  simp at h1
  omega
theorem implWorst_eq (f : List Pt) (l : List Ra) (hf : f.length ≤ 1048576) (hl : l.length ≤ 1048576) (k : Nat) (hk : 2000000 ≤ k) : impl_WorstJump.f k f l = some (worstR f l) := by
  unfold impl_WorstJump.f worstR
  rw [implJumps_eq f l hf hl k hk, Option.bind_some]
  unfold jumpsR
  by_cases h : mapB f = true ∧ Pseudo l
  · rw [if_pos h, if_pos h]
    cases hj : jumpsO f l (l.length - 1) 1 [] with
    | none => rfl
    | some z =>
      have hz := jumps_len h.2 hj
      have ha := jumps_all hj
      rw [show retO (some z) = (z, true) from rfl, show worstO (some z) = ((maxOf z).f0, (maxOf z).f1, true) from rfl]
      simp only [impl_zero.f, Option.bind_some, if_true]
      rw [if_pos (by omega), maxFunc_eq _ (by simp) (by simp; omega) (fun x hx => by
        rcases List.mem_append.1 hx with hx | hx
        · exact ha x hx
        · rw [List.mem_singleton.1 hx]; exact ok_zero) k (by simp; omega), max_shift z ha]
      rfl
  · rw [if_neg h, if_neg h]
    rfl
theorem worst_ok {f : List Pt} {l : List Ra} (h : (worstR f l).2.2 = true) : mapB f = true ∧ Pseudo l ∧ ∃ z, jumpsO f l (l.length - 1) 1 [] = some z ∧ worstR f l = ((maxOf z).f0, (maxOf z).f1, true) := by
  unfold worstR at h ⊢
  split at h
  · rename_i h1
    rw [if_pos h1]
    refine ⟨h1.1, h1.2, ?_⟩
    cases hj : jumpsO f l (l.length - 1) 1 [] with
    | none => rw [hj] at h; cases h
    | some z => exact ⟨z, rfl, rfl⟩
  · cases h
theorem worst_okR {f : List Pt} {l : List Ra} (h : (worstR f l).2.2 = true) : OkR (worstR f l).1 (worstR f l).2.1 := by
  obtain ⟨_, _, z, hz, e⟩ := worst_ok h
  rw [e]
  exact maxOf_ok z (jumps_all hz)
theorem worst_bad {f : List Pt} {l : List Ra} (h : (worstR f l).2.2 = false) (h1 : mapB f = true ∧ Pseudo l) : jumpsO f l (l.length - 1) 1 [] = none := by
  unfold worstR at h
  rw [if_pos h1] at h
  cases hj : jumpsO f l (l.length - 1) 1 [] with
  | none => rfl
  | some z => rw [hj] at h; cases h
theorem sub_sign {a b : Int} (h : OkR a b) : (b < a → (subT a b 1 1).2.2 = true ∧ 0 < (subT a b 1 1).1) ∧ (a ≤ b → (subT a b 1 1).1 ≤ 0) := by
  have h1 : OkR 1 1 := by unfold OkR; decide
  have hb := h.1
  have hb2 := h.2.1
  have hb3 := h.2.2.1
  have hb4 := h.2.2.2.1
  have e : subT a b 1 1 = mk (a * 1 - 1 * b) (b * 1) := rfl
  have hs : 0 ≤ sg (a * 1 - 1 * b) (b * 1) := by unfold sg; rw [if_neg (by omega)]; omega
  constructor
  · intro hlt
    have hk := mk_small (a * 1 - 1 * b) (b * 1) (by omega) (by omega) (by omega)
    have hok : (subT a b 1 1).2.2 = true := by rw [e, hk.2.2.2]
    refine ⟨hok, ?_⟩
    have hne := sub_ne h h1 (by omega) hok
    have h0 : 0 ≤ (subT a b 1 1).1 := by rw [e, hk.2.2.2]; exact Int.tdiv_nonneg (by omega) hs
    omega
  · intro hle
    rw [e]
    unfold mk
    split
    · show (a * 1 - 1 * b).tdiv _ ≤ 0
      have := Int.tdiv_nonneg (show 0 ≤ -(a * 1 - 1 * b) by omega) hs
      rw [Int.neg_tdiv] at this
      omega
    · exact Int.le_refl 0
theorem divT_bad {a b c d : Int} (h : (divT a b c d).2.2 = false) : divT a b c d = (0, 0, false) := by
  unfold divT at h ⊢
  split
  · rfl
  · rename_i h1
    rw [if_neg h1] at h
    exact mk_bad _ _ h
end Go.Proofs.Ytlggehdfigkliaa.Pu
set_option linter.unusedVariables false
set_option linter.unusedSimpArgs false
namespace Go.Proofs.Ytlggehdfigkliaa.Pure
open Go.RowKit Go.Proofs.Ytlggehdfigkliaa.Q Go.Proofs.Ytlggehdfigkliaa.Pu Go.Proofs.YtlggehdfigkliaaW.PrintWords Go.Proofs.YtlggehdfigkliaaW.PrintLast Go.Proofs.YtlggehdfigkliaaW.PrintMore
noncomputable def sbR (f : List Pt) (l : List Ra) : Tri :=
  if (worstR f l).2.2 = true ∧ (expR f).f1 < (expR f).f0 then divT (worstR f l).1 (worstR f l).2.1 (subT (expR f).f0 (expR f).f1 1 1).1 (subT (expR f).f0 (expR f).f1 1 1).2.1 else (0, 0, false)
theorem ok_one : OkR 1 1 := by unfold OkR; decide
theorem impl_eq (f : List Pt) (l : List Ra) (hf : f.length ≤ 1048576) (hl : l.length ≤ 1048576) (k : Nat) (hk : 2000001 ≤ k) : impl_ShadowBound.f k f l = some (sbR f l) := by
  unfold impl_ShadowBound.f sbR
  obtain ⟨k, rfl⟩ : ∃ m, k = m + 1 := ⟨k - 1, by omega⟩
  rw [implWorst_eq f l hf hl (k + 1) (by omega), Option.bind_some]
  cases hw : (worstR f l).2.2 with
  | false =>
    rw [if_neg (by decide), if_neg (fun h => by cases h.1)]
    simp only [impl_ShadowBound.j0, if_true]
  | true =>
    obtain ⟨hm, hp, z, hz, e⟩ := worst_ok hw
    have hM := (mapB_iff f).1 hm
    have hE := expR_ok hM
    have hW := worst_okR hw
    clear e hz z
    generalize worstR f l = W at *
    rw [if_pos rfl]
    unfold impl_oneRat.f
    rw [Option.bind_some, impl_exp_eq f hM (k + 1) (by omega), Option.bind_some, less_eq ok_one.bd hE.bd, Option.bind_some]
    simp only [impl_ShadowBound.j0, impl_oneRat.f, Option.bind_some]
    by_cases hlt : (expR f).f1 < (expR f).f0
    · obtain ⟨s1, s2⟩ := (sub_sign hE).1 hlt
      have hS := subT_ok _ _ _ _ s1
      rw [show decide (1 * (expR f).f1 < (expR f).f0 * 1) = true from decide_eq_true (by omega), Bool.not_true, if_neg (by decide), impl_exp_eq f hM k (by omega), Option.bind_some, calc_sub hE ok_one k false (by omega), kp_val s1, Option.bind_some, calc_div hW hS k false (by omega), Option.bind_some]
      cases hd : (divT W.1 W.2.1 (subT (expR f).f0 (expR f).f1 1 1).1 (subT (expR f).f0 (expR f).f1 1 1).2.1).2.2 with
      | true =>
        rw [kp_val hd, if_neg (by show ¬ false = true; decide), if_pos (by refine ⟨?_, hlt⟩ <;> first | rfl | trivial), ← hd]
      | false =>
        rw [kp_bad, hd, if_pos (by rfl), if_pos (by refine ⟨?_, hlt⟩ <;> first | rfl | trivial), divT_bad hd]
    · rw [show decide (1 * (expR f).f1 < (expR f).f0 * 1) = false from decide_eq_false (by omega), Bool.not_false, if_pos rfl, if_neg (fun h => hlt h.2)]
theorem spec_eq (f : List Pt) (l : List Ra) (hf : f.length ≤ 1048576) (hl : l.length ≤ 1048576) (k : Nat) (hk : 2000001 ≤ k) : spec_ShadowBound.f k f l = some (sbR f l) := by
  unfold spec_ShadowBound.f sbR
  obtain ⟨k, rfl⟩ : ∃ m, k = m + 1 := ⟨k - 1, by omega⟩
  rw [sdAsked_eq f l hf hl (k + 1) (by omega), Option.bind_some]
  by_cases h : mapB f = true ∧ Pseudo l
  · have hM := (mapB_iff f).1 h.1
    have hE := expR_ok hM
    rw [h.1, decide_eq_true h.2, Bool.and_self, if_pos rfl, sdJumps_eq f l h.1 h.2 (k + 1) (by omega), Option.bind_some]
    cases hw : (worstR f l).2.2 with
    | false =>
      rw [worst_bad hw h, show retO none = ([], false) from rfl, if_neg (show ¬ (([], false) : List Ra × Bool).2 = true by decide), if_neg (fun h => by cases h.1)]
    | true =>
      obtain ⟨_, _, z, hz, e⟩ := worst_ok hw
      have hW := worst_okR hw
      have hzl := jumps_len h.2 hz
      have hza := jumps_all hz
      rw [e] at hW
      rw [hz, e, show retO (some z) = (z, true) from rfl, if_pos (show ((z, true) : List Ra × Bool).2 = true from rfl)]
      unfold spec_raInt.f
      rw [spec_exp_eq f hM (k + 1) (by omega), Option.bind_some, Option.bind_some, raSub_eq hE ok_one (k + 1) (by omega), Option.bind_some]
      simp only [spec_ShadowBound.j0]
      by_cases hlt : (expR f).f1 < (expR f).f0
      · obtain ⟨s1, s2⟩ := (sub_sign hE).1 hlt
        have hS := subT_ok _ _ _ _ s1
        rw [if_pos s1, decide_eq_false (by omega), if_neg (by decide), sdMost_eq z (by omega) hza k (by omega), Option.bind_some, raDiv_eq hW hS k (by omega), Option.bind_some, if_pos (by refine ⟨?_, hlt⟩ <;> first | rfl | trivial)]
      · by_cases s1 : (subT (expR f).f0 (expR f).f1 1 1).2.2 = true
        · rw [if_pos s1, decide_eq_true ((sub_sign hE).2 (by omega)), if_pos rfl, if_neg (fun h => hlt h.2)]
        · rw [if_neg s1, if_pos (by trivial), if_neg (fun h => hlt h.2)]
  · rw [if_neg (by
      intro hh
      simp only [Bool.and_eq_true, decide_eq_true_eq] at hh
      exact h hh), if_neg (fun hh => by
      obtain ⟨a, b, _⟩ := worst_ok hh.1
      exact h ⟨a, b⟩)]
theorem FnExactShadowBound : laws_FnExactShadowBound.Pure := by
  intro l0 l1 _ _ _ _
  refine ⟨4000005, ?_⟩
  unfold laws_FnExactShadowBound.f laws_szPointS.f
  have hm0 : (maxLen : Nat) ≤ 9223372036854775807 := by decide
  by_cases hb : (wrap64 (1048576 - (l0.length : Int))) < 0
  · rw [if_pos hb]; rfl
  · rw [if_neg hb]
    have hl0 : l0.length ≤ 1048576 := by rw [wr _ (by omega)] at hb; omega
    simp only [Option.bind_some]
    rw [if_neg hb]
    unfold laws_szRatS.f
    rw [wr (1048576 - _) (by omega)]
    by_cases hc : (wrap64 (1048576 - (l0.length : Int) - (l1.length : Int))) < 0
    · rw [if_pos hc]; rfl
    · rw [if_neg hc]
      have hl1 : l1.length ≤ 1048576 := by rw [wr _ (by omega)] at hc; omega
      simp only [Option.bind_some]
      rw [if_neg hc, toPointS l0 hl0 _ (by omega), toRatS l1 hl1 _ (by omega)]
      simp only [Option.bind_some]
      have hf : (l0.map cvPoint).length ≤ 1048576 := by simpa using hl0
      have hr : (l1.map cvRat).length ≤ 1048576 := by simpa using hl1
      generalize hF : l0.map cvPoint = F at hf
      generalize hR : l1.map cvRat = R at hr
      rw [spec_eq F R hf hr _ (by omega), impl_eq F R hf hr _ (by omega)]
      generalize sbR F R = v
      simp only [Option.bind_some]
      rw [eqRat_self ⟨v.1, v.2.1⟩]
      simp only [Option.bind_some, if_true, bne_self_eq_false, laws_FnExactShadowBound.j0]
      rw [if_neg (by decide), toPointS l0 hl0 _ (by omega), hF]
      simp only [Option.bind_some]
      rw [eqPointS_self F (by omega) _ (by omega)]
      simp only [Option.bind_some, if_true]
      rw [toRatS l1 hl1 _ (by omega), hR]
      simp only [Option.bind_some]
      rw [eqRatS_self R (by omega) _ (by omega)]
      simp only [Option.bind_some, if_true]
end Go.Proofs.Ytlggehdfigkliaa.Pure

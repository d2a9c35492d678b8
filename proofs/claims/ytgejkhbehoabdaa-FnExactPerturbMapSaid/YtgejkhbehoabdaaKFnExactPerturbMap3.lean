/- All that the statement FnExactPerturbMap rests on, part 3: the walks of the functions that it reaches, and the plain laws of what they compute. -/
import Derived.Test.YtgejkhbehoabdaaKFnExactPerturbMap2
namespace Go.Proofs.Ytgejkhbehoabdaa.Q
open Go.RowKit Go.Proofs.YtgejkhbehoabdaaW.PrintWords Go.Proofs.YtgejkhbehoabdaaW.PrintLast Go.Proofs.YtgejkhbehoabdaaW.PrintMore
attribute [local go_sem] max2_int min2_int max_two min_two max_three min_three max_four min_four   -- for this text's walks alone
set_option linter.unusedVariables false
set_option linter.unusedSimpArgs false
def impl_areRats.l0 : Nat → List (S47) → Int → Int → Option (Bool)
 | 0, _, _, _ => none
 | k + 1, x5, x6, x7 => if x7 < x6 then (if 0 ≤ x7 then (if x7 < (x5.length : Int) then ((impl_isRat.f k ((rd_T47 x5 x7).f0) ((rd_T47 x5 x7).f1)).bind fun tA => (if tA = true then (impl_areRats.l0 k x5 x6 (wrap64 (x7 + 1))) else (some false))) else (none)) else (none)) else (some true)
def impl_areRats.f (k : Nat) (l0 : List (S47)) : Option (Bool) := impl_areRats.l0 k l0 (l0.length : Int) 0
theorem zz58 {p : Prop} (h : p := by repeat (first | (with_reducible first | exact HB.out | apply below_alloc | apply pw_below_drewN | apply below_drew1 | refine below_set ?_ GEA.out) | exact HB.out)) : p := h
theorem zz12 {p : Prop} (h : p := by (with_reducible repeat (first | refine blk_drewN ?_ _ | refine blk_drew ?_ | refine blk_alloc ?_ _)); refine blk_put (cs := #[.int .i64 ((rd_T47 l0 x7_1).f0), .int .i64 0]) ?_ 1 _ rfl; (with_reducible repeat (first | refine blk_drewN ?_ _ | refine blk_drew ?_ | refine blk_alloc ?_ _)); refine blk_put (cs := #[.int .i64 0, .int .i64 0]) ?_ 0 _ rfl; (with_reducible repeat (first | refine blk_drewN ?_ _ | refine blk_drew ?_ | refine blk_alloc ?_ _)); exact BKA.out) : p := h
set_option maxHeartbeats 8000000 in
set_option maxRecDepth 100000 in
theorem impl_areRats.calls (k : Nat) (A0 : Option Addr) (c0 : Nat) (l0 : List (S47)) (r : Bool) (w : World) (hr0 : Kd.C k47 w A0 l0.length l0) (hc0 : l0.length ≤ c0) (h : impl_areRats.f k l0 = some r) :
  Calls Try.prog 132 #[.slice A0 l0.length c0] w fun e w' => e = .returned (.bool r) ∧ Below w.heap.size w w' := by
 have hu47 := Try.underlying47; have HR0 := Aside0.mk hr0; have HC0 := Aside0.mk hc0; clear hr0 hc0; have HB := Aside0.mk (Below.refl w.heap.size w); have H : (impl_areRats.l0 k l0 (l0.length : Int) 0) = some r := h; clear h; have H' := Aside0.mk H; clear H; go_enter Try.func132, Try.ntmps132
 go_wp2
 go_loopg [7] k (fun kq v7 w' => ∃ (x7_1 : Int), v7 = .int .i64 x7_1 ∧ Aside0 (impl_areRats.l0 kq l0 (l0.length : Int) x7_1 = some r) ∧ Aside0 (kq ≤ k) ∧ Aside0 (Below w.heap.size w w'))
 case atStart => exact ⟨(0), zz102, H', ⟨Nat.le_refl _⟩, ⟨by repeat (first | (with_reducible first | exact HB.out | apply below_alloc | apply pw_below_drewN | apply below_drew1) | exact HB.out)⟩⟩
 case round =>
  clear H'; try clear c1
  obtain ⟨x7_1, rfl, HA, HK1, HB⟩ := hrel; cases gk with
  | zero => exact absurd HA.out (by simp [impl_areRats.l0])
  | succ k1 =>
   have H := HA.out; clear HA; simp only [impl_areRats.l0] at H; by_cases c2 : x7_1 < (l0.length : Int)
   ·rw [if_pos c2] at H; have c2b0 : decide (x7_1 < (l0.length : Int)) = true := decide_eq_true c2; clear c2; by_cases c3 : 0 ≤ x7_1
    ·rw [if_pos c3] at H; have c3b0 : decide (0 ≤ x7_1) = true := decide_eq_true c3; clear c3; by_cases c4 : x7_1 < (l0.length : Int)
     ·rw [if_pos c4] at H; have c4b0 : decide (x7_1 < (l0.length : Int)) = true := decide_eq_true c4; clear c4; replace H := Option.bind_eq_some_iff.mp H; obtain ⟨tB, A50, H⟩ := H; replace H : (if tB = true then (impl_areRats.l0 k1 l0 (l0.length : Int) (wrap64 (x7_1 + 1))) else (some false)) = some r := H; have A5 := Aside0.mk A50; clear A50; by_cases c6 : tB = true
      ·subst c6; have H1 : (impl_areRats.l0 k1 l0 (l0.length : Int) (wrap64 (x7_1 + 1))) = some r := by rw [if_pos rfl] at H; exact H
       clear H; have H := H1; clear H1; have H' := Aside0.mk H; clear H; have pC : 0 ≤ (x7_1 : Int) := of_decide_eq_true zz101; have qC : x7_1 < (l0.length : Int) := of_decide_eq_true zz101; obtain ⟨adC, eC, hxC_0, hxC_1⟩ := at_T47 HR0.out x7_1 pC qC; cases eC
       replace hxC_0 := (HB.out.cell (World.block_lt_of_cell? w _ hxC_0)).trans hxC_0; replace hxC_1 := (HB.out.cell (World.block_lt_of_cell? w _ hxC_1)).trans hxC_1; replace pC := eq_true pC; replace qC := eq_true qC; go_wp2_with (first | ((with_reducible refine gate_dst (N := 4) rfl ?_); refine box_event ?hg (N := 4) ?hd (cs := #[.int .i64 0, .int .i64 0]) (t := 47) ?hr ?_; (case hd => rfl); (case hg => rfl); (case hr => first | (go_simp; done) | (go_simp; rfl)); intro gbA hg w7 hbox hb; have n2_ := gwA (below_size zz63) hg; have n3_ := gwA (below_size zz63) hg; have GWA := n2_; have GEA := n3_; clear n2_ n3_; have BKA := Aside0.mk (hbox); replace HB := Aside0.mk (below_step zz63 hb); clear hb hbox hg; have hcz8_0 : w7.cell? ⟨gbA, 0, none⟩ = some (.int .i64 0) := (blk_cell BKA.out 0).trans rfl; have hcz8_1 : w7.cell? ⟨gbA, 1, none⟩ = some (.int .i64 0) := (blk_cell BKA.out 1).trans rfl; have hfz8_0 := blk_frozen BKA.out 0; have hfz8_1 := blk_frozen BKA.out 1) | ((with_reducible refine gate_callee (f := 126) rfl ?_); refine goesL_ (some 12) rfl rfl Try.func126 (by kernel_rfl) rfl #[.agg #[.int .i64 ((rd_T47 l0 x7_1).f0), .int .i64 ((rd_T47 l0 x7_1).f1)]] rfl zz62 ?_; (with_reducible refine (impl_isRat.calls k1 ((rd_T47 l0 x7_1).f0) ((rd_T47 l0 x7_1).f1) true _ A5.out).mono ?_); rintro e w9 ⟨rfl, hb⟩; refine ⟨_, rfl, ?_⟩; have n0_ := Aside0.mk (blk_below (g := gbA) (o := .cells #[.int .i64 ((rd_T47 l0 x7_1).f0), .int .i64 ((rd_T47 l0 x7_1).f1)] 47 (0, 0)) zz12 hb); clear BKA; have BKA := n0_; clear n0_; replace HB := Aside0.mk (below_step zz58 hb); (try clear hb)))
       go_roundg k1
       case measure => have := HK1.out; omega
       case rel => exact ⟨(wrap64 (x7_1 + 1)), zz102, H', ⟨by have := HK1.out; omega⟩, ⟨by repeat (first | (with_reducible first | exact HB.out | apply below_alloc | apply pw_below_drewN | apply below_drew1 | refine below_set ?_ GEA.out) | exact HB.out)⟩⟩
      ·replace c6 := Bool.eq_false_iff.mpr c6; subst c6; have H1 : (some false) = some r := by rw [if_neg (show ¬ (false = true) by decide)] at H; exact H
       clear H; have H := H1; clear H1; obtain rfl := Option.some.inj H; have pC : 0 ≤ (x7_1 : Int) := of_decide_eq_true zz101; have qC : x7_1 < (l0.length : Int) := of_decide_eq_true zz101; obtain ⟨adC, eC, hxC_0, hxC_1⟩ := at_T47 HR0.out x7_1 pC qC; cases eC
       replace hxC_0 := (HB.out.cell (World.block_lt_of_cell? w _ hxC_0)).trans hxC_0; replace hxC_1 := (HB.out.cell (World.block_lt_of_cell? w _ hxC_1)).trans hxC_1; replace pC := eq_true pC; replace qC := eq_true qC; go_wp2_with (first | ((with_reducible refine gate_dst (N := 4) rfl ?_); refine box_event ?hg (N := 4) ?hd (cs := #[.int .i64 0, .int .i64 0]) (t := 47) ?hr ?_; (case hd => rfl); (case hg => rfl); (case hr => first | (go_simp; done) | (go_simp; rfl)); intro gbA hg w10 hbox hb; have n2_ := gwA (below_size zz63) hg; have n3_ := gwA (below_size zz63) hg; have GWA := n2_; have GEA := n3_; clear n2_ n3_; have BKA := Aside0.mk (hbox); replace HB := Aside0.mk (below_step zz63 hb); clear hb hbox hg; have hcz11_0 : w10.cell? ⟨gbA, 0, none⟩ = some (.int .i64 0) := (blk_cell BKA.out 0).trans rfl; have hcz11_1 : w10.cell? ⟨gbA, 1, none⟩ = some (.int .i64 0) := (blk_cell BKA.out 1).trans rfl; have hfz11_0 := blk_frozen BKA.out 0; have hfz11_1 := blk_frozen BKA.out 1) | ((with_reducible refine gate_callee (f := 126) rfl ?_); refine goesL_ (some 12) rfl rfl Try.func126 (by kernel_rfl) rfl #[.agg #[.int .i64 ((rd_T47 l0 x7_1).f0), .int .i64 ((rd_T47 l0 x7_1).f1)]] rfl zz62 ?_; (with_reducible refine (impl_isRat.calls k1 ((rd_T47 l0 x7_1).f0) ((rd_T47 l0 x7_1).f1) false _ A5.out).mono ?_); rintro e w12 ⟨rfl, hb⟩; refine ⟨_, rfl, ?_⟩; have n0_ := Aside0.mk (blk_below (g := gbA) (o := .cells #[.int .i64 ((rd_T47 l0 x7_1).f0), .int .i64 ((rd_T47 l0 x7_1).f1)] 47 (0, 0)) zz12 hb); clear BKA; have BKA := n0_; clear n0_; replace HB := Aside0.mk (below_step zz58 hb); (try clear hb)))
       go_ret
       exact ⟨by first | rfl | (simp [errW_none, errW_some] <;> rfl) | (simp [*, errW_none, errW_some] <;> rfl), by repeat (first | (with_reducible first | exact HB.out | apply below_alloc | apply pw_below_drewN | apply below_drew1 | refine below_set ?_ GEA.out) | exact HB.out)⟩
     ·rw [if_neg c4] at H; exact absurd H (by simp)
    ·rw [if_neg c3] at H; exact absurd H (by simp)
   ·rw [if_neg c2] at H; have c2b0 : decide (x7_1 < (l0.length : Int)) = false := decide_eq_false c2; clear c2; obtain rfl := Option.some.inj H; go_wp2
    go_ret
    exact ⟨by first | rfl | (simp [errW_none, errW_some] <;> rfl) | (simp [*, errW_none, errW_some] <;> rfl), by repeat (first | (with_reducible first | exact HB.out | apply below_alloc | apply pw_below_drewN | apply below_drew1) | exact HB.out)⟩
def impl_AddRats.f (k : Nat) (a0_0 : Int) (a0_1 : Int) (a1_0 : Int) (a1_1 : Int) : Option (Int × Int × Bool) := (impl_areRats.f k (([(⟨a0_0, a0_1⟩ : S47), (⟨a1_0, a1_1⟩ : S47)] : List (S47)))).bind fun tA => (if tA = true then ((impl_lowest.f k (wrap64 ((wrap64 (a0_0 * a1_1)) + (wrap64 (a1_0 * a0_1)))) (wrap64 (a0_1 * a1_1))).bind fun btB => (some (btB.1, btB.2.1, btB.2.2))) else (some (0, 0, false)))
theorem zz77 {p : Prop} (h : p := by (with_reducible repeat (first | apply Kd.R_alloc | apply Kd.R_drewN | apply Kd.R_drew)); exact HOA.out) : p := h
theorem zz71 {p : Prop} (h : p := by (with_reducible repeat (first | refine blk_drewN ?_ _ | refine blk_drew ?_ | refine blk_alloc ?_ _)); exact BKB.out) : p := h
theorem zz70 {p : Prop} (h : p := by (with_reducible repeat (first | refine blk_drewN ?_ _ | refine blk_drew ?_ | refine blk_alloc ?_ _)); exact BKC.out) : p := h
theorem zz69 {p : Prop} (h : p := by (with_reducible repeat (first | refine blk_drewN ?_ _ | refine blk_drew ?_ | refine blk_alloc ?_ _)); exact BKD.out) : p := h
theorem zz59 {p : Prop} (h : p := by repeat (first | (with_reducible first | exact HB.out | apply below_alloc | apply pw_below_drewN | apply below_drew1 | refine below_set ?_ GED.out) | exact HB.out)) : p := h
theorem zz36 {p : Prop} (h : p := by repeat (first | (with_reducible first | exact HB.out | apply below_alloc | apply pw_below_drewN | apply below_drew1 | refine below_set ?_ GED.out | refine below_set ?_ GEC.out) | exact HB.out)) : p := h
theorem zz24 {p : Prop} (h : p := by repeat (first | (with_reducible first | exact HB.out | apply below_alloc | apply pw_below_drewN | apply below_drew1 | refine below_set ?_ GED.out | refine below_set ?_ GEC.out | refine below_set ?_ GEB.out) | exact HB.out)) : p := h
set_option maxHeartbeats 8000000 in
set_option maxRecDepth 100000 in
theorem impl_AddRats.calls (k : Nat) (a0_0 : Int) (a0_1 : Int) (a1_0 : Int) (a1_1 : Int) (r1 : Int) (r2 : Int) (r3 : Bool) (w : World) (h : impl_AddRats.f k a0_0 a0_1 a1_0 a1_1 = some (r1, r2, r3)) :
  Calls Try.prog 72 #[.agg #[.int .i64 a0_0, .int .i64 a0_1], .agg #[.int .i64 a1_0, .int .i64 a1_1]] w fun e w' => e = .returned (.tuple #[.agg #[.int .i64 r1, .int .i64 r2], .bool r3]) ∧ Below w.heap.size w w' := by
 have hu47 := Try.underlying47; have HB := Aside0.mk (Below.refl w.heap.size w); have H : ((impl_areRats.f k (([(⟨a0_0, a0_1⟩ : S47), (⟨a1_0, a1_1⟩ : S47)] : List (S47)))).bind fun tE => (if tE = true then ((impl_lowest.f k (wrap64 ((wrap64 (a0_0 * a1_1)) + (wrap64 (a1_0 * a0_1)))) (wrap64 (a0_1 * a1_1))).bind fun btF => (some (btF.1, btF.2.1, btF.2.2))) else (some (0, 0, false)))) = some (r1, r2, r3) := h; clear h; obtain ⟨yG, hyG⟩ : ∃ y_ : List (S47), y_ = (([(⟨a0_0, a0_1⟩ : S47), (⟨a1_0, a1_1⟩ : S47)] : List (S47))) := ⟨_, rfl⟩; replace H : ((impl_areRats.f k yG).bind fun tE => (if tE = true then ((impl_lowest.f k (wrap64 ((wrap64 (a0_0 * a1_1)) + (wrap64 (a1_0 * a0_1)))) (wrap64 (a0_1 * a1_1))).bind fun btF => (some (btF.1, btF.2.1, btF.2.2))) else (some (0, 0, false)))) = some (r1, r2, r3) := by first | (rw [hyG]; with_reducible exact H) | (have H2_ := (Option.bind_some _ _).symm.trans H; rw [hyG]; with_reducible exact H2_) | (have H2_ := (Option.bind_some _ _).symm.trans H; with_reducible exact H2_) | with_reducible exact H | (rw [hyG]; exact H) | exact H
 have NyG := Aside0.mk hyG; clear hyG; replace H := Option.bind_eq_some_iff.mp H; obtain ⟨tE, A30, H⟩ := H; replace H : (if tE = true then ((impl_lowest.f k (wrap64 ((wrap64 (a0_0 * a1_1)) + (wrap64 (a1_0 * a0_1)))) (wrap64 (a0_1 * a1_1))).bind fun btF => (some (btF.1, btF.2.1, btF.2.2))) else (some (0, 0, false))) = some (r1, r2, r3) := H; have A3 := Aside0.mk A30; clear A30; by_cases c4 : tE = true
 ·subst c4; have H1 : ((impl_lowest.f k (wrap64 ((wrap64 (a0_0 * a1_1)) + (wrap64 (a1_0 * a0_1)))) (wrap64 (a0_1 * a1_1))).bind fun btF => (some (btF.1, btF.2.1, btF.2.2))) = some (r1, r2, r3) := by rw [if_pos rfl] at H; exact H
  clear H; have H := H1; clear H1; replace H := Option.bind_eq_some_iff.mp H; obtain ⟨⟨tF, tH, tI⟩, A50, H⟩ := H; replace H : (some (tF, tH, tI)) = some (r1, r2, r3) := H; have A5 := Aside0.mk A50; clear A50; simp only [Option.some.injEq, Prod.mk.injEq] at H; obtain ⟨rfl, rfl, rfl⟩ := H; go_enter Try.func72, Try.ntmps72
  go_wp2_with (first | ((with_reducible refine gate_dst (N := 2) rfl ?_); refine box_event ?hg (N := 2) ?hd (cs := #[.int .i64 a0_0, .int .i64 a0_1]) (t := 47) ?hr ?_; (case hd => rfl); (case hg => rfl); (case hr => first | (go_simp; done) | (go_simp; rfl)); intro gbD hg w6 hbox hb; have n2_ := gwA (below_size zz63) hg; have n3_ := gwA (below_size zz63) hg; have GWD := n2_; have GED := n3_; clear n2_ n3_; have BKD := Aside0.mk (hbox); replace HB := Aside0.mk (below_step zz63 hb); clear hb hbox hg) | ((with_reducible refine gate_dst (N := 3) rfl ?_); refine box_event ?hg (N := 3) ?hd (cs := #[.int .i64 a1_0, .int .i64 a1_1]) (t := 47) ?hr ?_; (case hd => rfl); (case hg => rfl); (case hr => first | (go_simp; done) | (go_simp; rfl)); intro gbC hg w7 hbox hb; have n3_ := gwA (below_size zz59) hg; have n4_ := gwA (below_size zz59) hg; have n5_ := nltA BKD hg; have n6_ := ngtA BKD hg; have GWC := n3_; have GEC := n4_; have NBD_C := n5_; have NBC_D := n6_; clear n3_ n4_ n5_ n6_; replace BKD := blkA BKD hb; have BKC := Aside0.mk (hbox); replace HB := Aside0.mk (below_step zz59 hb); clear hb hbox hg) | ((with_reducible refine gate_dst (N := 4) rfl ?_); refine box_event ?hg (N := 4) ?hd (cs := #[.int .i64 0, .int .i64 0]) (t := 47) ?hr ?_; (case hd => rfl); (case hg => rfl); (case hr => first | (go_simp; done) | (go_simp; rfl)); intro gbB hg w8 hbox hb; have n4_ := gwA (below_size zz36) hg; have n5_ := gwA (below_size zz36) hg; have n6_ := nltA BKD hg; have n7_ := ngtA BKD hg; have n8_ := nltA BKC hg; have n9_ := ngtA BKC hg; have GWB := n4_; have GEB := n5_; have NBD_B := n6_; have NBB_D := n7_; have NBC_B := n8_; have NBB_C := n9_; clear n4_ n5_ n6_ n7_ n8_ n9_; replace BKD := blkA BKD hb; replace BKC := blkA BKC hb; have BKB := Aside0.mk (hbox); replace HB := Aside0.mk (below_step zz36 hb); clear hb hbox hg; have hnb9 := NBD_C.out; have hnc9 := NBC_D.out; have hnb10 := NBD_B.out; have hnc10 := NBB_D.out; have hcz11_0 : w8.cell? ⟨gbD, 0, none⟩ = some (.int .i64 a0_0) := (blk_cell BKD.out 0).trans rfl; have hcz11_1 : w8.cell? ⟨gbD, 1, none⟩ = some (.int .i64 a0_1) := (blk_cell BKD.out 1).trans rfl; have hfz11_0 := blk_frozen BKD.out 0; have hfz11_1 := blk_frozen BKD.out 1; have hnb12 := NBC_B.out; have hnc12 := NBB_C.out; have hcz13_0 : w8.cell? ⟨gbC, 0, none⟩ = some (.int .i64 a1_0) := (blk_cell BKC.out 0).trans rfl; have hcz13_1 : w8.cell? ⟨gbC, 1, none⟩ = some (.int .i64 a1_1) := (blk_cell BKC.out 1).trans rfl; have hfz13_0 := blk_frozen BKC.out 0; have hfz13_1 := blk_frozen BKC.out 1) | ((with_reducible refine gate_dst (N := 8) rfl ?_); refine Kd.R_lit k47 _ 47 ?hg (N := 8) ?hd (xs := ([(⟨a0_0, a0_1⟩ : S47), (⟨a1_0, a1_1⟩ : S47)] : List (S47))) (inner := [.int .i64 a0_0, .int .i64 a0_1, .int .i64 a1_0, .int .i64 a1_1]) (ok := fun _ => True) (okp := fun _ => True) ?hr ?hp (fun _ hk => hk) trivial (Below.refl _ _) (Nat.le_refl _) (by simp) ?_; (case hd => rfl); (case hg => rfl); (case hr => first | (go_simp; done) | (go_simp; rfl)); (case hp => exact (Reps.c2 (show Kd.M k47 _ _ _ (⟨a0_0, a0_1⟩ : S47) [.int .i64 a0_0, .int .i64 a0_1] from (k47_mkM _ _ _ (⟨a0_0, a0_1⟩ : S47) )) (Reps.c2 (show Kd.M k47 _ _ _ (⟨a1_0, a1_1⟩ : S47) [.int .i64 a1_0, .int .i64 a1_1] from (k47_mkM _ _ _ (⟨a1_0, a1_1⟩ : S47) )) (Reps.none _ _)))); intro vJ w14 ho15 hb hg_ hnew_; clear hg_ hnew_; (first | rw [← NyG.out] at ho15 | (simp only [Int.reduceToNat] at ho15; rw [← NyG.out] at ho15)); have n0_ := Aside0.mk (Kd.R_lower (Kd.R_newB (Kd.R_newB (Kd.R_newB ho15 (g := gbD) (o := .cells #[.int .i64 a0_0, .int .i64 a0_1] 47 (0, 0)) zz69) (g := gbC) (o := .cells #[.int .i64 a1_0, .int .i64 a1_1] 47 (0, 0)) zz70) (g := gbB) (o := .cells #[.int .i64 0, .int .i64 0] 47 (0, 0)) zz71) (below_size zz24)); have HOA := n0_; clear n0_; replace BKD := blkA BKD hb; replace BKC := blkA BKC hb; replace BKB := blkA BKB hb; replace HB := Aside0.mk (below_step zz24 hb); clear hb ho15; obtain ⟨Ao16, co16, eo16⟩ := Kd.R_slice HOA.out; subst eo16) | ((with_reducible refine gate_callee (f := 132) rfl ?_); refine goesL_ (some 9) rfl rfl Try.func132 (by kernel_rfl) rfl #[.slice Ao16 yG.length co16] rfl zz62 ?_; (with_reducible refine (impl_areRats.calls k _ _ yG true _ ?side1 ?side2 A3.out).mono ?_); (case side1 => repeat (first | exact (Kd.R_reads' HOA.out).2.2 | (with_reducible refine Kd.C_alloc ?_ _) | (with_reducible refine Kd.C_drewN ?_ _) | (with_reducible refine Kd.C_drew ?_))); (case side2 => exact (Kd.R_reads' HOA.out).2.1); rintro e w17 ⟨rfl, hb⟩; refine ⟨_, rfl, ?_⟩; have n0_ := Aside0.mk (Kd.R_below zz77 hb); clear HOA; have HOA := n0_; clear n0_; replace BKD := blkA BKD hb; replace BKC := blkA BKC hb; replace BKB := blkA BKB hb; replace HB := Aside0.mk (below_step zz24 hb); (try clear hb); have hcz18_0 : w17.cell? ⟨gbD, 0, none⟩ = some (.int .i64 a0_0) := (blk_cell BKD.out 0).trans rfl; have hcz18_1 : w17.cell? ⟨gbD, 1, none⟩ = some (.int .i64 a0_1) := (blk_cell BKD.out 1).trans rfl; have hfz18_0 := blk_frozen BKD.out 0; have hfz18_1 := blk_frozen BKD.out 1; have hcz19_0 : w17.cell? ⟨gbC, 0, none⟩ = some (.int .i64 a1_0) := (blk_cell BKC.out 0).trans rfl; have hcz19_1 : w17.cell? ⟨gbC, 1, none⟩ = some (.int .i64 a1_1) := (blk_cell BKC.out 1).trans rfl; have hfz19_0 := blk_frozen BKC.out 0; have hfz19_1 := blk_frozen BKC.out 1) | ((with_reducible refine gate_callee (f := 63) rfl ?_); refine goesL_ (some 28) rfl rfl Try.func63 (by kernel_rfl) rfl #[.int .i64 (wrap64 ((wrap64 (a0_0 * a1_1)) + (wrap64 (a1_0 * a0_1)))), .int .i64 (wrap64 (a0_1 * a1_1))] rfl zz62 ?_; (with_reducible refine (impl_lowest.calls k (wrap64 ((wrap64 (a0_0 * a1_1)) + (wrap64 (a1_0 * a0_1)))) (wrap64 (a0_1 * a1_1)) tF tH tI _ A5.out).mono ?_); rintro e w20 ⟨rfl, hb⟩; refine ⟨_, rfl, ?_⟩; have n0_ := Aside0.mk (Kd.R_below zz77 hb); clear HOA; have HOA := n0_; clear n0_; replace BKD := blkA BKD hb; replace BKC := blkA BKC hb; replace BKB := blkA BKB hb; replace HB := Aside0.mk (below_step zz24 hb); (try clear hb); have hcz21_0 : w20.cell? ⟨gbB, 0, none⟩ = some (.int .i64 0) := (blk_cell BKB.out 0).trans rfl; have hcz21_1 : w20.cell? ⟨gbB, 1, none⟩ = some (.int .i64 0) := (blk_cell BKB.out 1).trans rfl; have hfz21_0 := blk_frozen BKB.out 0; have hfz21_1 := blk_frozen BKB.out 1))
  refine bodyPost_ret (results_ct rfl _ _ gbB 47 #[.int .i64 tF, .int .i64 tH] (0, 0) _ rfl (by (with_reducible repeat (first | refine blk_drewN ?_ _ | refine blk_drew ?_ | refine blk_alloc ?_ _)); refine blk_put (cs := #[.int .i64 tF, .int .i64 0]) ?_ 1 _ rfl; (with_reducible repeat (first | refine blk_drewN ?_ _ | refine blk_drew ?_ | refine blk_alloc ?_ _)); refine blk_put (cs := #[.int .i64 0, .int .i64 0]) ?_ 0 _ rfl; (with_reducible repeat (first | refine blk_drewN ?_ _ | refine blk_drew ?_ | refine blk_alloc ?_ _)); exact BKB.out) Try.underlying47 rfl (by kernel_rfl)) rfl ?_; exact ⟨by first | rfl | (simp [errW_none, errW_some] <;> rfl) | (simp [*, errW_none, errW_some] <;> rfl), by repeat (first | (with_reducible first | exact HB.out | apply below_alloc | apply pw_below_drewN | apply below_drew1 | refine below_set ?_ GED.out | refine below_set ?_ GEC.out | refine below_set ?_ GEB.out) | exact HB.out)⟩
 ·replace c4 := Bool.eq_false_iff.mpr c4; subst c4; have H1 : (some (0, 0, false)) = some (r1, r2, r3) := by rw [if_neg (show ¬ (false = true) by decide)] at H; exact H
  clear H; have H := H1; clear H1; simp only [Option.some.injEq, Prod.mk.injEq] at H; obtain ⟨rfl, rfl, rfl⟩ := H; go_enter Try.func72, Try.ntmps72
  go_wp2_with (first | ((with_reducible refine gate_dst (N := 2) rfl ?_); refine box_event ?hg (N := 2) ?hd (cs := #[.int .i64 a0_0, .int .i64 a0_1]) (t := 47) ?hr ?_; (case hd => rfl); (case hg => rfl); (case hr => first | (go_simp; done) | (go_simp; rfl)); intro gbD hg w22 hbox hb; have n2_ := gwA (below_size zz63) hg; have n3_ := gwA (below_size zz63) hg; have GWD := n2_; have GED := n3_; clear n2_ n3_; have BKD := Aside0.mk (hbox); replace HB := Aside0.mk (below_step zz63 hb); clear hb hbox hg) | ((with_reducible refine gate_dst (N := 3) rfl ?_); refine box_event ?hg (N := 3) ?hd (cs := #[.int .i64 a1_0, .int .i64 a1_1]) (t := 47) ?hr ?_; (case hd => rfl); (case hg => rfl); (case hr => first | (go_simp; done) | (go_simp; rfl)); intro gbC hg w23 hbox hb; have n3_ := gwA (below_size zz59) hg; have n4_ := gwA (below_size zz59) hg; have n5_ := nltA BKD hg; have n6_ := ngtA BKD hg; have GWC := n3_; have GEC := n4_; have NBD_C := n5_; have NBC_D := n6_; clear n3_ n4_ n5_ n6_; replace BKD := blkA BKD hb; have BKC := Aside0.mk (hbox); replace HB := Aside0.mk (below_step zz59 hb); clear hb hbox hg) | ((with_reducible refine gate_dst (N := 4) rfl ?_); refine box_event ?hg (N := 4) ?hd (cs := #[.int .i64 0, .int .i64 0]) (t := 47) ?hr ?_; (case hd => rfl); (case hg => rfl); (case hr => first | (go_simp; done) | (go_simp; rfl)); intro gbB hg w24 hbox hb; have n4_ := gwA (below_size zz36) hg; have n5_ := gwA (below_size zz36) hg; have n6_ := nltA BKD hg; have n7_ := ngtA BKD hg; have n8_ := nltA BKC hg; have n9_ := ngtA BKC hg; have GWB := n4_; have GEB := n5_; have NBD_B := n6_; have NBB_D := n7_; have NBC_B := n8_; have NBB_C := n9_; clear n4_ n5_ n6_ n7_ n8_ n9_; replace BKD := blkA BKD hb; replace BKC := blkA BKC hb; have BKB := Aside0.mk (hbox); replace HB := Aside0.mk (below_step zz36 hb); clear hb hbox hg; have hnb25 := NBD_C.out; have hnc25 := NBC_D.out; have hnb26 := NBD_B.out; have hnc26 := NBB_D.out; have hcz27_0 : w24.cell? ⟨gbD, 0, none⟩ = some (.int .i64 a0_0) := (blk_cell BKD.out 0).trans rfl; have hcz27_1 : w24.cell? ⟨gbD, 1, none⟩ = some (.int .i64 a0_1) := (blk_cell BKD.out 1).trans rfl; have hfz27_0 := blk_frozen BKD.out 0; have hfz27_1 := blk_frozen BKD.out 1; have hnb28 := NBC_B.out; have hnc28 := NBB_C.out; have hcz29_0 : w24.cell? ⟨gbC, 0, none⟩ = some (.int .i64 a1_0) := (blk_cell BKC.out 0).trans rfl; have hcz29_1 : w24.cell? ⟨gbC, 1, none⟩ = some (.int .i64 a1_1) := (blk_cell BKC.out 1).trans rfl; have hfz29_0 := blk_frozen BKC.out 0; have hfz29_1 := blk_frozen BKC.out 1) | ((with_reducible refine gate_dst (N := 8) rfl ?_); refine Kd.R_lit k47 _ 47 ?hg (N := 8) ?hd (xs := ([(⟨a0_0, a0_1⟩ : S47), (⟨a1_0, a1_1⟩ : S47)] : List (S47))) (inner := [.int .i64 a0_0, .int .i64 a0_1, .int .i64 a1_0, .int .i64 a1_1]) (ok := fun _ => True) (okp := fun _ => True) ?hr ?hp (fun _ hk => hk) trivial (Below.refl _ _) (Nat.le_refl _) (by simp) ?_; (case hd => rfl); (case hg => rfl); (case hr => first | (go_simp; done) | (go_simp; rfl)); (case hp => exact (Reps.c2 (show Kd.M k47 _ _ _ (⟨a0_0, a0_1⟩ : S47) [.int .i64 a0_0, .int .i64 a0_1] from (k47_mkM _ _ _ (⟨a0_0, a0_1⟩ : S47) )) (Reps.c2 (show Kd.M k47 _ _ _ (⟨a1_0, a1_1⟩ : S47) [.int .i64 a1_0, .int .i64 a1_1] from (k47_mkM _ _ _ (⟨a1_0, a1_1⟩ : S47) )) (Reps.none _ _)))); intro vJ w30 ho31 hb hg_ hnew_; clear hg_ hnew_; (first | rw [← NyG.out] at ho31 | (simp only [Int.reduceToNat] at ho31; rw [← NyG.out] at ho31)); have n0_ := Aside0.mk (Kd.R_lower (Kd.R_newB (Kd.R_newB (Kd.R_newB ho31 (g := gbD) (o := .cells #[.int .i64 a0_0, .int .i64 a0_1] 47 (0, 0)) zz69) (g := gbC) (o := .cells #[.int .i64 a1_0, .int .i64 a1_1] 47 (0, 0)) zz70) (g := gbB) (o := .cells #[.int .i64 0, .int .i64 0] 47 (0, 0)) zz71) (below_size zz24)); have HOA := n0_; clear n0_; replace BKD := blkA BKD hb; replace BKC := blkA BKC hb; replace BKB := blkA BKB hb; replace HB := Aside0.mk (below_step zz24 hb); clear hb ho31; obtain ⟨Ao32, co32, eo32⟩ := Kd.R_slice HOA.out; subst eo32) | ((with_reducible refine gate_callee (f := 132) rfl ?_); refine goesL_ (some 9) rfl rfl Try.func132 (by kernel_rfl) rfl #[.slice Ao32 yG.length co32] rfl zz62 ?_; (with_reducible refine (impl_areRats.calls k _ _ yG false _ ?side1 ?side2 A3.out).mono ?_); (case side1 => repeat (first | exact (Kd.R_reads' HOA.out).2.2 | (with_reducible refine Kd.C_alloc ?_ _) | (with_reducible refine Kd.C_drewN ?_ _) | (with_reducible refine Kd.C_drew ?_))); (case side2 => exact (Kd.R_reads' HOA.out).2.1); rintro e w33 ⟨rfl, hb⟩; refine ⟨_, rfl, ?_⟩; have n0_ := Aside0.mk (Kd.R_below zz77 hb); clear HOA; have HOA := n0_; clear n0_; replace BKD := blkA BKD hb; replace BKC := blkA BKC hb; replace BKB := blkA BKB hb; replace HB := Aside0.mk (below_step zz24 hb); (try clear hb); have hcz34_0 : w33.cell? ⟨gbB, 0, none⟩ = some (.int .i64 0) := (blk_cell BKB.out 0).trans rfl; have hcz34_1 : w33.cell? ⟨gbB, 1, none⟩ = some (.int .i64 0) := (blk_cell BKB.out 1).trans rfl; have hfz34_0 := blk_frozen BKB.out 0; have hfz34_1 := blk_frozen BKB.out 1))
  refine bodyPost_ret (results_ct rfl _ _ gbB 47 #[.int .i64 0, .int .i64 0] (0, 0) _ rfl (by (with_reducible repeat (first | refine blk_drewN ?_ _ | refine blk_drew ?_ | refine blk_alloc ?_ _)); refine blk_put (cs := #[.int .i64 0, .int .i64 0]) ?_ 1 _ rfl; (with_reducible repeat (first | refine blk_drewN ?_ _ | refine blk_drew ?_ | refine blk_alloc ?_ _)); refine blk_put (cs := #[.int .i64 0, .int .i64 0]) ?_ 0 _ rfl; (with_reducible repeat (first | refine blk_drewN ?_ _ | refine blk_drew ?_ | refine blk_alloc ?_ _)); exact BKB.out) Try.underlying47 rfl (by kernel_rfl)) rfl ?_; exact ⟨by first | rfl | (simp [errW_none, errW_some] <;> rfl) | (simp [*, errW_none, errW_some] <;> rfl), by repeat (first | (with_reducible first | exact HB.out | apply below_alloc | apply pw_below_drewN | apply below_drew1 | refine below_set ?_ GED.out | refine below_set ?_ GEC.out | refine below_set ?_ GEB.out) | exact HB.out)⟩
def impl_Point_73.f (l0 : List S79) : Option (List S79) := if l0.length * 32 ≤ 140737488355328 then some l0 else none
set_option maxHeartbeats 8000000 in
set_option maxRecDepth 100000 in
theorem impl_Point_73.calls (A0 : Option Addr) (c0 : Nat) (l0 : List S79) (r : List S79) (w : World) (hr0 : Kd.C k79 w A0 l0.length l0) (hc0 : l0.length ≤ c0) (h : impl_Point_73.f l0 = some r) :
  Calls Try.prog 73 #[.slice A0 l0.length c0] w fun e w' => ∃ v0_ : Value, e = .returned (v0_) ∧ Kd.R k79 79 w' w.heap.size (fun _ => True) v0_ r ∧ Below w.heap.size w w' := by
 have hu := Try.underlying32; unfold impl_Point_73.f at h
 split at h
 case isFalse => cases h
 case isTrue hl =>
  injection h with h; subst h; have HR := Aside0.mk hr0; cases A0 with
  | none =>
   have h0 : l0 = [] := by
    cases l0 with
    | nil => rfl
    | cons a t =>
     obtain ⟨ad, h, _⟩ := hr0.2.2 (by simp); cases h
   subst h0; clear hr0; have hE := fun W => Go.Lib.run_eql_slice_nil (P := Try.prog) W 32 79 none ([] : List S79).length c0 0 0 hu
   simp only [List.length_nil, Option.isNone_none] at hE; go_enter Try.func73, Try.ntmps73
   go_wp2_with fail
   go_ret
   exact ⟨_, rfl, Kd.R_nil _ _ _ _ _, Below.refl _ _⟩
  | some ad =>
   clear hr0; have hE := fun W => Go.Lib.run_eql_slice_nil (P := Try.prog) W 32 79 (some ad) l0.length c0 0 0 hu
   simp only [Option.isNone_some] at hE; go_enter Try.func73, Try.ntmps73
   go_wp2_with (first | ((with_reducible refine gate_dst (N := 5) rfl ?_); refine Kd.R_lit k79 (w0 := w) w.heap.size 79 ?hg (N := 5) ?hd (xs := ([] : List S79)) (inner := []) (ok := fun _ => True) (okp := fun _ => True) ?hr ?hp (fun _ hk => hk) trivial (Below.refl _ _) (Nat.le_refl _) (by simp) ?_; (case hd => rfl); (case hg => rfl); (case hr => first | (go_simp; done) | (go_simp; rfl)); (case hp => exact (Reps.none _ _)); intro v5 w5 ho hb _ _; have HO := Aside0.mk ho; have HB5 := Aside0.mk hb; clear ho hb) | ((with_reducible refine gate_builtin (b := .append) (xs := #[.tmp 5, .tmp 6]) rfl ?_); at_builtin; refine Kd.R_append_rows k79 (w0 := w) w.heap.size rfl (.tmp 5) (.tmp 6) 32 79 (.agg #[(.int .i64 0), (.int .i64 0), (.int .i64 0), (.int .i64 0)]) 32 rfl hu info79 rfl (by decide) (by omega) _ ([] : List S79) l0 _ _ _ (fun _ => True) (fun _ => False) rfl (by first | rfl | (go_simp; done) | (go_simp; rfl)) ?aO (Kd.C_below HR.out HB5.out) (fun _ _ h => h) (fun _ h => h.elim) (fun _ _ => trivial) ?aB ?aS ?aL ?_; (case aO => exact HO.out); (case aB => exact HB5.out); (case aS => exact below_size HB5.out); (case aL => simpa using hl); intro v7 w7 ho hb _ _; have HO7 := Aside0.mk ho; have HB7 := Aside0.mk hb; clear ho hb HO))
   go_ret
   exact ⟨_, rfl, by simpa using HO7.out, HB7.out⟩
end Go.Proofs.Ytgejkhbehoabdaa.Q
namespace Go.Proofs.Ytgejkhbehoabdaa.Q
open Go.RowKit Go.Proofs.YtgejkhbehoabdaaW.PrintWords Go.Proofs.YtgejkhbehoabdaaW.PrintLast Go.Proofs.YtgejkhbehoabdaaW.PrintMore
attribute [local go_sem] max2_int min2_int max_two min_two max_three min_three max_four min_four   -- for this text's walks alone
set_option linter.unusedVariables false
set_option linter.unusedSimpArgs false
def impl_PerturbMap.j0 : Nat → List (S79) → Int → Bool → Int → Int → Option ((List (S79)) × Bool)
 | 0, _, _, _, _, _ => none
 | k + 1, x0, x1, x21, xA, xB => if x21 = true then (some (([] : List (S79)), false)) else (if 0 ≤ x1 then (if x1 < (x0.length : Int) then ((impl_AddRats.f k ((rd_T79 x0 x1).f1.f0) ((rd_T79 x0 x1).f1.f1) xA xB).bind fun btC => ((impl_Point_73.f x0).bind fun tD => (if x1 < (tD.length : Int) then ((some (tD.set (x1 : Int).toNat (⟨(⟨(rd_T79 tD x1).f0.f0, (rd_T79 tD x1).f0.f1⟩ : S47), (⟨btC.1, btC.2.1⟩ : S47)⟩ : S79) : List (S79))).bind fun yE => (if btC.2.2 = true then ((impl_isMap.f k yE).bind fun tF => (if tF = true then (some (yE, true)) else (some (([] : List (S79)), false)))) else (some (([] : List (S79)), false)))) else (none)))) else (none)) else (none))
def impl_PerturbMap.f (k : Nat) (l0 : List (S79)) (a1 : Int) (a2_0 : Int) (a2_1 : Int) : Option ((List (S79)) × Bool) := (impl_isMap.f k l0).bind fun tA => (if tA = true then ((impl_within.f a1 0 (wrap64 ((l0.length : Int) - 1))).bind fun tB => (impl_PerturbMap.j0 k l0 a1 (!tB) a2_0 a2_1)) else (impl_PerturbMap.j0 k l0 a1 true a2_0 a2_1))
def impl_PerturbMap.T3 : Bool × List (List Nat × List Nat) := (true, [([], []), ([], []), ([0, 1], [0, 1]), ([2], [2]), ([3], [3]), ([], []), ([4, 5], [4, 5]), ([6], [6]), ([7], [7]), ([7], [7]), ([], []), ([10, 8, 6, 0, 1, 2, 3, 4, 5, 6, 7, 8, 10], [8, 10]), ([9, 11, 0, 1, 2, 3, 4, 5, 6, 7, 8, 9, 10, 11], [9])])
def impl_PerturbMap.B3 : List Nat := [0, 0, 3, 7, 15, 0, 63, 127, 255, 255, 0, 1535, 4095]
theorem impl_PerturbMap.tab3 : rtab .any (opsOf Try.f34 3) = impl_PerturbMap.T3 := by kernel_rfl
theorem impl_PerturbMap.bits3 : waitsOk impl_PerturbMap.T3.2 impl_PerturbMap.B3 = true := by kernel_rfl
theorem zz100 {p : Prop} (h : p := by have := World.block_lt_of_cell? _ _ hwA_3; first | rwa [add_block] at this | exact this) : p := h
theorem zz99 {p : Prop} (h : p := by have := World.block_lt_of_cell? _ _ hwA_2; first | rwa [add_block] at this | exact this) : p := h
theorem zz98 {p : Prop} (h : p := by have := World.block_lt_of_cell? _ _ hwA_1; first | rwa [add_block] at this | exact this) : p := h
theorem zz97 {p : Prop} (h : p := by have := World.block_lt_of_cell? _ _ hwA_0; first | rwa [add_block] at this | exact this) : p := h
theorem zz92 {p : Prop} (h : p := by first | (rw [show yB.length = tC.length from (Kd.R_reads' HOD.out).1.symm] <;> rfl) | rfl) : p := h
theorem zz78 {p : Prop} (h : p := by (with_reducible repeat (first | apply Kd.R_alloc | apply Kd.R_drewN | apply Kd.R_drew)); exact HOD.out) : p := h
theorem zz73 {p : Prop} (h : p := by (with_reducible repeat (first | refine blk_drewN ?_ _ | refine blk_drew ?_ | refine blk_alloc ?_ _)); exact BKE.out) : p := h
theorem zz72 {p : Prop} (h : p := by (with_reducible repeat (first | refine blk_drewN ?_ _ | refine blk_drew ?_ | refine blk_alloc ?_ _)); exact BKF.out) : p := h
theorem zz60 {p : Prop} (h : p := by repeat (first | (with_reducible first | exact HB.out | apply below_alloc | apply pw_below_drewN | apply below_drew1 | refine below_set ?_ GEF.out) | exact HB.out)) : p := h
theorem zz37 {p : Prop} (h : p := by repeat (first | (with_reducible first | exact HB.out | apply below_alloc | apply pw_below_drewN | apply below_drew1 | refine below_set ?_ GEF.out | refine below_set ?_ GEE.out) | exact HB.out)) : p := h
theorem zz22 {p : Prop} (h : p := by (with_reducible repeat (first | refine blk_drewN ?_ _ | refine blk_drew ?_ | refine blk_alloc ?_ _)); refine blk_far ?_ NBF_E.out _; (with_reducible repeat (first | refine blk_drewN ?_ _ | refine blk_drew ?_ | refine blk_alloc ?_ _)); refine blk_far ?_ NBF_E.out _; (with_reducible repeat (first | refine blk_drewN ?_ _ | refine blk_drew ?_ | refine blk_alloc ?_ _)); exact BKF.out) : p := h
theorem zz14 {p : Prop} (h : p := by (with_reducible repeat (first | refine blk_drewN ?_ _ | refine blk_drew ?_ | refine blk_alloc ?_ _)); refine blk_put (cs := #[.int .i64 tG, .int .i64 0]) ?_ 1 _ rfl; (with_reducible repeat (first | refine blk_drewN ?_ _ | refine blk_drew ?_ | refine blk_alloc ?_ _)); refine blk_put (cs := #[.int .i64 0, .int .i64 0]) ?_ 0 _ rfl; (with_reducible repeat (first | refine blk_drewN ?_ _ | refine blk_drew ?_ | refine blk_alloc ?_ _)); exact BKE.out) : p := h
theorem zz7 {p : Prop} (h : p := by first | exact Nat.ne_of_lt (Nat.lt_of_lt_of_le zz100 GWE.out) | (rw [add_block]; exact Nat.ne_of_lt (Nat.lt_of_lt_of_le zz100 GWE.out)) | (show (Addr.add _ _).block ≠ _; rw [add_block]; exact Nat.ne_of_lt (Nat.lt_of_lt_of_le zz100 GWE.out)) | (dsimp only; exact Nat.ne_of_lt (Nat.lt_of_lt_of_le zz100 GWE.out))) : p := h
theorem zz6 {p : Prop} (h : p := by first | exact Nat.ne_of_lt (Nat.lt_of_lt_of_le zz99 GWE.out) | (rw [add_block]; exact Nat.ne_of_lt (Nat.lt_of_lt_of_le zz99 GWE.out)) | (show (Addr.add _ _).block ≠ _; rw [add_block]; exact Nat.ne_of_lt (Nat.lt_of_lt_of_le zz99 GWE.out)) | (dsimp only; exact Nat.ne_of_lt (Nat.lt_of_lt_of_le zz99 GWE.out))) : p := h
theorem zz5 {p : Prop} (h : p := by first | exact Nat.ne_of_lt (Nat.lt_of_lt_of_le zz98 GWE.out) | (rw [add_block]; exact Nat.ne_of_lt (Nat.lt_of_lt_of_le zz98 GWE.out)) | (show (Addr.add _ _).block ≠ _; rw [add_block]; exact Nat.ne_of_lt (Nat.lt_of_lt_of_le zz98 GWE.out)) | (dsimp only; exact Nat.ne_of_lt (Nat.lt_of_lt_of_le zz98 GWE.out))) : p := h
theorem zz4 {p : Prop} (h : p := by first | exact Nat.ne_of_lt (Nat.lt_of_lt_of_le zz97 GWE.out) | (rw [add_block]; exact Nat.ne_of_lt (Nat.lt_of_lt_of_le zz97 GWE.out)) | (show (Addr.add _ _).block ≠ _; rw [add_block]; exact Nat.ne_of_lt (Nat.lt_of_lt_of_le zz97 GWE.out)) | (dsimp only; exact Nat.ne_of_lt (Nat.lt_of_lt_of_le zz97 GWE.out))) : p := h
set_option maxHeartbeats 8000000 in
set_option maxRecDepth 100000 in
theorem impl_PerturbMap.calls (k : Nat) (A0 : Option Addr) (c0 : Nat) (l0 : List (S79)) (a1 : Int) (a2_0 : Int) (a2_1 : Int) (r1 : List (S79)) (r2 : Bool) (w : World) (hr0 : Kd.C k79 w A0 l0.length l0) (hc0 : l0.length ≤ c0) (h : impl_PerturbMap.f k l0 a1 a2_0 a2_1 = some (r1, r2)) :
  Calls Try.prog 34 #[.slice A0 l0.length c0, .int .i64 a1, .agg #[.int .i64 a2_0, .int .i64 a2_1]] w fun e w' => ∃ v0_ : Value, e = .returned (.tuple #[v0_, .bool r2]) ∧ Kd.R k79 79 w' w.heap.size (fun _ => True) v0_ r1 ∧ Below w.heap.size w w' := by
 have hu47 := Try.underlying47; have HR0 := Aside0.mk hr0; have HC0 := Aside0.mk hc0; clear hr0 hc0; have HB := Aside0.mk (Below.refl w.heap.size w); have H : ((impl_isMap.f k l0).bind fun tH => (if tH = true then ((impl_within.f a1 0 (wrap64 ((l0.length : Int) - 1))).bind fun tI => (impl_PerturbMap.j0 k l0 a1 (!tI) a2_0 a2_1)) else (impl_PerturbMap.j0 k l0 a1 true a2_0 a2_1))) = some (r1, r2) := h; clear h; have HC4 := Aside0.mk H; clear H; go_enter Try.func34, Try.ntmps34
 go_upto_region 1 with (first | ((with_reducible refine gate_dst (N := 5) rfl ?_); (try (refine gate_guard (by rfl) ?_; dsimp only)); refine box_event ?hg (N := 5) ?hd (cs := #[.int .i64 a2_0, .int .i64 a2_1]) (t := 47) ?hr ?_; (case hd => rfl); (case hg => rfl); (case hr => first | (go_simp; done) | (go_simp; rfl)); intro gbF hg w5 hbox hb; have n2_ := gwA (below_size zz63) hg; have n3_ := gwA (below_size zz63) hg; have GWF := n2_; have GEF := n3_; clear n2_ n3_; have BKF := Aside0.mk (hbox); replace HB := Aside0.mk (below_step zz63 hb); clear hb hbox hg))
 (try simp only [Act.put, List.setIfInBounds_toArray, List.set_cons_zero, List.set_cons_succ]); go_cut [21] (fun v21 wc => ∃ (kq : Nat) (x21_3 : Bool), v21 = .bool x21_3 ∧ Aside0 (impl_PerturbMap.j0 kq l0 a1 x21_3 a2_0 a2_1 = some (r1, r2)) ∧ Aside0 (kq ≤ k) ∧ Aside0 (wc.heap[gbF]? = some (.cells #[.int .i64 a2_0, .int .i64 a2_1] 47 (0, 0))) ∧ Aside0 (Below w.heap.size w wc))
 case first =>
  have H := HC4.out; clear HC4; replace H := Option.bind_eq_some_iff.mp H; obtain ⟨tH, A60, H⟩ := H; replace H : (if tH = true then ((impl_within.f a1 0 (wrap64 ((l0.length : Int) - 1))).bind fun tI => (impl_PerturbMap.j0 k l0 a1 (!tI) a2_0 a2_1)) else (impl_PerturbMap.j0 k l0 a1 true a2_0 a2_1)) = some (r1, r2) := H; have A6 := Aside0.mk A60; clear A60; by_cases c7 : tH = true
  ·subst c7; have H1 : ((impl_within.f a1 0 (wrap64 ((l0.length : Int) - 1))).bind fun tI => (impl_PerturbMap.j0 k l0 a1 (!tI) a2_0 a2_1)) = some (r1, r2) := by rw [if_pos rfl] at H; exact H
   clear H; have H := H1; clear H1; replace H := Option.bind_eq_some_iff.mp H; obtain ⟨tI, A80, H⟩ := H; replace H : (impl_PerturbMap.j0 k l0 a1 (!tI) a2_0 a2_1) = some (r1, r2) := H; have A8 := Aside0.mk A80; clear A80; have H' := Aside0.mk H; clear H; go_wp2_with (first | ((with_reducible refine gate_callee (f := 70) rfl ?_); refine goesL_ (some 12) rfl rfl Try.func70 (by kernel_rfl) rfl #[.slice A0 l0.length c0] rfl zz62 ?_; (with_reducible refine (impl_isMap.calls k _ _ l0 true _ ?side1 ?side2 A6.out).mono ?_); (case side1 => repeat (first | exact (Kd.C_below HR0.out HB.out) | (with_reducible refine Kd.C_alloc ?_ _) | (with_reducible refine Kd.C_drewN ?_ _) | (with_reducible refine Kd.C_drew ?_))); (case side2 => exact HC0.out); rintro e w9 ⟨rfl, hb⟩; refine ⟨_, rfl, ?_⟩; replace BKF := blkA BKF hb; replace HB := Aside0.mk (below_step zz60 hb); (try clear hb)) | (go_at_call 71; (with_reducible refine (impl_within.calls a1 0 (wrap64 ((l0.length : Int) - 1)) tI _ A8.out).mono ?_); rintro e w' ⟨rfl, ⟨nd, rfl⟩⟩))
   go_meet
   case rel => exact ⟨_, (!tI), zz102, H', ⟨by first | omega | exact Nat.le_refl _⟩, ⟨by (with_reducible repeat (first | refine blk_drewN ?_ _ | refine blk_drew ?_ | refine blk_alloc ?_ _)); exact BKF.out⟩, ⟨by repeat (first | (with_reducible first | exact HB.out | apply below_alloc | apply pw_below_drewN | apply below_drew1 | refine below_set ?_ GEF.out) | exact HB.out)⟩⟩
  ·replace c7 := Bool.eq_false_iff.mpr c7; subst c7; have H1 : (impl_PerturbMap.j0 k l0 a1 true a2_0 a2_1) = some (r1, r2) := by rw [if_neg (show ¬ (false = true) by decide)] at H; exact H
   clear H; have H := H1; clear H1; have H' := Aside0.mk H; clear H; go_wp2_with (first | ((with_reducible refine gate_callee (f := 70) rfl ?_); refine goesL_ (some 12) rfl rfl Try.func70 (by kernel_rfl) rfl #[.slice A0 l0.length c0] rfl zz62 ?_; (with_reducible refine (impl_isMap.calls k _ _ l0 false _ ?side1 ?side2 A6.out).mono ?_); (case side1 => repeat (first | exact (Kd.C_below HR0.out HB.out) | (with_reducible refine Kd.C_alloc ?_ _) | (with_reducible refine Kd.C_drewN ?_ _) | (with_reducible refine Kd.C_drew ?_))); (case side2 => exact HC0.out); rintro e w10 ⟨rfl, hb⟩; refine ⟨_, rfl, ?_⟩; replace BKF := blkA BKF hb; replace HB := Aside0.mk (below_step zz60 hb); (try clear hb)))
   go_meet
   case rel => exact ⟨_, (true), zz102, H', ⟨by first | omega | exact Nat.le_refl _⟩, ⟨by (with_reducible repeat (first | refine blk_drewN ?_ _ | refine blk_drew ?_ | refine blk_alloc ?_ _)); exact BKF.out⟩, ⟨by repeat (first | (with_reducible first | exact HB.out | apply below_alloc | apply pw_below_drewN | apply below_drew1 | refine below_set ?_ GEF.out) | exact HB.out)⟩⟩
 case rest =>
  clear HC4; try clear p2
  try clear c3
  try clear p6
  try clear c7
  obtain ⟨kq, x21_3, rfl, HA, HJ3, BKF, HB⟩ := hcut; cases kq with
  | zero => exact absurd HA.out (by simp [impl_PerturbMap.j0])
  | succ kj3 =>
   have H := HA.out; clear HA; simp only [impl_PerturbMap.j0] at H; by_cases c11 : x21_3 = true
   ·subst c11; have H1 : (some (([] : List (S79)), false)) = some (r1, r2) := by rw [if_pos rfl] at H; exact H
    clear H; have H := H1; clear H1; simp only [Option.some.injEq, Prod.mk.injEq] at H; obtain ⟨rfl, rfl⟩ := H; go_wp2
    go_ret2
    exact ⟨_, by first | rfl | (simp [errW_none, errW_some] <;> rfl) | (simp [*, errW_none, errW_some] <;> rfl), by first | exact Kd.R_nil _ _ _ _ _ | exact Kd.N_nil _ _ _ _ _ | exact Kd.V_nil _ _ _ _ _ | exact Kd.Q_nil _ _ _ _ _ | exact Kd.S_nil _ _ _ _ _, by repeat (first | (with_reducible first | exact HB.out | apply below_alloc | apply pw_below_drewN | apply below_drew1 | refine below_set ?_ GEF.out) | exact HB.out)⟩
   ·replace c11 := Bool.eq_false_iff.mpr c11; subst c11; have H1 : (if 0 ≤ a1 then (if a1 < (l0.length : Int) then ((impl_AddRats.f kj3 ((rd_T79 l0 a1).f1.f0) ((rd_T79 l0 a1).f1.f1) a2_0 a2_1).bind fun btG => ((impl_Point_73.f l0).bind fun tC => (if a1 < (tC.length : Int) then ((some (tC.set (a1 : Int).toNat (⟨(⟨(rd_T79 tC a1).f0.f0, (rd_T79 tC a1).f0.f1⟩ : S47), (⟨btG.1, btG.2.1⟩ : S47)⟩ : S79) : List (S79))).bind fun yB => (if btG.2.2 = true then ((impl_isMap.f kj3 yB).bind fun tJ => (if tJ = true then (some (yB, true)) else (some (([] : List (S79)), false)))) else (some (([] : List (S79)), false)))) else (none)))) else (none)) else (none)) = some (r1, r2) := by rw [if_neg (show ¬ (false = true) by decide)] at H; exact H
    clear H; have H := H1; clear H1; by_cases c12 : 0 ≤ a1
    ·rw [if_pos c12] at H; have c12b0 : decide (0 ≤ a1) = true := decide_eq_true c12; clear c12; by_cases c13 : a1 < (l0.length : Int)
     ·rw [if_pos c13] at H; have c13b0 : decide (a1 < (l0.length : Int)) = true := decide_eq_true c13; clear c13; replace H := Option.bind_eq_some_iff.mp H; obtain ⟨⟨tG, tK, tL⟩, AM, H⟩ := H; replace H : ((impl_Point_73.f l0).bind fun tC => (if a1 < (tC.length : Int) then ((some (tC.set (a1 : Int).toNat (⟨(⟨(rd_T79 tC a1).f0.f0, (rd_T79 tC a1).f0.f1⟩ : S47), (⟨tG, tK⟩ : S47)⟩ : S79) : List (S79))).bind fun yB => (if tL = true then ((impl_isMap.f kj3 yB).bind fun tJ => (if tJ = true then (some (yB, true)) else (some (([] : List (S79)), false)))) else (some (([] : List (S79)), false)))) else (none))) = some (r1, r2) := H; have A14 := Aside0.mk AM; clear AM; replace H := Option.bind_eq_some_iff.mp H; obtain ⟨tC, AN, H⟩ := H; replace H : (if a1 < (tC.length : Int) then ((some (tC.set (a1 : Int).toNat (⟨(⟨(rd_T79 tC a1).f0.f0, (rd_T79 tC a1).f0.f1⟩ : S47), (⟨tG, tK⟩ : S47)⟩ : S79) : List (S79))).bind fun yB => (if tL = true then ((impl_isMap.f kj3 yB).bind fun tJ => (if tJ = true then (some (yB, true)) else (some (([] : List (S79)), false)))) else (some (([] : List (S79)), false)))) else (none)) = some (r1, r2) := H; have A15 := Aside0.mk AN; clear AN; by_cases c16 : a1 < (tC.length : Int)
      ·rw [if_pos c16] at H; have c16b0 : decide (a1 < (tC.length : Int)) = true := decide_eq_true c16; clear c16; obtain ⟨yB, hyB⟩ : ∃ y_ : List (S79), y_ = (tC.set (a1 : Int).toNat (⟨(⟨(rd_T79 tC a1).f0.f0, (rd_T79 tC a1).f0.f1⟩ : S47), (⟨tG, tK⟩ : S47)⟩ : S79)) := ⟨_, rfl⟩; replace H : (if tL = true then ((impl_isMap.f kj3 yB).bind fun tJ => (if tJ = true then (some (yB, true)) else (some (([] : List (S79)), false)))) else (some (([] : List (S79)), false))) = some (r1, r2) := by first | (rw [hyB]; with_reducible exact H) | (have H2_ := (Option.bind_some _ _).symm.trans H; rw [hyB]; with_reducible exact H2_) | (have H2_ := (Option.bind_some _ _).symm.trans H; with_reducible exact H2_) | with_reducible exact H | (rw [hyB]; exact H) | exact H
       have NyB := Aside0.mk hyB; clear hyB; by_cases c18 : tL = true
       ·subst c18; have H1 : ((impl_isMap.f kj3 yB).bind fun tJ => (if tJ = true then (some (yB, true)) else (some (([] : List (S79)), false)))) = some (r1, r2) := by rw [if_pos rfl] at H; exact H
        clear H; have H := H1; clear H1; replace H := Option.bind_eq_some_iff.mp H; obtain ⟨tJ, AO, H⟩ := H; replace H : (if tJ = true then (some (yB, true)) else (some (([] : List (S79)), false))) = some (r1, r2) := H; have A19 := Aside0.mk AO; clear AO; by_cases c20 : tJ = true
        ·subst c20; have H1 : (some (yB, true)) = some (r1, r2) := by rw [if_pos rfl] at H; exact H
         clear H; have H := H1; clear H1; simp only [Option.some.injEq, Prod.mk.injEq] at H; obtain ⟨rfl, rfl⟩ := H; try go_wp2
         replace BKF := Aside0.mk (blk_drew BKF.out); replace HB := Aside0.mk (below_drew1 HB.out); have pA : 0 ≤ (a1 : Int) := of_decide_eq_true zz101; have qA : a1 < (l0.length : Int) := of_decide_eq_true zz101; obtain ⟨adA, eA, hxA_0, hxA_1, hxA_2, hxA_3⟩ := at_T79 HR0.out a1 pA qA; have hwA_3 := hxA_3; have hwA_2 := hxA_2; have hwA_1 := hxA_1; have hwA_0 := hxA_0; cases eA
         replace hxA_0 := (HB.out.cell (World.block_lt_of_cell? w _ hxA_0)).trans hxA_0; replace hxA_1 := (HB.out.cell (World.block_lt_of_cell? w _ hxA_1)).trans hxA_1; replace hxA_2 := (HB.out.cell (World.block_lt_of_cell? w _ hxA_2)).trans hxA_2; replace hxA_3 := (HB.out.cell (World.block_lt_of_cell? w _ hxA_3)).trans hxA_3; replace pA := eq_true pA; replace qA := eq_true qA; refine start_ (n := 13) (S := fun w' => w'.cell? ⟨gbF, 0, none⟩ = some (.int .i64 a2_0) ∧ w'.cell? ⟨gbF, 1, none⟩ = some (.int .i64 a2_1) ∧ w'.cell? (adA.add ((a1).toNat * 4)) = some (.int .i64 ((rd_T79 l0 a1).f0.f0)) ∧ w'.cell? ⟨(adA.add ((a1).toNat * 4)).block, (adA.add ((a1).toNat * 4)).off + 1, none⟩ = some (.int .i64 ((rd_T79 l0 a1).f0.f1)) ∧ w'.cell? ⟨(adA.add ((a1).toNat * 4)).block, (adA.add ((a1).toNat * 4)).off + 2, none⟩ = some (.int .i64 ((rd_T79 l0 a1).f1.f0)) ∧ w'.cell? ⟨(adA.add ((a1).toNat * 4)).block, (adA.add ((a1).toNat * 4)).off + 3, none⟩ = some (.int .i64 ((rd_T79 l0 a1).f1.f1))) (ds := []) #[fF, fF, fF, fF, fF, fF, fF, fF, fF, fF, fF, fF, fF] (by kernel_rfl) rfl rfl ⟨(blk_cell BKF.out 0).trans rfl, (blk_cell BKF.out 1).trans rfl, ((HB.out.cell (World.block_lt_of_cell? w _ hwA_0)).trans hwA_0), ((HB.out.cell (World.block_lt_of_cell? w _ hwA_1)).trans hwA_1), ((HB.out.cell (World.block_lt_of_cell? w _ hwA_2)).trans hwA_2), ((HB.out.cell (World.block_lt_of_cell? w _ hwA_3)).trans hwA_3)⟩ (fun hHeld => ?_); refine with_tabW impl_PerturbMap.tab3 impl_PerturbMap.bits3 (fun HT_ HW_ => ?_); generalize wc.drew = w21 at BKF HB hxA_0 hxA_1 hxA_2 hxA_3 hHeld ⊢; refine pureA 0 (some 23) #[tT, fF, fF, fF, fF, fF, fF, fF, fF, fF, fF, fF, fF] HT_ ?_; refine pureA 1 (some 24) #[tT, tT, fF, fF, fF, fF, fF, fF, fF, fF, fF, fF, fF] HT_ ?_; refine pureA 2 (some 25) #[tT, tT, tT, fF, fF, fF, fF, fF, fF, fF, fF, fF, fF] HT_ ?_; refine pureA 3 (some 26) #[tT, tT, tT, tT, fF, fF, fF, fF, fF, fF, fF, fF, fF] HT_ ?_; refine takeA2 4 (some 27) #[tT, tT, tT, tT, tT, fF, fF, fF, fF, fF, fF, fF, fF] HT_ HW_ hHeld ?_; refine takeA2 5 (some 28) #[tT, tT, tT, tT, tT, tT, fF, fF, fF, fF, fF, fF, fF] HT_ HW_ hHeld ?_; refine join_ (σ := Nat) 2 #[tT, tT, tT, tT, tT, tT, tT, tT, tT, tT, tT, fF, fF] (fun s_ => [(29, .tuple #[.agg #[.int .i64 tG, .int .i64 tK], .bool true]), (8, .pointer (some ⟨s_, 0, none⟩)), (22, .tuple #[.agg #[.int .i64 tG, .int .i64 tK], .bool true]), (30, .agg #[.int .i64 tG, .int .i64 tK]), (31, .bool true)]) (fun s_ w' => (w'.cell? ⟨gbF, 0, none⟩ = some (.int .i64 a2_0) ∧ w'.cell? ⟨gbF, 1, none⟩ = some (.int .i64 a2_1) ∧ w'.cell? (adA.add ((a1).toNat * 4)) = some (.int .i64 ((rd_T79 l0 a1).f0.f0)) ∧ w'.cell? ⟨(adA.add ((a1).toNat * 4)).block, (adA.add ((a1).toNat * 4)).off + 1, none⟩ = some (.int .i64 ((rd_T79 l0 a1).f0.f1)) ∧ w'.cell? ⟨(adA.add ((a1).toNat * 4)).block, (adA.add ((a1).toNat * 4)).off + 2, none⟩ = some (.int .i64 ((rd_T79 l0 a1).f1.f0)) ∧ w'.cell? ⟨(adA.add ((a1).toNat * 4)).block, (adA.add ((a1).toNat * 4)).off + 3, none⟩ = some (.int .i64 ((rd_T79 l0 a1).f1.f1))) ∧ (w'.heap[gbF]? = some (.cells #[.int .i64 a2_0, .int .i64 a2_1] 47 (0, 0))) ∧ (w'.heap[s_]? = some (.cells #[.int .i64 0, .int .i64 0] 47 (0, 0))) ∧ (w.heap.size ≤ s_) ∧ (w.heap.size ≤ s_) ∧ (gbF ≠ s_) ∧ (s_ ≠ gbF) ∧ (Below w.heap.size w w')) ?_ ?_; rotate_left
         ·intro hCont; refine two_ (i := 6) (j := 10) (Ni := some 29) (Nj := some 8) #[tT, tT, tT, tT, tT, tT, tT, fF, fF, fF, fF, fF, fF] #[tT, tT, tT, tT, tT, tT, fF, fF, fF, fF, tT, fF, fF] rfl rfl rfl rfl (two_of HT_.out (by kernel_rfl)) (by decide) (by decide) (fun K hK => ?_) (fun K hK => ?_)
          ·skip
           refine goes_ Try.func72 (by kernel_rfl) rfl #[.agg #[.int .i64 ((rd_T79 l0 a1).f1.f0), .int .i64 ((rd_T79 l0 a1).f1.f1)], .agg #[.int .i64 a2_0, .int .i64 a2_1]] (by rfl) rfl rfl zz62 ?_; with_reducible refine (impl_AddRats.calls kj3 ((rd_T79 l0 a1).f1.f0) ((rd_T79 l0 a1).f1.f1) a2_0 a2_1 tG tK true _ A14.out).mono ?_
           rintro e w22 ⟨rfl, hb⟩; refine ⟨_, rfl, ?_⟩; replace BKF := blkA BKF hb; replace HB := Aside0.mk (below_step zz60 hb); (try clear hb); refine hK.out _ _ ⟨(blk_cell BKF.out 0).trans rfl, (blk_cell BKF.out 1).trans rfl, ((HB.out.cell (World.block_lt_of_cell? w _ hwA_0)).trans hwA_0), ((HB.out.cell (World.block_lt_of_cell? w _ hwA_1)).trans hwA_1), ((HB.out.cell (World.block_lt_of_cell? w _ hwA_2)).trans hwA_2), ((HB.out.cell (World.block_lt_of_cell? w _ hwA_3)).trans hwA_3)⟩ (fun hHeld => ?_); clear hK K; refine normA (some 29) ?_; refine pureA 7 (some 22) #[tT, tT, tT, tT, tT, tT, tT, tT, fF, fF, fF, fF, fF] HT_ ?_; refine pureA 8 (some 30) #[tT, tT, tT, tT, tT, tT, tT, tT, tT, fF, fF, fF, fF] HT_ ?_; refine pureA 9 (some 31) #[tT, tT, tT, tT, tT, tT, tT, tT, tT, tT, fF, fF, fF] HT_ ?_; refine one_ (i := 10) (N := some 8) #[tT, tT, tT, tT, tT, tT, tT, tT, tT, tT, tT, fF, fF] rfl rfl (one_of HT_.out (by kernel_rfl)) (by decide) (fun K hK => ?_); refine box_step ?hg (N := 8) ?hd (cs := #[.int .i64 0, .int .i64 0]) (t := 47) ?hr ?_; (case hd => rfl); (case hg => rfl); (case hr => first | (go_simp; done) | (go_simp; rfl)); intro gbE hg w23 hbox hb; have n3_ := gwA (below_size zz60) hg; have n4_ := gwA (below_size zz60) hg; have n5_ := nltA BKF hg; have n6_ := ngtA BKF hg; have GWE := n3_; have GEE := n4_; have NBF_E := n5_; have NBE_F := n6_; clear n3_ n4_ n5_ n6_; replace BKF := blkA BKF hb; have BKE := Aside0.mk (hbox); replace HB := Aside0.mk (below_step zz60 hb); clear hb hbox hg; refine hK.out _ _ ⟨(blk_cell BKF.out 0).trans rfl, (blk_cell BKF.out 1).trans rfl, ((HB.out.cell (World.block_lt_of_cell? w _ hwA_0)).trans hwA_0), ((HB.out.cell (World.block_lt_of_cell? w _ hwA_1)).trans hwA_1), ((HB.out.cell (World.block_lt_of_cell? w _ hwA_2)).trans hwA_2), ((HB.out.cell (World.block_lt_of_cell? w _ hwA_3)).trans hwA_3)⟩ (fun hHeld => ?_); clear hK K; refine normA (some 8) ?_; exact norm_ zz91 (hCont (gbE) _ ⟨hHeld, zz72, zz73, GWE.out, GEE.out, NBF_E.out, NBE_F.out, zz37⟩)
          ·skip
           refine box_step ?hg (N := 8) ?hd (cs := #[.int .i64 0, .int .i64 0]) (t := 47) ?hr ?_; (case hd => rfl); (case hg => rfl); (case hr => first | (go_simp; done) | (go_simp; rfl)); intro gbE hg w22 hbox hb; have n3_ := gwA (below_size zz60) hg; have n4_ := gwA (below_size zz60) hg; have n5_ := nltA BKF hg; have n6_ := ngtA BKF hg; have GWE := n3_; have GEE := n4_; have NBF_E := n5_; have NBE_F := n6_; clear n3_ n4_ n5_ n6_; replace BKF := blkA BKF hb; have BKE := Aside0.mk (hbox); replace HB := Aside0.mk (below_step zz60 hb); clear hb hbox hg; refine hK.out _ _ ⟨(blk_cell BKF.out 0).trans rfl, (blk_cell BKF.out 1).trans rfl, ((HB.out.cell (World.block_lt_of_cell? w _ hwA_0)).trans hwA_0), ((HB.out.cell (World.block_lt_of_cell? w _ hwA_1)).trans hwA_1), ((HB.out.cell (World.block_lt_of_cell? w _ hwA_2)).trans hwA_2), ((HB.out.cell (World.block_lt_of_cell? w _ hwA_3)).trans hwA_3)⟩ (fun hHeld => ?_); clear hK K; refine normA (some 8) ?_; refine one_ (i := 6) (N := some 29) #[tT, tT, tT, tT, tT, tT, tT, fF, fF, fF, tT, fF, fF] rfl rfl (one_of HT_.out (by kernel_rfl)) (by decide) (fun K hK => ?_); refine goes_ Try.func72 (by kernel_rfl) rfl #[.agg #[.int .i64 ((rd_T79 l0 a1).f1.f0), .int .i64 ((rd_T79 l0 a1).f1.f1)], .agg #[.int .i64 a2_0, .int .i64 a2_1]] (by rfl) rfl rfl zz62 ?_; with_reducible refine (impl_AddRats.calls kj3 ((rd_T79 l0 a1).f1.f0) ((rd_T79 l0 a1).f1.f1) a2_0 a2_1 tG tK true _ A14.out).mono ?_
           rintro e w23 ⟨rfl, hb⟩; refine ⟨_, rfl, ?_⟩; replace BKF := blkA BKF hb; replace BKE := blkA BKE hb; replace HB := Aside0.mk (below_step zz37 hb); (try clear hb); refine hK.out _ _ ⟨(blk_cell BKF.out 0).trans rfl, (blk_cell BKF.out 1).trans rfl, ((HB.out.cell (World.block_lt_of_cell? w _ hwA_0)).trans hwA_0), ((HB.out.cell (World.block_lt_of_cell? w _ hwA_1)).trans hwA_1), ((HB.out.cell (World.block_lt_of_cell? w _ hwA_2)).trans hwA_2), ((HB.out.cell (World.block_lt_of_cell? w _ hwA_3)).trans hwA_3)⟩ (fun hHeld => ?_); clear hK K; refine normA (some 29) ?_; refine pureA 7 (some 22) #[tT, tT, tT, tT, tT, tT, tT, tT, fF, fF, tT, fF, fF] HT_ ?_; refine pureA 8 (some 30) #[tT, tT, tT, tT, tT, tT, tT, tT, tT, fF, tT, fF, fF] HT_ ?_; refine pureA 9 (some 31) #[tT, tT, tT, tT, tT, tT, tT, tT, tT, tT, tT, fF, fF] HT_ ?_; exact norm_ zz91 (hCont (gbE) _ ⟨hHeld, zz72, zz73, GWE.out, GEE.out, NBF_E.out, NBE_F.out, zz37⟩)
         rintro gbE w24 ⟨hS_, h0_, h1_, h2_, h3_, h4_, h5_, h6_⟩; have n0_ : Aside0 (w24.heap[gbF]? = some (.cells #[.int .i64 a2_0, .int .i64 a2_1] 47 (0, 0))) := ⟨h0_⟩; have n1_ : Aside0 (w24.heap[gbE]? = some (.cells #[.int .i64 0, .int .i64 0] 47 (0, 0))) := ⟨h1_⟩; have n2_ : Aside0 (w.heap.size ≤ gbE) := ⟨h2_⟩; have n3_ : Aside0 (w.heap.size ≤ gbE) := ⟨h3_⟩; have n4_ : Aside0 (gbF ≠ gbE) := ⟨h4_⟩; have n5_ : Aside0 (gbE ≠ gbF) := ⟨h5_⟩; have n6_ : Aside0 (Below w.heap.size w w24) := ⟨h6_⟩; clear BKF; clear HB; clear h0_ h1_ h2_ h3_ h4_ h5_ h6_; have BKF := n0_; have BKE := n1_; have GWE := n2_; have GEE := n3_; have NBF_E := n4_; have NBE_F := n5_; have HB := n6_; clear n0_ n1_ n2_ n3_ n4_ n5_ n6_; have hHeld : w24.cell? ⟨gbF, 0, none⟩ = some (.int .i64 a2_0) ∧ w24.cell? ⟨gbF, 1, none⟩ = some (.int .i64 a2_1) ∧ w24.cell? (adA.add ((a1).toNat * 4)) = some (.int .i64 ((rd_T79 l0 a1).f0.f0)) ∧ w24.cell? ⟨(adA.add ((a1).toNat * 4)).block, (adA.add ((a1).toNat * 4)).off + 1, none⟩ = some (.int .i64 ((rd_T79 l0 a1).f0.f1)) ∧ w24.cell? ⟨(adA.add ((a1).toNat * 4)).block, (adA.add ((a1).toNat * 4)).off + 2, none⟩ = some (.int .i64 ((rd_T79 l0 a1).f1.f0)) ∧ w24.cell? ⟨(adA.add ((a1).toNat * 4)).block, (adA.add ((a1).toNat * 4)).off + 3, none⟩ = some (.int .i64 ((rd_T79 l0 a1).f1.f1)) := hS_; refine norm_ (a' := ?_) ?_ ?_; rotate_left
         ·simp only [putAll, Act.put, List.setIfInBounds_toArray, List.set_cons_zero, List.set_cons_succ]; rfl
         refine one_ (i := 11) (N := none) #[tT, tT, tT, tT, tT, tT, tT, tT, tT, tT, tT, tT, fF] rfl rfl (one_of HT_.out (by kernel_rfl)) (by decide) (fun K hK => ?_); have hs25 : w24.cell? ⟨gbE, 0, none⟩ = some (.int .i64 0) := (blk_cell BKE.out 0).trans rfl; have hfs25 := blk_frozen BKE.out 0; have hns25_0 := NBF_E.out; have hms25_0 := NBE_F.out; have hs26 : w24.cell? ⟨gbE, 1, none⟩ = some (.int .i64 0) := (blk_cell BKE.out 1).trans rfl; have hfs26 := blk_frozen BKE.out 1; have hns26_0 := NBF_E.out; have hms26_0 := NBE_F.out; refine skip_ (w1 := ?_) (by rfl) rfl ?_ ?_; rotate_left
         ·go_simp
          rfl
         refine hK.out _ _ ⟨((cell_far (p := ⟨gbE, _, none⟩) NBF_E.out _).trans (((cell_far (p := ⟨gbE, _, none⟩) NBF_E.out _).trans (hHeld.1)))), ((cell_far (p := ⟨gbE, _, none⟩) NBF_E.out _).trans (((cell_far (p := ⟨gbE, _, none⟩) NBF_E.out _).trans (hHeld.2.1)))), ((cell_far (p := ⟨gbE, _, none⟩) zz4 _).trans (((cell_far (p := ⟨gbE, _, none⟩) zz4 _).trans (hHeld.2.2.1)))), ((cell_far (p := ⟨gbE, _, none⟩) zz5 _).trans (((cell_far (p := ⟨gbE, _, none⟩) zz5 _).trans (hHeld.2.2.2.1)))), ((cell_far (p := ⟨gbE, _, none⟩) zz6 _).trans (((cell_far (p := ⟨gbE, _, none⟩) zz6 _).trans (hHeld.2.2.2.2.1)))), ((cell_far (p := ⟨gbE, _, none⟩) zz7 _).trans (((cell_far (p := ⟨gbE, _, none⟩) zz7 _).trans (hHeld.2.2.2.2.2))))⟩ (fun hHeld => ?_); clear hK K; refine pureA 12 (some 9) #[tT, tT, tT, tT, tT, tT, tT, tT, tT, tT, tT, tT, tT] HT_ ?_; refine done_ (done_of HT_.out (by kernel_rfl)) ?_; try go_wp2_with (first | ((with_reducible refine gate_callee (f := 73) rfl ?_); refine goesL_ (some 33) rfl rfl Try.func73 (by kernel_rfl) rfl #[.slice (some adA) l0.length c0] rfl zz62 ?_; (with_reducible refine (impl_Point_73.calls _ _ l0 tC _ ?side1 ?side2 A15.out).mono ?_); (case side1 => exact Kd.C_below HR0.out zz37); (case side2 => exact HC0.out); rintro e w27 ⟨vP, rfl, ho0, hb⟩; refine ⟨_, rfl, ?_⟩; have n0_ := Aside0.mk (Kd.R_lower ho0 (below_size zz37)); have n1_ := Aside0.mk (blk_below (g := gbF) (o := .cells #[.int .i64 a2_0, .int .i64 a2_1] 47 (0, 0)) zz22 hb); have n2_ := Aside0.mk (blk_below (g := gbE) (o := .cells #[.int .i64 tG, .int .i64 tK] 47 (0, 0)) zz14 hb); clear BKF BKE; have HOD := n0_; have BKF := n1_; have BKE := n2_; clear n0_ n1_ n2_; replace HB := Aside0.mk (below_step zz37 hb); (try clear hb); (try clear ho0); have hnb28 := NBE_F.out; have hnc28 := NBF_E.out; have hcz29_0 : w27.cell? ⟨gbE, 0, none⟩ = some (.int .i64 tG) := (blk_cell BKE.out 0).trans rfl; have hcz29_1 : w27.cell? ⟨gbE, 1, none⟩ = some (.int .i64 tK) := (blk_cell BKE.out 1).trans rfl; have hfz29_0 := blk_frozen BKE.out 0; have hfz29_1 := blk_frozen BKE.out 1; have p17 : 0 ≤ (a1 : Int) := of_decide_eq_true zz101; have q17 : (a1 : Int) < ((tC.length : Int) : Int) := of_decide_eq_true zz101; obtain ⟨go17, co17, eo17, gb17, gl17, cl17, HG17⟩ := Kd.R_form HOD.out (by omega); (first | cases eo17 | (injection eo17 with ea_ en_ ec_; (first | subst ea_ | (injection ea_ with ea_; subst ea_)); subst ec_; clear en_)); have GB17 := Aside0.mk gb17; have GG17 := Aside0.mk HG17; clear gb17 gl17 HG17; obtain ⟨ce17, hcl17, hM17, hcc17, hfr17⟩ := Kd.R_elem HOD.out z79 (a1 : Int) p17 q17; obtain rfl := k79_openM hM17; have hx17_0 : w27.cell? ⟨go17, (a1 : Int).toNat * 4, none⟩ = some (.int .i64 ((rd_T79 tC a1).f0.f0)) := hcc17 0 _ rfl; have hx17_1 : w27.cell? ⟨go17, (a1 : Int).toNat * 4 + 1, none⟩ = some (.int .i64 ((rd_T79 tC a1).f0.f1)) := hcc17 1 _ rfl; have hx17_2 : w27.cell? ⟨go17, (a1 : Int).toNat * 4 + 2, none⟩ = some (.int .i64 ((rd_T79 tC a1).f1.f0)) := hcc17 2 _ rfl; have hx17_3 : w27.cell? ⟨go17, (a1 : Int).toNat * 4 + 3, none⟩ = some (.int .i64 ((rd_T79 tC a1).f1.f1)) := hcc17 3 _ rfl; have hf17_0 : w27.frozen? ⟨go17, (a1 : Int).toNat * 4, none⟩ = false := hfr17 0; have hf17_1 : w27.frozen? ⟨go17, (a1 : Int).toNat * 4 + 1, none⟩ = false := hfr17 1; have hf17_2 : w27.frozen? ⟨go17, (a1 : Int).toNat * 4 + 2, none⟩ = false := hfr17 2; have hf17_3 : w27.frozen? ⟨go17, (a1 : Int).toNat * 4 + 3, none⟩ = false := hfr17 3; clear hcl17 hcc17 hfr17; (try clear hM17); replace p17 := eq_true p17; replace q17 := eq_true q17; have HX30 := Aside0.mk (show Kd.R k79 79 w27 w.heap.size (fun _ => True) (.slice (some ⟨go17, 0, none⟩) tC.length co17) tC from zz78); obtain ⟨ce30, hcl30, hM30, hcc30, hfr30⟩ := Kd.R_elem HX30.out z79 (a1 : Int) (of_decide_eq_true zz101) (by have h_ : (a1 : Int) < ((tC.length : Int) : Int) := of_decide_eq_true zz101; first | exact h_ | (have e_ := (Kd.R_reads' HOD.out).1; omega) | simpa using h_); obtain rfl := k79_openM hM30; have HP30 := Kd.R_seg HX30.out (a1 : Int) (of_decide_eq_true zz101) (by have h_ : (a1 : Int) < ((tC.length : Int) : Int) := of_decide_eq_true zz101; first | exact h_ | (have e_ := (Kd.R_reads' HOD.out).1; omega) | simpa using h_) (seg := [.int .i64 tG, .int .i64 tK]) (j := 2) hcl30 hcc30 (show 4 ≤ 4 from by decide) (x' := (⟨(⟨(rd_T79 tC a1).f0.f0, (rd_T79 tC a1).f0.f1⟩ : S47), (⟨tG, tK⟩ : S47)⟩ : S79)) (k79_mkM _ _ _ (⟨(⟨(rd_T79 tC a1).f0.f0, (rd_T79 tC a1).f0.f1⟩ : S47), (⟨tG, tK⟩ : S47)⟩ : S79) ) (fun _ hk => hk); have hx30_2 := hcc30 2 _ rfl; (try simp only [show (k79).sz = 4 from rfl, Nat.mul_one, Nat.add_zero] at hx30_2); have hf30_2 := hfr30 2; (try simp only [show (k79).sz = 4 from rfl, Nat.mul_one, Nat.add_zero] at hf30_2); have hx30_3 := hcc30 3 _ rfl; (try simp only [show (k79).sz = 4 from rfl, Nat.mul_one, Nat.add_zero] at hx30_3); have hf30_3 := hfr30 3; (try simp only [show (k79).sz = 4 from rfl, Nat.mul_one, Nat.add_zero] at hf30_3); clear hcl30 hcc30 hfr30; (try clear hM30)) | ((with_reducible refine gate_store (t := 47) (p := 38) rfl ?_); refine store_event (t := 47) (p := 38) (v := ?vo_w31) (w1 := ((w27.setCell ⟨go17, (a1 : Int).toNat * 4 + 2, none⟩ (.int .i64 tG)).setCell ⟨go17, (a1 : Int).toNat * 4 + 3, none⟩ (.int .i64 tK))) ?hg ?ho ?hn ?hr ?_; (case ho => rfl); (case hg => rfl); (case hn => rfl); (case hr => first | (go_simp; done) | (go_simp; rfl)); intro w31 hw; have hg : w27.grownBy w31 (some go17) := (by rw [hw]; exact HP30.2); have hp_ : Kd.R k79 79 w31 w.heap.size (fun _ => True) (.slice (some ⟨go17, 0, none⟩) tC.length co17) yB := (by rw [hw, NyB.out]; exact HP30.1); clear HP30; have n0_ := Aside0.mk (blk_grown (g := gbF) (o := .cells #[.int .i64 a2_0, .int .i64 a2_1] 47 (0, 0)) zz72 hg (Kd.R_ne HOD.out BKF.out (by decide))); have n1_ := Aside0.mk (blk_grown (g := gbE) (o := .cells #[.int .i64 tG, .int .i64 tK] 47 (0, 0)) zz73 hg (Kd.R_ne HOD.out BKE.out (by decide))); have n2_ := Aside0.mk (hp_); have n3_ := Aside0.mk ((by rw [hw]; exact below_set (below_set (HB.out) GB17.out) GB17.out : Below w.heap.size w w31)); clear BKF; clear BKE; clear HOD; clear HB; have BKF := n0_; have BKE := n1_; have HOD := n2_; have HB := n3_; clear n0_ n1_ n2_ n3_; clear hg hw hp_) | (go_at_call 70; refine calls_of_args (args' := #[.slice (some ⟨go17, 0, none⟩) yB.length co17]) zz92 ?_; (with_reducible refine (impl_isMap.calls kj3 _ _ yB true _ ?side1 ?side2 A19.out).mono ?_); (case side1 => repeat (first | exact (Kd.R_reads' HOD.out).2.2 | (with_reducible refine Kd.C_alloc ?_ _) | (with_reducible refine Kd.C_drewN ?_ _) | (with_reducible refine Kd.C_drew ?_))); (case side2 => rw [show yB.length = tC.length from (Kd.R_reads' HOD.out).1.symm]; exact (Kd.R_reads' HOD.out).2.1); rintro e w32 ⟨rfl, hb⟩; have n0_ := Aside0.mk (Kd.R_below zz78 hb); clear HOD; have HOD := n0_; clear n0_; replace BKF := blkA BKF hb; replace BKE := blkA BKE hb; replace HB := Aside0.mk (below_step zz37 hb); (try clear hb)))
         go_ret2
         exact ⟨_, by first | rfl | (simp [errW_none, errW_some] <;> rfl) | (simp [*, errW_none, errW_some] <;> rfl), by (with_reducible repeat (first | apply Kd.R_alloc | apply Kd.R_drewN | apply Kd.R_drew)); exact HOD.out, by repeat (first | (with_reducible first | exact HB.out | apply below_alloc | apply pw_below_drewN | apply below_drew1 | refine below_set ?_ GEF.out | refine below_set ?_ GEE.out) | exact HB.out)⟩
        ·replace c20 := Bool.eq_false_iff.mpr c20; subst c20; have H1 : (some (([] : List (S79)), false)) = some (r1, r2) := by rw [if_neg (show ¬ (false = true) by decide)] at H; exact H
         clear H; have H := H1; clear H1; simp only [Option.some.injEq, Prod.mk.injEq] at H; obtain ⟨rfl, rfl⟩ := H; try go_wp2
         replace BKF := Aside0.mk (blk_drew BKF.out); replace HB := Aside0.mk (below_drew1 HB.out); have pA : 0 ≤ (a1 : Int) := of_decide_eq_true zz101; have qA : a1 < (l0.length : Int) := of_decide_eq_true zz101; obtain ⟨adA, eA, hxA_0, hxA_1, hxA_2, hxA_3⟩ := at_T79 HR0.out a1 pA qA; have hwA_3 := hxA_3; have hwA_2 := hxA_2; have hwA_1 := hxA_1; have hwA_0 := hxA_0; cases eA
         replace hxA_0 := (HB.out.cell (World.block_lt_of_cell? w _ hxA_0)).trans hxA_0; replace hxA_1 := (HB.out.cell (World.block_lt_of_cell? w _ hxA_1)).trans hxA_1; replace hxA_2 := (HB.out.cell (World.block_lt_of_cell? w _ hxA_2)).trans hxA_2; replace hxA_3 := (HB.out.cell (World.block_lt_of_cell? w _ hxA_3)).trans hxA_3; replace pA := eq_true pA; replace qA := eq_true qA; refine start_ (n := 13) (S := fun w' => w'.cell? ⟨gbF, 0, none⟩ = some (.int .i64 a2_0) ∧ w'.cell? ⟨gbF, 1, none⟩ = some (.int .i64 a2_1) ∧ w'.cell? (adA.add ((a1).toNat * 4)) = some (.int .i64 ((rd_T79 l0 a1).f0.f0)) ∧ w'.cell? ⟨(adA.add ((a1).toNat * 4)).block, (adA.add ((a1).toNat * 4)).off + 1, none⟩ = some (.int .i64 ((rd_T79 l0 a1).f0.f1)) ∧ w'.cell? ⟨(adA.add ((a1).toNat * 4)).block, (adA.add ((a1).toNat * 4)).off + 2, none⟩ = some (.int .i64 ((rd_T79 l0 a1).f1.f0)) ∧ w'.cell? ⟨(adA.add ((a1).toNat * 4)).block, (adA.add ((a1).toNat * 4)).off + 3, none⟩ = some (.int .i64 ((rd_T79 l0 a1).f1.f1))) (ds := []) #[fF, fF, fF, fF, fF, fF, fF, fF, fF, fF, fF, fF, fF] (by kernel_rfl) rfl rfl ⟨(blk_cell BKF.out 0).trans rfl, (blk_cell BKF.out 1).trans rfl, ((HB.out.cell (World.block_lt_of_cell? w _ hwA_0)).trans hwA_0), ((HB.out.cell (World.block_lt_of_cell? w _ hwA_1)).trans hwA_1), ((HB.out.cell (World.block_lt_of_cell? w _ hwA_2)).trans hwA_2), ((HB.out.cell (World.block_lt_of_cell? w _ hwA_3)).trans hwA_3)⟩ (fun hHeld => ?_); refine with_tabW impl_PerturbMap.tab3 impl_PerturbMap.bits3 (fun HT_ HW_ => ?_); generalize wc.drew = w33 at BKF HB hxA_0 hxA_1 hxA_2 hxA_3 hHeld ⊢; refine pureA 0 (some 23) #[tT, fF, fF, fF, fF, fF, fF, fF, fF, fF, fF, fF, fF] HT_ ?_; refine pureA 1 (some 24) #[tT, tT, fF, fF, fF, fF, fF, fF, fF, fF, fF, fF, fF] HT_ ?_; refine pureA 2 (some 25) #[tT, tT, tT, fF, fF, fF, fF, fF, fF, fF, fF, fF, fF] HT_ ?_; refine pureA 3 (some 26) #[tT, tT, tT, tT, fF, fF, fF, fF, fF, fF, fF, fF, fF] HT_ ?_; refine takeA2 4 (some 27) #[tT, tT, tT, tT, tT, fF, fF, fF, fF, fF, fF, fF, fF] HT_ HW_ hHeld ?_; refine takeA2 5 (some 28) #[tT, tT, tT, tT, tT, tT, fF, fF, fF, fF, fF, fF, fF] HT_ HW_ hHeld ?_; refine join_ (σ := Nat) 2 #[tT, tT, tT, tT, tT, tT, tT, tT, tT, tT, tT, fF, fF] (fun s_ => [(29, .tuple #[.agg #[.int .i64 tG, .int .i64 tK], .bool true]), (8, .pointer (some ⟨s_, 0, none⟩)), (22, .tuple #[.agg #[.int .i64 tG, .int .i64 tK], .bool true]), (30, .agg #[.int .i64 tG, .int .i64 tK]), (31, .bool true)]) (fun s_ w' => (w'.cell? ⟨gbF, 0, none⟩ = some (.int .i64 a2_0) ∧ w'.cell? ⟨gbF, 1, none⟩ = some (.int .i64 a2_1) ∧ w'.cell? (adA.add ((a1).toNat * 4)) = some (.int .i64 ((rd_T79 l0 a1).f0.f0)) ∧ w'.cell? ⟨(adA.add ((a1).toNat * 4)).block, (adA.add ((a1).toNat * 4)).off + 1, none⟩ = some (.int .i64 ((rd_T79 l0 a1).f0.f1)) ∧ w'.cell? ⟨(adA.add ((a1).toNat * 4)).block, (adA.add ((a1).toNat * 4)).off + 2, none⟩ = some (.int .i64 ((rd_T79 l0 a1).f1.f0)) ∧ w'.cell? ⟨(adA.add ((a1).toNat * 4)).block, (adA.add ((a1).toNat * 4)).off + 3, none⟩ = some (.int .i64 ((rd_T79 l0 a1).f1.f1))) ∧ (w'.heap[gbF]? = some (.cells #[.int .i64 a2_0, .int .i64 a2_1] 47 (0, 0))) ∧ (w'.heap[s_]? = some (.cells #[.int .i64 0, .int .i64 0] 47 (0, 0))) ∧ (w.heap.size ≤ s_) ∧ (w.heap.size ≤ s_) ∧ (gbF ≠ s_) ∧ (s_ ≠ gbF) ∧ (Below w.heap.size w w')) ?_ ?_; rotate_left
         ·intro hCont; refine two_ (i := 6) (j := 10) (Ni := some 29) (Nj := some 8) #[tT, tT, tT, tT, tT, tT, tT, fF, fF, fF, fF, fF, fF] #[tT, tT, tT, tT, tT, tT, fF, fF, fF, fF, tT, fF, fF] rfl rfl rfl rfl (two_of HT_.out (by kernel_rfl)) (by decide) (by decide) (fun K hK => ?_) (fun K hK => ?_)
          ·skip
           refine goes_ Try.func72 (by kernel_rfl) rfl #[.agg #[.int .i64 ((rd_T79 l0 a1).f1.f0), .int .i64 ((rd_T79 l0 a1).f1.f1)], .agg #[.int .i64 a2_0, .int .i64 a2_1]] (by rfl) rfl rfl zz62 ?_; with_reducible refine (impl_AddRats.calls kj3 ((rd_T79 l0 a1).f1.f0) ((rd_T79 l0 a1).f1.f1) a2_0 a2_1 tG tK true _ A14.out).mono ?_
           rintro e w34 ⟨rfl, hb⟩; refine ⟨_, rfl, ?_⟩; replace BKF := blkA BKF hb; replace HB := Aside0.mk (below_step zz60 hb); (try clear hb); refine hK.out _ _ ⟨(blk_cell BKF.out 0).trans rfl, (blk_cell BKF.out 1).trans rfl, ((HB.out.cell (World.block_lt_of_cell? w _ hwA_0)).trans hwA_0), ((HB.out.cell (World.block_lt_of_cell? w _ hwA_1)).trans hwA_1), ((HB.out.cell (World.block_lt_of_cell? w _ hwA_2)).trans hwA_2), ((HB.out.cell (World.block_lt_of_cell? w _ hwA_3)).trans hwA_3)⟩ (fun hHeld => ?_); clear hK K; refine normA (some 29) ?_; refine pureA 7 (some 22) #[tT, tT, tT, tT, tT, tT, tT, tT, fF, fF, fF, fF, fF] HT_ ?_; refine pureA 8 (some 30) #[tT, tT, tT, tT, tT, tT, tT, tT, tT, fF, fF, fF, fF] HT_ ?_; refine pureA 9 (some 31) #[tT, tT, tT, tT, tT, tT, tT, tT, tT, tT, fF, fF, fF] HT_ ?_; refine one_ (i := 10) (N := some 8) #[tT, tT, tT, tT, tT, tT, tT, tT, tT, tT, tT, fF, fF] rfl rfl (one_of HT_.out (by kernel_rfl)) (by decide) (fun K hK => ?_); refine box_step ?hg (N := 8) ?hd (cs := #[.int .i64 0, .int .i64 0]) (t := 47) ?hr ?_; (case hd => rfl); (case hg => rfl); (case hr => first | (go_simp; done) | (go_simp; rfl)); intro gbE hg w35 hbox hb; have n3_ := gwA (below_size zz60) hg; have n4_ := gwA (below_size zz60) hg; have n5_ := nltA BKF hg; have n6_ := ngtA BKF hg; have GWE := n3_; have GEE := n4_; have NBF_E := n5_; have NBE_F := n6_; clear n3_ n4_ n5_ n6_; replace BKF := blkA BKF hb; have BKE := Aside0.mk (hbox); replace HB := Aside0.mk (below_step zz60 hb); clear hb hbox hg; refine hK.out _ _ ⟨(blk_cell BKF.out 0).trans rfl, (blk_cell BKF.out 1).trans rfl, ((HB.out.cell (World.block_lt_of_cell? w _ hwA_0)).trans hwA_0), ((HB.out.cell (World.block_lt_of_cell? w _ hwA_1)).trans hwA_1), ((HB.out.cell (World.block_lt_of_cell? w _ hwA_2)).trans hwA_2), ((HB.out.cell (World.block_lt_of_cell? w _ hwA_3)).trans hwA_3)⟩ (fun hHeld => ?_); clear hK K; refine normA (some 8) ?_; exact norm_ zz91 (hCont (gbE) _ ⟨hHeld, zz72, zz73, GWE.out, GEE.out, NBF_E.out, NBE_F.out, zz37⟩)
          ·skip
           refine box_step ?hg (N := 8) ?hd (cs := #[.int .i64 0, .int .i64 0]) (t := 47) ?hr ?_; (case hd => rfl); (case hg => rfl); (case hr => first | (go_simp; done) | (go_simp; rfl)); intro gbE hg w34 hbox hb; have n3_ := gwA (below_size zz60) hg; have n4_ := gwA (below_size zz60) hg; have n5_ := nltA BKF hg; have n6_ := ngtA BKF hg; have GWE := n3_; have GEE := n4_; have NBF_E := n5_; have NBE_F := n6_; clear n3_ n4_ n5_ n6_; replace BKF := blkA BKF hb; have BKE := Aside0.mk (hbox); replace HB := Aside0.mk (below_step zz60 hb); clear hb hbox hg; refine hK.out _ _ ⟨(blk_cell BKF.out 0).trans rfl, (blk_cell BKF.out 1).trans rfl, ((HB.out.cell (World.block_lt_of_cell? w _ hwA_0)).trans hwA_0), ((HB.out.cell (World.block_lt_of_cell? w _ hwA_1)).trans hwA_1), ((HB.out.cell (World.block_lt_of_cell? w _ hwA_2)).trans hwA_2), ((HB.out.cell (World.block_lt_of_cell? w _ hwA_3)).trans hwA_3)⟩ (fun hHeld => ?_); clear hK K; refine normA (some 8) ?_; refine one_ (i := 6) (N := some 29) #[tT, tT, tT, tT, tT, tT, tT, fF, fF, fF, tT, fF, fF] rfl rfl (one_of HT_.out (by kernel_rfl)) (by decide) (fun K hK => ?_); refine goes_ Try.func72 (by kernel_rfl) rfl #[.agg #[.int .i64 ((rd_T79 l0 a1).f1.f0), .int .i64 ((rd_T79 l0 a1).f1.f1)], .agg #[.int .i64 a2_0, .int .i64 a2_1]] (by rfl) rfl rfl zz62 ?_; with_reducible refine (impl_AddRats.calls kj3 ((rd_T79 l0 a1).f1.f0) ((rd_T79 l0 a1).f1.f1) a2_0 a2_1 tG tK true _ A14.out).mono ?_
           rintro e w35 ⟨rfl, hb⟩; refine ⟨_, rfl, ?_⟩; replace BKF := blkA BKF hb; replace BKE := blkA BKE hb; replace HB := Aside0.mk (below_step zz37 hb); (try clear hb); refine hK.out _ _ ⟨(blk_cell BKF.out 0).trans rfl, (blk_cell BKF.out 1).trans rfl, ((HB.out.cell (World.block_lt_of_cell? w _ hwA_0)).trans hwA_0), ((HB.out.cell (World.block_lt_of_cell? w _ hwA_1)).trans hwA_1), ((HB.out.cell (World.block_lt_of_cell? w _ hwA_2)).trans hwA_2), ((HB.out.cell (World.block_lt_of_cell? w _ hwA_3)).trans hwA_3)⟩ (fun hHeld => ?_); clear hK K; refine normA (some 29) ?_; refine pureA 7 (some 22) #[tT, tT, tT, tT, tT, tT, tT, tT, fF, fF, tT, fF, fF] HT_ ?_; refine pureA 8 (some 30) #[tT, tT, tT, tT, tT, tT, tT, tT, tT, fF, tT, fF, fF] HT_ ?_; refine pureA 9 (some 31) #[tT, tT, tT, tT, tT, tT, tT, tT, tT, tT, tT, fF, fF] HT_ ?_; exact norm_ zz91 (hCont (gbE) _ ⟨hHeld, zz72, zz73, GWE.out, GEE.out, NBF_E.out, NBE_F.out, zz37⟩)
         rintro gbE w36 ⟨hS_, h0_, h1_, h2_, h3_, h4_, h5_, h6_⟩; have n0_ : Aside0 (w36.heap[gbF]? = some (.cells #[.int .i64 a2_0, .int .i64 a2_1] 47 (0, 0))) := ⟨h0_⟩; have n1_ : Aside0 (w36.heap[gbE]? = some (.cells #[.int .i64 0, .int .i64 0] 47 (0, 0))) := ⟨h1_⟩; have n2_ : Aside0 (w.heap.size ≤ gbE) := ⟨h2_⟩; have n3_ : Aside0 (w.heap.size ≤ gbE) := ⟨h3_⟩; have n4_ : Aside0 (gbF ≠ gbE) := ⟨h4_⟩; have n5_ : Aside0 (gbE ≠ gbF) := ⟨h5_⟩; have n6_ : Aside0 (Below w.heap.size w w36) := ⟨h6_⟩; clear BKF; clear HB; clear h0_ h1_ h2_ h3_ h4_ h5_ h6_; have BKF := n0_; have BKE := n1_; have GWE := n2_; have GEE := n3_; have NBF_E := n4_; have NBE_F := n5_; have HB := n6_; clear n0_ n1_ n2_ n3_ n4_ n5_ n6_; have hHeld : w36.cell? ⟨gbF, 0, none⟩ = some (.int .i64 a2_0) ∧ w36.cell? ⟨gbF, 1, none⟩ = some (.int .i64 a2_1) ∧ w36.cell? (adA.add ((a1).toNat * 4)) = some (.int .i64 ((rd_T79 l0 a1).f0.f0)) ∧ w36.cell? ⟨(adA.add ((a1).toNat * 4)).block, (adA.add ((a1).toNat * 4)).off + 1, none⟩ = some (.int .i64 ((rd_T79 l0 a1).f0.f1)) ∧ w36.cell? ⟨(adA.add ((a1).toNat * 4)).block, (adA.add ((a1).toNat * 4)).off + 2, none⟩ = some (.int .i64 ((rd_T79 l0 a1).f1.f0)) ∧ w36.cell? ⟨(adA.add ((a1).toNat * 4)).block, (adA.add ((a1).toNat * 4)).off + 3, none⟩ = some (.int .i64 ((rd_T79 l0 a1).f1.f1)) := hS_; refine norm_ (a' := ?_) ?_ ?_; rotate_left
         ·simp only [putAll, Act.put, List.setIfInBounds_toArray, List.set_cons_zero, List.set_cons_succ]; rfl
         refine one_ (i := 11) (N := none) #[tT, tT, tT, tT, tT, tT, tT, tT, tT, tT, tT, tT, fF] rfl rfl (one_of HT_.out (by kernel_rfl)) (by decide) (fun K hK => ?_); have hs37 : w36.cell? ⟨gbE, 0, none⟩ = some (.int .i64 0) := (blk_cell BKE.out 0).trans rfl; have hfs37 := blk_frozen BKE.out 0; have hns37_0 := NBF_E.out; have hms37_0 := NBE_F.out; have hs38 : w36.cell? ⟨gbE, 1, none⟩ = some (.int .i64 0) := (blk_cell BKE.out 1).trans rfl; have hfs38 := blk_frozen BKE.out 1; have hns38_0 := NBF_E.out; have hms38_0 := NBE_F.out; refine skip_ (w1 := ?_) (by rfl) rfl ?_ ?_; rotate_left
         ·go_simp
          rfl
         refine hK.out _ _ ⟨((cell_far (p := ⟨gbE, _, none⟩) NBF_E.out _).trans (((cell_far (p := ⟨gbE, _, none⟩) NBF_E.out _).trans (hHeld.1)))), ((cell_far (p := ⟨gbE, _, none⟩) NBF_E.out _).trans (((cell_far (p := ⟨gbE, _, none⟩) NBF_E.out _).trans (hHeld.2.1)))), ((cell_far (p := ⟨gbE, _, none⟩) zz4 _).trans (((cell_far (p := ⟨gbE, _, none⟩) zz4 _).trans (hHeld.2.2.1)))), ((cell_far (p := ⟨gbE, _, none⟩) zz5 _).trans (((cell_far (p := ⟨gbE, _, none⟩) zz5 _).trans (hHeld.2.2.2.1)))), ((cell_far (p := ⟨gbE, _, none⟩) zz6 _).trans (((cell_far (p := ⟨gbE, _, none⟩) zz6 _).trans (hHeld.2.2.2.2.1)))), ((cell_far (p := ⟨gbE, _, none⟩) zz7 _).trans (((cell_far (p := ⟨gbE, _, none⟩) zz7 _).trans (hHeld.2.2.2.2.2))))⟩ (fun hHeld => ?_); clear hK K; refine pureA 12 (some 9) #[tT, tT, tT, tT, tT, tT, tT, tT, tT, tT, tT, tT, tT] HT_ ?_; refine done_ (done_of HT_.out (by kernel_rfl)) ?_; try go_wp2_with (first | ((with_reducible refine gate_callee (f := 73) rfl ?_); refine goesL_ (some 33) rfl rfl Try.func73 (by kernel_rfl) rfl #[.slice (some adA) l0.length c0] rfl zz62 ?_; (with_reducible refine (impl_Point_73.calls _ _ l0 tC _ ?side1 ?side2 A15.out).mono ?_); (case side1 => exact Kd.C_below HR0.out zz37); (case side2 => exact HC0.out); rintro e w39 ⟨vP, rfl, ho0, hb⟩; refine ⟨_, rfl, ?_⟩; have n0_ := Aside0.mk (Kd.R_lower ho0 (below_size zz37)); have n1_ := Aside0.mk (blk_below (g := gbF) (o := .cells #[.int .i64 a2_0, .int .i64 a2_1] 47 (0, 0)) zz22 hb); have n2_ := Aside0.mk (blk_below (g := gbE) (o := .cells #[.int .i64 tG, .int .i64 tK] 47 (0, 0)) zz14 hb); clear BKF BKE; have HOD := n0_; have BKF := n1_; have BKE := n2_; clear n0_ n1_ n2_; replace HB := Aside0.mk (below_step zz37 hb); (try clear hb); (try clear ho0); have hnb40 := NBE_F.out; have hnc40 := NBF_E.out; have hcz41_0 : w39.cell? ⟨gbE, 0, none⟩ = some (.int .i64 tG) := (blk_cell BKE.out 0).trans rfl; have hcz41_1 : w39.cell? ⟨gbE, 1, none⟩ = some (.int .i64 tK) := (blk_cell BKE.out 1).trans rfl; have hfz41_0 := blk_frozen BKE.out 0; have hfz41_1 := blk_frozen BKE.out 1; have p17 : 0 ≤ (a1 : Int) := of_decide_eq_true zz101; have q17 : (a1 : Int) < ((tC.length : Int) : Int) := of_decide_eq_true zz101; obtain ⟨go17, co17, eo17, gb17, gl17, cl17, HG17⟩ := Kd.R_form HOD.out (by omega); (first | cases eo17 | (injection eo17 with ea_ en_ ec_; (first | subst ea_ | (injection ea_ with ea_; subst ea_)); subst ec_; clear en_)); have GB17 := Aside0.mk gb17; have GG17 := Aside0.mk HG17; clear gb17 gl17 HG17; obtain ⟨ce17, hcl17, hM17, hcc17, hfr17⟩ := Kd.R_elem HOD.out z79 (a1 : Int) p17 q17; obtain rfl := k79_openM hM17; have hx17_0 : w39.cell? ⟨go17, (a1 : Int).toNat * 4, none⟩ = some (.int .i64 ((rd_T79 tC a1).f0.f0)) := hcc17 0 _ rfl; have hx17_1 : w39.cell? ⟨go17, (a1 : Int).toNat * 4 + 1, none⟩ = some (.int .i64 ((rd_T79 tC a1).f0.f1)) := hcc17 1 _ rfl; have hx17_2 : w39.cell? ⟨go17, (a1 : Int).toNat * 4 + 2, none⟩ = some (.int .i64 ((rd_T79 tC a1).f1.f0)) := hcc17 2 _ rfl; have hx17_3 : w39.cell? ⟨go17, (a1 : Int).toNat * 4 + 3, none⟩ = some (.int .i64 ((rd_T79 tC a1).f1.f1)) := hcc17 3 _ rfl; have hf17_0 : w39.frozen? ⟨go17, (a1 : Int).toNat * 4, none⟩ = false := hfr17 0; have hf17_1 : w39.frozen? ⟨go17, (a1 : Int).toNat * 4 + 1, none⟩ = false := hfr17 1; have hf17_2 : w39.frozen? ⟨go17, (a1 : Int).toNat * 4 + 2, none⟩ = false := hfr17 2; have hf17_3 : w39.frozen? ⟨go17, (a1 : Int).toNat * 4 + 3, none⟩ = false := hfr17 3; clear hcl17 hcc17 hfr17; (try clear hM17); replace p17 := eq_true p17; replace q17 := eq_true q17; have HX42 := Aside0.mk (show Kd.R k79 79 w39 w.heap.size (fun _ => True) (.slice (some ⟨go17, 0, none⟩) tC.length co17) tC from zz78); obtain ⟨ce42, hcl42, hM42, hcc42, hfr42⟩ := Kd.R_elem HX42.out z79 (a1 : Int) (of_decide_eq_true zz101) (by have h_ : (a1 : Int) < ((tC.length : Int) : Int) := of_decide_eq_true zz101; first | exact h_ | (have e_ := (Kd.R_reads' HOD.out).1; omega) | simpa using h_); obtain rfl := k79_openM hM42; have HP42 := Kd.R_seg HX42.out (a1 : Int) (of_decide_eq_true zz101) (by have h_ : (a1 : Int) < ((tC.length : Int) : Int) := of_decide_eq_true zz101; first | exact h_ | (have e_ := (Kd.R_reads' HOD.out).1; omega) | simpa using h_) (seg := [.int .i64 tG, .int .i64 tK]) (j := 2) hcl42 hcc42 (show 4 ≤ 4 from by decide) (x' := (⟨(⟨(rd_T79 tC a1).f0.f0, (rd_T79 tC a1).f0.f1⟩ : S47), (⟨tG, tK⟩ : S47)⟩ : S79)) (k79_mkM _ _ _ (⟨(⟨(rd_T79 tC a1).f0.f0, (rd_T79 tC a1).f0.f1⟩ : S47), (⟨tG, tK⟩ : S47)⟩ : S79) ) (fun _ hk => hk); have hx42_2 := hcc42 2 _ rfl; (try simp only [show (k79).sz = 4 from rfl, Nat.mul_one, Nat.add_zero] at hx42_2); have hf42_2 := hfr42 2; (try simp only [show (k79).sz = 4 from rfl, Nat.mul_one, Nat.add_zero] at hf42_2); have hx42_3 := hcc42 3 _ rfl; (try simp only [show (k79).sz = 4 from rfl, Nat.mul_one, Nat.add_zero] at hx42_3); have hf42_3 := hfr42 3; (try simp only [show (k79).sz = 4 from rfl, Nat.mul_one, Nat.add_zero] at hf42_3); clear hcl42 hcc42 hfr42; (try clear hM42)) | ((with_reducible refine gate_store (t := 47) (p := 38) rfl ?_); refine store_event (t := 47) (p := 38) (v := ?vo_w43) (w1 := ((w39.setCell ⟨go17, (a1 : Int).toNat * 4 + 2, none⟩ (.int .i64 tG)).setCell ⟨go17, (a1 : Int).toNat * 4 + 3, none⟩ (.int .i64 tK))) ?hg ?ho ?hn ?hr ?_; (case ho => rfl); (case hg => rfl); (case hn => rfl); (case hr => first | (go_simp; done) | (go_simp; rfl)); intro w43 hw; have hg : w39.grownBy w43 (some go17) := (by rw [hw]; exact HP42.2); have hp_ : Kd.R k79 79 w43 w.heap.size (fun _ => True) (.slice (some ⟨go17, 0, none⟩) tC.length co17) yB := (by rw [hw, NyB.out]; exact HP42.1); clear HP42; have n0_ := Aside0.mk (blk_grown (g := gbF) (o := .cells #[.int .i64 a2_0, .int .i64 a2_1] 47 (0, 0)) zz72 hg (Kd.R_ne HOD.out BKF.out (by decide))); have n1_ := Aside0.mk (blk_grown (g := gbE) (o := .cells #[.int .i64 tG, .int .i64 tK] 47 (0, 0)) zz73 hg (Kd.R_ne HOD.out BKE.out (by decide))); have n2_ := Aside0.mk (hp_); have n3_ := Aside0.mk ((by rw [hw]; exact below_set (below_set (HB.out) GB17.out) GB17.out : Below w.heap.size w w43)); clear BKF; clear BKE; clear HOD; clear HB; have BKF := n0_; have BKE := n1_; have HOD := n2_; have HB := n3_; clear n0_ n1_ n2_ n3_; clear hg hw hp_) | (go_at_call 70; refine calls_of_args (args' := #[.slice (some ⟨go17, 0, none⟩) yB.length co17]) zz92 ?_; (with_reducible refine (impl_isMap.calls kj3 _ _ yB false _ ?side1 ?side2 A19.out).mono ?_); (case side1 => repeat (first | exact (Kd.R_reads' HOD.out).2.2 | (with_reducible refine Kd.C_alloc ?_ _) | (with_reducible refine Kd.C_drewN ?_ _) | (with_reducible refine Kd.C_drew ?_))); (case side2 => rw [show yB.length = tC.length from (Kd.R_reads' HOD.out).1.symm]; exact (Kd.R_reads' HOD.out).2.1); rintro e w44 ⟨rfl, hb⟩; have n0_ := Aside0.mk (Kd.R_below zz78 hb); clear HOD; have HOD := n0_; clear n0_; replace BKF := blkA BKF hb; replace BKE := blkA BKE hb; replace HB := Aside0.mk (below_step zz37 hb); (try clear hb)))
         go_ret2
         exact ⟨_, by first | rfl | (simp [errW_none, errW_some] <;> rfl) | (simp [*, errW_none, errW_some] <;> rfl), by first | exact Kd.R_nil _ _ _ _ _ | exact Kd.N_nil _ _ _ _ _ | exact Kd.V_nil _ _ _ _ _ | exact Kd.Q_nil _ _ _ _ _ | exact Kd.S_nil _ _ _ _ _, by repeat (first | (with_reducible first | exact HB.out | apply below_alloc | apply pw_below_drewN | apply below_drew1 | refine below_set ?_ GEF.out | refine below_set ?_ GEE.out) | exact HB.out)⟩
       ·replace c18 := Bool.eq_false_iff.mpr c18; subst c18; have H1 : (some (([] : List (S79)), false)) = some (r1, r2) := by rw [if_neg (show ¬ (false = true) by decide)] at H; exact H
        clear H; have H := H1; clear H1; simp only [Option.some.injEq, Prod.mk.injEq] at H; obtain ⟨rfl, rfl⟩ := H; try go_wp2
        replace BKF := Aside0.mk (blk_drew BKF.out); replace HB := Aside0.mk (below_drew1 HB.out); have pA : 0 ≤ (a1 : Int) := of_decide_eq_true zz101; have qA : a1 < (l0.length : Int) := of_decide_eq_true zz101; obtain ⟨adA, eA, hxA_0, hxA_1, hxA_2, hxA_3⟩ := at_T79 HR0.out a1 pA qA; have hwA_3 := hxA_3; have hwA_2 := hxA_2; have hwA_1 := hxA_1; have hwA_0 := hxA_0; cases eA
        replace hxA_0 := (HB.out.cell (World.block_lt_of_cell? w _ hxA_0)).trans hxA_0; replace hxA_1 := (HB.out.cell (World.block_lt_of_cell? w _ hxA_1)).trans hxA_1; replace hxA_2 := (HB.out.cell (World.block_lt_of_cell? w _ hxA_2)).trans hxA_2; replace hxA_3 := (HB.out.cell (World.block_lt_of_cell? w _ hxA_3)).trans hxA_3; replace pA := eq_true pA; replace qA := eq_true qA; refine start_ (n := 13) (S := fun w' => w'.cell? ⟨gbF, 0, none⟩ = some (.int .i64 a2_0) ∧ w'.cell? ⟨gbF, 1, none⟩ = some (.int .i64 a2_1) ∧ w'.cell? (adA.add ((a1).toNat * 4)) = some (.int .i64 ((rd_T79 l0 a1).f0.f0)) ∧ w'.cell? ⟨(adA.add ((a1).toNat * 4)).block, (adA.add ((a1).toNat * 4)).off + 1, none⟩ = some (.int .i64 ((rd_T79 l0 a1).f0.f1)) ∧ w'.cell? ⟨(adA.add ((a1).toNat * 4)).block, (adA.add ((a1).toNat * 4)).off + 2, none⟩ = some (.int .i64 ((rd_T79 l0 a1).f1.f0)) ∧ w'.cell? ⟨(adA.add ((a1).toNat * 4)).block, (adA.add ((a1).toNat * 4)).off + 3, none⟩ = some (.int .i64 ((rd_T79 l0 a1).f1.f1))) (ds := []) #[fF, fF, fF, fF, fF, fF, fF, fF, fF, fF, fF, fF, fF] (by kernel_rfl) rfl rfl ⟨(blk_cell BKF.out 0).trans rfl, (blk_cell BKF.out 1).trans rfl, ((HB.out.cell (World.block_lt_of_cell? w _ hwA_0)).trans hwA_0), ((HB.out.cell (World.block_lt_of_cell? w _ hwA_1)).trans hwA_1), ((HB.out.cell (World.block_lt_of_cell? w _ hwA_2)).trans hwA_2), ((HB.out.cell (World.block_lt_of_cell? w _ hwA_3)).trans hwA_3)⟩ (fun hHeld => ?_); refine with_tabW impl_PerturbMap.tab3 impl_PerturbMap.bits3 (fun HT_ HW_ => ?_); generalize wc.drew = w45 at BKF HB hxA_0 hxA_1 hxA_2 hxA_3 hHeld ⊢; refine pureA 0 (some 23) #[tT, fF, fF, fF, fF, fF, fF, fF, fF, fF, fF, fF, fF] HT_ ?_; refine pureA 1 (some 24) #[tT, tT, fF, fF, fF, fF, fF, fF, fF, fF, fF, fF, fF] HT_ ?_; refine pureA 2 (some 25) #[tT, tT, tT, fF, fF, fF, fF, fF, fF, fF, fF, fF, fF] HT_ ?_; refine pureA 3 (some 26) #[tT, tT, tT, tT, fF, fF, fF, fF, fF, fF, fF, fF, fF] HT_ ?_; refine takeA2 4 (some 27) #[tT, tT, tT, tT, tT, fF, fF, fF, fF, fF, fF, fF, fF] HT_ HW_ hHeld ?_; refine takeA2 5 (some 28) #[tT, tT, tT, tT, tT, tT, fF, fF, fF, fF, fF, fF, fF] HT_ HW_ hHeld ?_; refine join_ (σ := Nat) 2 #[tT, tT, tT, tT, tT, tT, tT, tT, tT, tT, tT, fF, fF] (fun s_ => [(29, .tuple #[.agg #[.int .i64 tG, .int .i64 tK], .bool false]), (8, .pointer (some ⟨s_, 0, none⟩)), (22, .tuple #[.agg #[.int .i64 tG, .int .i64 tK], .bool false]), (30, .agg #[.int .i64 tG, .int .i64 tK]), (31, .bool false)]) (fun s_ w' => (w'.cell? ⟨gbF, 0, none⟩ = some (.int .i64 a2_0) ∧ w'.cell? ⟨gbF, 1, none⟩ = some (.int .i64 a2_1) ∧ w'.cell? (adA.add ((a1).toNat * 4)) = some (.int .i64 ((rd_T79 l0 a1).f0.f0)) ∧ w'.cell? ⟨(adA.add ((a1).toNat * 4)).block, (adA.add ((a1).toNat * 4)).off + 1, none⟩ = some (.int .i64 ((rd_T79 l0 a1).f0.f1)) ∧ w'.cell? ⟨(adA.add ((a1).toNat * 4)).block, (adA.add ((a1).toNat * 4)).off + 2, none⟩ = some (.int .i64 ((rd_T79 l0 a1).f1.f0)) ∧ w'.cell? ⟨(adA.add ((a1).toNat * 4)).block, (adA.add ((a1).toNat * 4)).off + 3, none⟩ = some (.int .i64 ((rd_T79 l0 a1).f1.f1))) ∧ (w'.heap[gbF]? = some (.cells #[.int .i64 a2_0, .int .i64 a2_1] 47 (0, 0))) ∧ (w'.heap[s_]? = some (.cells #[.int .i64 0, .int .i64 0] 47 (0, 0))) ∧ (w.heap.size ≤ s_) ∧ (w.heap.size ≤ s_) ∧ (gbF ≠ s_) ∧ (s_ ≠ gbF) ∧ (Below w.heap.size w w')) ?_ ?_; rotate_left
        ·intro hCont; refine two_ (i := 6) (j := 10) (Ni := some 29) (Nj := some 8) #[tT, tT, tT, tT, tT, tT, tT, fF, fF, fF, fF, fF, fF] #[tT, tT, tT, tT, tT, tT, fF, fF, fF, fF, tT, fF, fF] rfl rfl rfl rfl (two_of HT_.out (by kernel_rfl)) (by decide) (by decide) (fun K hK => ?_) (fun K hK => ?_)
         ·skip
          refine goes_ Try.func72 (by kernel_rfl) rfl #[.agg #[.int .i64 ((rd_T79 l0 a1).f1.f0), .int .i64 ((rd_T79 l0 a1).f1.f1)], .agg #[.int .i64 a2_0, .int .i64 a2_1]] (by rfl) rfl rfl zz62 ?_; with_reducible refine (impl_AddRats.calls kj3 ((rd_T79 l0 a1).f1.f0) ((rd_T79 l0 a1).f1.f1) a2_0 a2_1 tG tK false _ A14.out).mono ?_
          rintro e w46 ⟨rfl, hb⟩; refine ⟨_, rfl, ?_⟩; replace BKF := blkA BKF hb; replace HB := Aside0.mk (below_step zz60 hb); (try clear hb); refine hK.out _ _ ⟨(blk_cell BKF.out 0).trans rfl, (blk_cell BKF.out 1).trans rfl, ((HB.out.cell (World.block_lt_of_cell? w _ hwA_0)).trans hwA_0), ((HB.out.cell (World.block_lt_of_cell? w _ hwA_1)).trans hwA_1), ((HB.out.cell (World.block_lt_of_cell? w _ hwA_2)).trans hwA_2), ((HB.out.cell (World.block_lt_of_cell? w _ hwA_3)).trans hwA_3)⟩ (fun hHeld => ?_); clear hK K; refine normA (some 29) ?_; refine pureA 7 (some 22) #[tT, tT, tT, tT, tT, tT, tT, tT, fF, fF, fF, fF, fF] HT_ ?_; refine pureA 8 (some 30) #[tT, tT, tT, tT, tT, tT, tT, tT, tT, fF, fF, fF, fF] HT_ ?_; refine pureA 9 (some 31) #[tT, tT, tT, tT, tT, tT, tT, tT, tT, tT, fF, fF, fF] HT_ ?_; refine one_ (i := 10) (N := some 8) #[tT, tT, tT, tT, tT, tT, tT, tT, tT, tT, tT, fF, fF] rfl rfl (one_of HT_.out (by kernel_rfl)) (by decide) (fun K hK => ?_); refine box_step ?hg (N := 8) ?hd (cs := #[.int .i64 0, .int .i64 0]) (t := 47) ?hr ?_; (case hd => rfl); (case hg => rfl); (case hr => first | (go_simp; done) | (go_simp; rfl)); intro gbE hg w47 hbox hb; have n3_ := gwA (below_size zz60) hg; have n4_ := gwA (below_size zz60) hg; have n5_ := nltA BKF hg; have n6_ := ngtA BKF hg; have GWE := n3_; have GEE := n4_; have NBF_E := n5_; have NBE_F := n6_; clear n3_ n4_ n5_ n6_; replace BKF := blkA BKF hb; have BKE := Aside0.mk (hbox); replace HB := Aside0.mk (below_step zz60 hb); clear hb hbox hg; refine hK.out _ _ ⟨(blk_cell BKF.out 0).trans rfl, (blk_cell BKF.out 1).trans rfl, ((HB.out.cell (World.block_lt_of_cell? w _ hwA_0)).trans hwA_0), ((HB.out.cell (World.block_lt_of_cell? w _ hwA_1)).trans hwA_1), ((HB.out.cell (World.block_lt_of_cell? w _ hwA_2)).trans hwA_2), ((HB.out.cell (World.block_lt_of_cell? w _ hwA_3)).trans hwA_3)⟩ (fun hHeld => ?_); clear hK K; refine normA (some 8) ?_; exact norm_ zz91 (hCont (gbE) _ ⟨hHeld, zz72, zz73, GWE.out, GEE.out, NBF_E.out, NBE_F.out, zz37⟩)
         ·skip
          refine box_step ?hg (N := 8) ?hd (cs := #[.int .i64 0, .int .i64 0]) (t := 47) ?hr ?_; (case hd => rfl); (case hg => rfl); (case hr => first | (go_simp; done) | (go_simp; rfl)); intro gbE hg w46 hbox hb; have n3_ := gwA (below_size zz60) hg; have n4_ := gwA (below_size zz60) hg; have n5_ := nltA BKF hg; have n6_ := ngtA BKF hg; have GWE := n3_; have GEE := n4_; have NBF_E := n5_; have NBE_F := n6_; clear n3_ n4_ n5_ n6_; replace BKF := blkA BKF hb; have BKE := Aside0.mk (hbox); replace HB := Aside0.mk (below_step zz60 hb); clear hb hbox hg; refine hK.out _ _ ⟨(blk_cell BKF.out 0).trans rfl, (blk_cell BKF.out 1).trans rfl, ((HB.out.cell (World.block_lt_of_cell? w _ hwA_0)).trans hwA_0), ((HB.out.cell (World.block_lt_of_cell? w _ hwA_1)).trans hwA_1), ((HB.out.cell (World.block_lt_of_cell? w _ hwA_2)).trans hwA_2), ((HB.out.cell (World.block_lt_of_cell? w _ hwA_3)).trans hwA_3)⟩ (fun hHeld => ?_); clear hK K; refine normA (some 8) ?_; refine one_ (i := 6) (N := some 29) #[tT, tT, tT, tT, tT, tT, tT, fF, fF, fF, tT, fF, fF] rfl rfl (one_of HT_.out (by kernel_rfl)) (by decide) (fun K hK => ?_); refine goes_ Try.func72 (by kernel_rfl) rfl #[.agg #[.int .i64 ((rd_T79 l0 a1).f1.f0), .int .i64 ((rd_T79 l0 a1).f1.f1)], .agg #[.int .i64 a2_0, .int .i64 a2_1]] (by rfl) rfl rfl zz62 ?_; with_reducible refine (impl_AddRats.calls kj3 ((rd_T79 l0 a1).f1.f0) ((rd_T79 l0 a1).f1.f1) a2_0 a2_1 tG tK false _ A14.out).mono ?_
          rintro e w47 ⟨rfl, hb⟩; refine ⟨_, rfl, ?_⟩; replace BKF := blkA BKF hb; replace BKE := blkA BKE hb; replace HB := Aside0.mk (below_step zz37 hb); (try clear hb); refine hK.out _ _ ⟨(blk_cell BKF.out 0).trans rfl, (blk_cell BKF.out 1).trans rfl, ((HB.out.cell (World.block_lt_of_cell? w _ hwA_0)).trans hwA_0), ((HB.out.cell (World.block_lt_of_cell? w _ hwA_1)).trans hwA_1), ((HB.out.cell (World.block_lt_of_cell? w _ hwA_2)).trans hwA_2), ((HB.out.cell (World.block_lt_of_cell? w _ hwA_3)).trans hwA_3)⟩ (fun hHeld => ?_); clear hK K; refine normA (some 29) ?_; refine pureA 7 (some 22) #[tT, tT, tT, tT, tT, tT, tT, tT, fF, fF, tT, fF, fF] HT_ ?_; refine pureA 8 (some 30) #[tT, tT, tT, tT, tT, tT, tT, tT, tT, fF, tT, fF, fF] HT_ ?_; refine pureA 9 (some 31) #[tT, tT, tT, tT, tT, tT, tT, tT, tT, tT, tT, fF, fF] HT_ ?_; exact norm_ zz91 (hCont (gbE) _ ⟨hHeld, zz72, zz73, GWE.out, GEE.out, NBF_E.out, NBE_F.out, zz37⟩)
        rintro gbE w48 ⟨hS_, h0_, h1_, h2_, h3_, h4_, h5_, h6_⟩; have n0_ : Aside0 (w48.heap[gbF]? = some (.cells #[.int .i64 a2_0, .int .i64 a2_1] 47 (0, 0))) := ⟨h0_⟩; have n1_ : Aside0 (w48.heap[gbE]? = some (.cells #[.int .i64 0, .int .i64 0] 47 (0, 0))) := ⟨h1_⟩; have n2_ : Aside0 (w.heap.size ≤ gbE) := ⟨h2_⟩; have n3_ : Aside0 (w.heap.size ≤ gbE) := ⟨h3_⟩; have n4_ : Aside0 (gbF ≠ gbE) := ⟨h4_⟩; have n5_ : Aside0 (gbE ≠ gbF) := ⟨h5_⟩; have n6_ : Aside0 (Below w.heap.size w w48) := ⟨h6_⟩; clear BKF; clear HB; clear h0_ h1_ h2_ h3_ h4_ h5_ h6_; have BKF := n0_; have BKE := n1_; have GWE := n2_; have GEE := n3_; have NBF_E := n4_; have NBE_F := n5_; have HB := n6_; clear n0_ n1_ n2_ n3_ n4_ n5_ n6_; have hHeld : w48.cell? ⟨gbF, 0, none⟩ = some (.int .i64 a2_0) ∧ w48.cell? ⟨gbF, 1, none⟩ = some (.int .i64 a2_1) ∧ w48.cell? (adA.add ((a1).toNat * 4)) = some (.int .i64 ((rd_T79 l0 a1).f0.f0)) ∧ w48.cell? ⟨(adA.add ((a1).toNat * 4)).block, (adA.add ((a1).toNat * 4)).off + 1, none⟩ = some (.int .i64 ((rd_T79 l0 a1).f0.f1)) ∧ w48.cell? ⟨(adA.add ((a1).toNat * 4)).block, (adA.add ((a1).toNat * 4)).off + 2, none⟩ = some (.int .i64 ((rd_T79 l0 a1).f1.f0)) ∧ w48.cell? ⟨(adA.add ((a1).toNat * 4)).block, (adA.add ((a1).toNat * 4)).off + 3, none⟩ = some (.int .i64 ((rd_T79 l0 a1).f1.f1)) := hS_; refine norm_ (a' := ?_) ?_ ?_; rotate_left
        ·simp only [putAll, Act.put, List.setIfInBounds_toArray, List.set_cons_zero, List.set_cons_succ]; rfl
        refine one_ (i := 11) (N := none) #[tT, tT, tT, tT, tT, tT, tT, tT, tT, tT, tT, tT, fF] rfl rfl (one_of HT_.out (by kernel_rfl)) (by decide) (fun K hK => ?_); have hs49 : w48.cell? ⟨gbE, 0, none⟩ = some (.int .i64 0) := (blk_cell BKE.out 0).trans rfl; have hfs49 := blk_frozen BKE.out 0; have hns49_0 := NBF_E.out; have hms49_0 := NBE_F.out; have hs50 : w48.cell? ⟨gbE, 1, none⟩ = some (.int .i64 0) := (blk_cell BKE.out 1).trans rfl; have hfs50 := blk_frozen BKE.out 1; have hns50_0 := NBF_E.out; have hms50_0 := NBE_F.out; refine skip_ (w1 := ?_) (by rfl) rfl ?_ ?_; rotate_left
        ·go_simp
         rfl
        refine hK.out _ _ ⟨((cell_far (p := ⟨gbE, _, none⟩) NBF_E.out _).trans (((cell_far (p := ⟨gbE, _, none⟩) NBF_E.out _).trans (hHeld.1)))), ((cell_far (p := ⟨gbE, _, none⟩) NBF_E.out _).trans (((cell_far (p := ⟨gbE, _, none⟩) NBF_E.out _).trans (hHeld.2.1)))), ((cell_far (p := ⟨gbE, _, none⟩) zz4 _).trans (((cell_far (p := ⟨gbE, _, none⟩) zz4 _).trans (hHeld.2.2.1)))), ((cell_far (p := ⟨gbE, _, none⟩) zz5 _).trans (((cell_far (p := ⟨gbE, _, none⟩) zz5 _).trans (hHeld.2.2.2.1)))), ((cell_far (p := ⟨gbE, _, none⟩) zz6 _).trans (((cell_far (p := ⟨gbE, _, none⟩) zz6 _).trans (hHeld.2.2.2.2.1)))), ((cell_far (p := ⟨gbE, _, none⟩) zz7 _).trans (((cell_far (p := ⟨gbE, _, none⟩) zz7 _).trans (hHeld.2.2.2.2.2))))⟩ (fun hHeld => ?_); clear hK K; refine pureA 12 (some 9) #[tT, tT, tT, tT, tT, tT, tT, tT, tT, tT, tT, tT, tT] HT_ ?_; refine done_ (done_of HT_.out (by kernel_rfl)) ?_; try go_wp2_with (first | ((with_reducible refine gate_callee (f := 73) rfl ?_); refine goesL_ (some 33) rfl rfl Try.func73 (by kernel_rfl) rfl #[.slice (some adA) l0.length c0] rfl zz62 ?_; (with_reducible refine (impl_Point_73.calls _ _ l0 tC _ ?side1 ?side2 A15.out).mono ?_); (case side1 => exact Kd.C_below HR0.out zz37); (case side2 => exact HC0.out); rintro e w51 ⟨vP, rfl, ho0, hb⟩; refine ⟨_, rfl, ?_⟩; have n0_ := Aside0.mk (Kd.R_lower ho0 (below_size zz37)); have n1_ := Aside0.mk (blk_below (g := gbF) (o := .cells #[.int .i64 a2_0, .int .i64 a2_1] 47 (0, 0)) zz22 hb); have n2_ := Aside0.mk (blk_below (g := gbE) (o := .cells #[.int .i64 tG, .int .i64 tK] 47 (0, 0)) zz14 hb); clear BKF BKE; have HOD := n0_; have BKF := n1_; have BKE := n2_; clear n0_ n1_ n2_; replace HB := Aside0.mk (below_step zz37 hb); (try clear hb); (try clear ho0); have hnb52 := NBE_F.out; have hnc52 := NBF_E.out; have hcz53_0 : w51.cell? ⟨gbE, 0, none⟩ = some (.int .i64 tG) := (blk_cell BKE.out 0).trans rfl; have hcz53_1 : w51.cell? ⟨gbE, 1, none⟩ = some (.int .i64 tK) := (blk_cell BKE.out 1).trans rfl; have hfz53_0 := blk_frozen BKE.out 0; have hfz53_1 := blk_frozen BKE.out 1; have p17 : 0 ≤ (a1 : Int) := of_decide_eq_true zz101; have q17 : (a1 : Int) < ((tC.length : Int) : Int) := of_decide_eq_true zz101; obtain ⟨go17, co17, eo17, gb17, gl17, cl17, HG17⟩ := Kd.R_form HOD.out (by omega); (first | cases eo17 | (injection eo17 with ea_ en_ ec_; (first | subst ea_ | (injection ea_ with ea_; subst ea_)); subst ec_; clear en_)); have GB17 := Aside0.mk gb17; have GG17 := Aside0.mk HG17; clear gb17 gl17 HG17; obtain ⟨ce17, hcl17, hM17, hcc17, hfr17⟩ := Kd.R_elem HOD.out z79 (a1 : Int) p17 q17; obtain rfl := k79_openM hM17; have hx17_0 : w51.cell? ⟨go17, (a1 : Int).toNat * 4, none⟩ = some (.int .i64 ((rd_T79 tC a1).f0.f0)) := hcc17 0 _ rfl; have hx17_1 : w51.cell? ⟨go17, (a1 : Int).toNat * 4 + 1, none⟩ = some (.int .i64 ((rd_T79 tC a1).f0.f1)) := hcc17 1 _ rfl; have hx17_2 : w51.cell? ⟨go17, (a1 : Int).toNat * 4 + 2, none⟩ = some (.int .i64 ((rd_T79 tC a1).f1.f0)) := hcc17 2 _ rfl; have hx17_3 : w51.cell? ⟨go17, (a1 : Int).toNat * 4 + 3, none⟩ = some (.int .i64 ((rd_T79 tC a1).f1.f1)) := hcc17 3 _ rfl; have hf17_0 : w51.frozen? ⟨go17, (a1 : Int).toNat * 4, none⟩ = false := hfr17 0; have hf17_1 : w51.frozen? ⟨go17, (a1 : Int).toNat * 4 + 1, none⟩ = false := hfr17 1; have hf17_2 : w51.frozen? ⟨go17, (a1 : Int).toNat * 4 + 2, none⟩ = false := hfr17 2; have hf17_3 : w51.frozen? ⟨go17, (a1 : Int).toNat * 4 + 3, none⟩ = false := hfr17 3; clear hcl17 hcc17 hfr17; (try clear hM17); replace p17 := eq_true p17; replace q17 := eq_true q17; have HX54 := Aside0.mk (show Kd.R k79 79 w51 w.heap.size (fun _ => True) (.slice (some ⟨go17, 0, none⟩) tC.length co17) tC from zz78); obtain ⟨ce54, hcl54, hM54, hcc54, hfr54⟩ := Kd.R_elem HX54.out z79 (a1 : Int) (of_decide_eq_true zz101) (by have h_ : (a1 : Int) < ((tC.length : Int) : Int) := of_decide_eq_true zz101; first | exact h_ | (have e_ := (Kd.R_reads' HOD.out).1; omega) | simpa using h_); obtain rfl := k79_openM hM54; have HP54 := Kd.R_seg HX54.out (a1 : Int) (of_decide_eq_true zz101) (by have h_ : (a1 : Int) < ((tC.length : Int) : Int) := of_decide_eq_true zz101; first | exact h_ | (have e_ := (Kd.R_reads' HOD.out).1; omega) | simpa using h_) (seg := [.int .i64 tG, .int .i64 tK]) (j := 2) hcl54 hcc54 (show 4 ≤ 4 from by decide) (x' := (⟨(⟨(rd_T79 tC a1).f0.f0, (rd_T79 tC a1).f0.f1⟩ : S47), (⟨tG, tK⟩ : S47)⟩ : S79)) (k79_mkM _ _ _ (⟨(⟨(rd_T79 tC a1).f0.f0, (rd_T79 tC a1).f0.f1⟩ : S47), (⟨tG, tK⟩ : S47)⟩ : S79) ) (fun _ hk => hk); have hx54_2 := hcc54 2 _ rfl; (try simp only [show (k79).sz = 4 from rfl, Nat.mul_one, Nat.add_zero] at hx54_2); have hf54_2 := hfr54 2; (try simp only [show (k79).sz = 4 from rfl, Nat.mul_one, Nat.add_zero] at hf54_2); have hx54_3 := hcc54 3 _ rfl; (try simp only [show (k79).sz = 4 from rfl, Nat.mul_one, Nat.add_zero] at hx54_3); have hf54_3 := hfr54 3; (try simp only [show (k79).sz = 4 from rfl, Nat.mul_one, Nat.add_zero] at hf54_3); clear hcl54 hcc54 hfr54; (try clear hM54)) | ((with_reducible refine gate_store (t := 47) (p := 38) rfl ?_); refine store_event (t := 47) (p := 38) (v := ?vo_w55) (w1 := ((w51.setCell ⟨go17, (a1 : Int).toNat * 4 + 2, none⟩ (.int .i64 tG)).setCell ⟨go17, (a1 : Int).toNat * 4 + 3, none⟩ (.int .i64 tK))) ?hg ?ho ?hn ?hr ?_; (case ho => rfl); (case hg => rfl); (case hn => rfl); (case hr => first | (go_simp; done) | (go_simp; rfl)); intro w55 hw; have hg : w51.grownBy w55 (some go17) := (by rw [hw]; exact HP54.2); have hp_ : Kd.R k79 79 w55 w.heap.size (fun _ => True) (.slice (some ⟨go17, 0, none⟩) tC.length co17) yB := (by rw [hw, NyB.out]; exact HP54.1); clear HP54; have n0_ := Aside0.mk (blk_grown (g := gbF) (o := .cells #[.int .i64 a2_0, .int .i64 a2_1] 47 (0, 0)) zz72 hg (Kd.R_ne HOD.out BKF.out (by decide))); have n1_ := Aside0.mk (blk_grown (g := gbE) (o := .cells #[.int .i64 tG, .int .i64 tK] 47 (0, 0)) zz73 hg (Kd.R_ne HOD.out BKE.out (by decide))); have n2_ := Aside0.mk (hp_); have n3_ := Aside0.mk ((by rw [hw]; exact below_set (below_set (HB.out) GB17.out) GB17.out : Below w.heap.size w w55)); clear BKF; clear BKE; clear HOD; clear HB; have BKF := n0_; have BKE := n1_; have HOD := n2_; have HB := n3_; clear n0_ n1_ n2_ n3_; clear hg hw hp_))
        go_ret2
        exact ⟨_, by first | rfl | (simp [errW_none, errW_some] <;> rfl) | (simp [*, errW_none, errW_some] <;> rfl), by first | exact Kd.R_nil _ _ _ _ _ | exact Kd.N_nil _ _ _ _ _ | exact Kd.V_nil _ _ _ _ _ | exact Kd.Q_nil _ _ _ _ _ | exact Kd.S_nil _ _ _ _ _, by repeat (first | (with_reducible first | exact HB.out | apply below_alloc | apply pw_below_drewN | apply below_drew1 | refine below_set ?_ GEF.out | refine below_set ?_ GEE.out) | exact HB.out)⟩
      ·rw [if_neg c16] at H; exact absurd H (by simp)
     ·rw [if_neg c13] at H; exact absurd H (by simp)
    ·rw [if_neg c12] at H; exact absurd H (by simp)
end Go.Proofs.Ytgejkhbehoabdaa.Q
namespace Go.Proofs.Ytgejkhbehoabdaa.Q
open Go.RowKit Go.Proofs.YtgejkhbehoabdaaW.PrintWords Go.Proofs.YtgejkhbehoabdaaW.PrintLast Go.Proofs.YtgejkhbehoabdaaW.PrintMore
attribute [local go_sem] max2_int min2_int max_two min_two max_three min_three max_four min_four   -- for this text's walks alone
set_option linter.unusedVariables false
set_option linter.unusedSimpArgs false
mutual
def laws_FnExactPerturbMap.j0 : Nat → List (S87) → Int → List (S79) → Bool → List (S79) → List (S79) → Bool → Bool → Int → Int → Option (Bool)
 | 0, _, _, _, _, _, _, _, _, _, _ => none
 | k + 1, x0, x1, x8, x9, x10, x11, x12, x50, xA, xB => if x50 = true then (some false) else ((laws_toPointS.f k x0).bind fun tC => ((laws_eqPointS.f k x10 tC).bind fun tD => (if tD = true then ((laws_markPointS.f k x10 1).bind fun btE => (if btE.1 < 0 then (laws_FnExactPerturbMap.j1 k x0 x1 x8 x9 x11 true xA xB) else ((laws_eqPointS.f k x11 x8).bind fun tF => (if tF = true then (laws_FnExactPerturbMap.j1 k x0 x1 x8 x9 x11 (x12 != x9) xA xB) else (laws_FnExactPerturbMap.j1 k x0 x1 x8 x9 x11 true xA xB))))) else (some false))))
def laws_FnExactPerturbMap.j1 : Nat → List (S87) → Int → List (S79) → Bool → List (S79) → Bool → Int → Int → Option (Bool)
 | 0, _, _, _, _, _, _, _, _ => none
 | k + 1, x0, x1, x8, x9, x11, x71, xA, xB => if x71 = true then (some false) else ((laws_markPointS.f k x11 1).bind fun btC => ((laws_heldPointS.f k btC.2 1).bind fun tD => (if tD < 0 then (some false) else (if tD = btC.1 then ((laws_toPointS.f k x0).bind fun tE => ((laws_toRat.f xA xB).bind fun btF => ((impl_PerturbMap.f k tE x1 btF.1 btF.2).bind fun btG => ((laws_eqPointS.f k btG.1 x8).bind fun tH => (if tH = true then (laws_FnExactPerturbMap.j2 k btC.2 btC.1 (btG.2 != x9)) else (laws_FnExactPerturbMap.j2 k btC.2 btC.1 true)))))) else (some false)))))
def laws_FnExactPerturbMap.j2 : Nat → List (S79) → Int → Bool → Option (Bool)
 | 0, _, _, _ => none
 | k + 1, x11, x14, xA => if xA = true then (some false) else ((laws_heldPointS.f k x11 1).bind fun tB => (if tB < 0 then (some false) else (if tB = x14 then (some true) else (some false))))
end
def laws_FnExactPerturbMap.f (k : Nat) (l0 : List (S87)) (a1 : Int) (a2_0 : Int) (a2_1 : Int) : Option (Bool) := (laws_szPointS.f l0 1048576).bind fun tA => (if tA < 0 then (some true) else ((laws_toPointS.f k l0).bind fun tB => ((laws_toRat.f a2_0 a2_1).bind fun btC => ((spec_PerturbMap.f k tB a1 btC.1 btC.2).bind fun btD => ((laws_toPointS.f k l0).bind fun tE => ((laws_toRat.f a2_0 a2_1).bind fun btF => ((impl_PerturbMap.f k tE a1 btF.1 btF.2).bind fun btG => ((laws_eqPointS.f k btG.1 btD.1).bind fun tH => (if tH = true then (laws_FnExactPerturbMap.j0 k l0 a1 btD.1 btD.2 tE btG.1 btG.2 (btG.2 != btD.2) a2_0 a2_1) else (laws_FnExactPerturbMap.j0 k l0 a1 btD.1 btD.2 tE btG.1 btG.2 true a2_0 a2_1))))))))))
def laws_FnExactPerturbMap.T5 : Bool × List (List Nat × List Nat) := (true, [([], []), ([0], [0]), ([], []), ([], []), ([3, 1], [3]), ([1, 2, 4, 4], [1, 2, 4]), ([5], [5]), ([6], [6]), ([6], [6]), ([7, 5, 0, 1, 2, 3, 4, 5, 6, 7], [7]), ([8, 9, 0, 1, 2, 3, 4, 5, 6, 7, 8, 9], [8])])
def laws_FnExactPerturbMap.B5 : List Nat := [0, 1, 0, 0, 11, 31, 63, 127, 127, 255, 1023]
theorem laws_FnExactPerturbMap.tab5 : rtab .any (opsOf Try.f5 5) = laws_FnExactPerturbMap.T5 := by kernel_rfl
theorem laws_FnExactPerturbMap.bits5 : waitsOk laws_FnExactPerturbMap.T5.2 laws_FnExactPerturbMap.B5 = true := by kernel_rfl
def laws_FnExactPerturbMap.T24 : Bool × List (List Nat × List Nat) := (true, [([], []), ([0], [0]), ([], []), ([], []), ([3, 1], [3]), ([1, 2, 4, 4], [1, 2, 4]), ([5], [5]), ([6], [6]), ([6], [6]), ([7, 5, 0, 1, 2, 3, 4, 5, 6, 7], [7]), ([8, 9, 0, 1, 2, 3, 4, 5, 6, 7, 8, 9], [8])])
def laws_FnExactPerturbMap.B24 : List Nat := [0, 1, 0, 0, 11, 31, 63, 127, 127, 255, 1023]
theorem laws_FnExactPerturbMap.tab24 : rtab .any (opsOf Try.f5 24) = laws_FnExactPerturbMap.T24 := by kernel_rfl
theorem laws_FnExactPerturbMap.bits24 : waitsOk laws_FnExactPerturbMap.T24.2 laws_FnExactPerturbMap.B24 = true := by kernel_rfl
theorem zz90 {p : Prop} (h : p := by (with_reducible repeat (first | apply Kd.R_alloc | apply Kd.R_drewN | apply Kd.R_drew)); exact HO_8.out) : p := h
theorem zz87 {p : Prop} (h : p := by (with_reducible repeat (first | apply Kd.R_alloc | apply Kd.R_drewN | apply Kd.R_drew)); exact HOA.out) : p := h
theorem zz86 {p : Prop} (h : p := by (with_reducible repeat (first | apply Kd.R_alloc | apply Kd.R_drewN | apply Kd.R_drew)); exact HOB.out) : p := h
theorem zz85 {p : Prop} (h : p := by (with_reducible repeat (first | apply Kd.R_alloc | apply Kd.R_drewN | apply Kd.R_drew)); exact HOC.out) : p := h
theorem zz84 {p : Prop} (h : p := by (with_reducible repeat (first | apply Kd.R_alloc | apply Kd.R_drewN | apply Kd.R_drew)); exact HO_11.out) : p := h
theorem zz83 {p : Prop} (h : p := by (with_reducible repeat (first | apply Kd.R_alloc | apply Kd.R_drewN | apply Kd.R_drew)); exact HO_10.out) : p := h
theorem zz82 {p : Prop} (h : p := by (with_reducible repeat (first | apply Kd.R_alloc | apply Kd.R_drewN | apply Kd.R_drew)); exact HOD.out) : p := h
theorem zz81 {p : Prop} (h : p := by (with_reducible repeat (first | apply Kd.R_alloc | apply Kd.R_drewN | apply Kd.R_drew)); exact HOE.out) : p := h
theorem zz80 {p : Prop} (h : p := by (with_reducible repeat (first | apply Kd.R_alloc | apply Kd.R_drewN | apply Kd.R_drew)); exact HOF.out) : p := h
theorem zz79 {p : Prop} (h : p := by (with_reducible repeat (first | apply Kd.R_alloc | apply Kd.R_drewN | apply Kd.R_drew)); exact HOG.out) : p := h
theorem zz74 {p : Prop} (h : p := by (with_reducible repeat (first | refine blk_drewN ?_ _ | refine blk_drew ?_ | refine blk_alloc ?_ _)); exact BKH.out) : p := h
theorem zz61 {p : Prop} (h : p := by repeat (first | (with_reducible first | exact HB.out | apply below_alloc | apply pw_below_drewN | apply below_drew1 | refine below_set ?_ GEH.out) | exact HB.out)) : p := h
theorem zz26 {p : Prop} (h : p := by (try simp only [List.map_toArray, List.map_cons, List.map_nil]); first | done | (rw [show tI.length = tJ.length from (Kd.R_reads' HO_11.out).1.symm] <;> rfl) | rfl | (simp only [List.length_drop, List.length_take]; rfl)) : p := h
set_option maxHeartbeats 8000000 in
set_option maxRecDepth 100000 in
theorem laws_FnExactPerturbMap.calls (k : Nat) (A0 : Option Addr) (c0 : Nat) (l0 : List (S87)) (a1 : Int) (a2_0 : Int) (a2_1 : Int) (r : Bool) (w : World) (hr0 : Kd.C k87 w A0 l0.length l0) (hc0 : l0.length ≤ c0) (h : laws_FnExactPerturbMap.f k l0 a1 a2_0 a2_1 = some r) :
  Calls Try.prog 5 #[.slice A0 l0.length c0, .int .i64 a1, .agg #[.int .i64 a2_0, .int .i64 a2_1]] w fun e w' => e = .returned (.bool r) ∧ Below w.heap.size w w' := by
 have hu43 := Try.underlying43; have HR0 := Aside0.mk hr0; have HC0 := Aside0.mk hc0; clear hr0 hc0; have HB := Aside0.mk (Below.refl w.heap.size w); have H : ((laws_szPointS.f l0 1048576).bind fun tK => (if tK < 0 then (some true) else ((laws_toPointS.f k l0).bind fun tL => ((laws_toRat.f a2_0 a2_1).bind fun btM => ((spec_PerturbMap.f k tL a1 btM.1 btM.2).bind fun btN => ((laws_toPointS.f k l0).bind fun tO => ((laws_toRat.f a2_0 a2_1).bind fun btP => ((impl_PerturbMap.f k tO a1 btP.1 btP.2).bind fun btJ => ((laws_eqPointS.f k btJ.1 btN.1).bind fun tQ => (if tQ = true then (laws_FnExactPerturbMap.j0 k l0 a1 btN.1 btN.2 tO btJ.1 btJ.2 (btJ.2 != btN.2) a2_0 a2_1) else (laws_FnExactPerturbMap.j0 k l0 a1 btN.1 btN.2 tO btJ.1 btJ.2 true a2_0 a2_1))))))))))) = some r := h; clear h; replace H := Option.bind_eq_some_iff.mp H; obtain ⟨tK, A40, H⟩ := H; replace H : (if tK < 0 then (some true) else ((laws_toPointS.f k l0).bind fun tL => ((laws_toRat.f a2_0 a2_1).bind fun btM => ((spec_PerturbMap.f k tL a1 btM.1 btM.2).bind fun btN => ((laws_toPointS.f k l0).bind fun tO => ((laws_toRat.f a2_0 a2_1).bind fun btP => ((impl_PerturbMap.f k tO a1 btP.1 btP.2).bind fun btJ => ((laws_eqPointS.f k btJ.1 btN.1).bind fun tQ => (if tQ = true then (laws_FnExactPerturbMap.j0 k l0 a1 btN.1 btN.2 tO btJ.1 btJ.2 (btJ.2 != btN.2) a2_0 a2_1) else (laws_FnExactPerturbMap.j0 k l0 a1 btN.1 btN.2 tO btJ.1 btJ.2 true a2_0 a2_1)))))))))) = some r := H; have A4 := Aside0.mk A40; clear A40; by_cases c5 : tK < 0
 ·rw [if_pos c5] at H; have c5b0 : decide (tK < 0) = true := decide_eq_true c5; clear c5; obtain rfl := Option.some.inj H; go_enter Try.func5, Try.ntmps5
  go_wp2_with (first | ((with_reducible refine gate_dst (N := 5) rfl ?_); refine box_event ?hg (N := 5) ?hd (cs := #[.int .i64 a2_0, .int .i64 a2_1]) (t := 43) ?hr ?_; (case hd => rfl); (case hg => rfl); (case hr => first | (go_simp; done) | (go_simp; rfl)); intro gbH hg w6 hbox hb; have n2_ := gwA (below_size zz63) hg; have n3_ := gwA (below_size zz63) hg; have GWH := n2_; have GEH := n3_; clear n2_ n3_; have BKH := Aside0.mk (hbox); replace HB := Aside0.mk (below_step zz63 hb); clear hb hbox hg) | ((with_reducible refine gate_callee (f := 30) rfl ?_); refine goesL_ (some 20) rfl rfl Try.func30 (by kernel_rfl) rfl #[.slice A0 l0.length c0, .int .i64 1048576] rfl zz62 ?_; (with_reducible refine (laws_szPointS.calls _ _ l0 1048576 tK _ ?side1 ?side2 A4.out).mono ?_); (case side1 => repeat (first | exact (Kd.C_below HR0.out HB.out) | (with_reducible refine Kd.C_alloc ?_ _) | (with_reducible refine Kd.C_drewN ?_ _) | (with_reducible refine Kd.C_drew ?_))); (case side2 => exact HC0.out); rintro e w' ⟨rfl, ⟨nd, rfl⟩⟩; refine ⟨_, rfl, ?_⟩))
  go_ret
  exact ⟨by first | rfl | (simp [errW_none, errW_some] <;> rfl) | (simp [*, errW_none, errW_some] <;> rfl), by repeat (first | (with_reducible first | exact HB.out | apply below_alloc | apply pw_below_drewN | apply below_drew1 | refine below_set ?_ GEH.out) | exact HB.out)⟩
 ·rw [if_neg c5] at H; have c5b0 : decide (tK < 0) = false := decide_eq_false c5; clear c5; replace H := Option.bind_eq_some_iff.mp H; obtain ⟨tL, A70, H⟩ := H; replace H : ((laws_toRat.f a2_0 a2_1).bind fun btM => ((spec_PerturbMap.f k tL a1 btM.1 btM.2).bind fun btN => ((laws_toPointS.f k l0).bind fun tO => ((laws_toRat.f a2_0 a2_1).bind fun btP => ((impl_PerturbMap.f k tO a1 btP.1 btP.2).bind fun btJ => ((laws_eqPointS.f k btJ.1 btN.1).bind fun tQ => (if tQ = true then (laws_FnExactPerturbMap.j0 k l0 a1 btN.1 btN.2 tO btJ.1 btJ.2 (btJ.2 != btN.2) a2_0 a2_1) else (laws_FnExactPerturbMap.j0 k l0 a1 btN.1 btN.2 tO btJ.1 btJ.2 true a2_0 a2_1)))))))) = some r := H; have A7 := Aside0.mk A70; clear A70; replace H := Option.bind_eq_some_iff.mp H; obtain ⟨⟨tM, tR⟩, A80, H⟩ := H; replace H : ((spec_PerturbMap.f k tL a1 tM tR).bind fun btN => ((laws_toPointS.f k l0).bind fun tO => ((laws_toRat.f a2_0 a2_1).bind fun btP => ((impl_PerturbMap.f k tO a1 btP.1 btP.2).bind fun btJ => ((laws_eqPointS.f k btJ.1 btN.1).bind fun tQ => (if tQ = true then (laws_FnExactPerturbMap.j0 k l0 a1 btN.1 btN.2 tO btJ.1 btJ.2 (btJ.2 != btN.2) a2_0 a2_1) else (laws_FnExactPerturbMap.j0 k l0 a1 btN.1 btN.2 tO btJ.1 btJ.2 true a2_0 a2_1))))))) = some r := H; have A8 := Aside0.mk A80; clear A80; replace H := Option.bind_eq_some_iff.mp H; obtain ⟨⟨tN, tS⟩, A90, H⟩ := H; replace H : ((laws_toPointS.f k l0).bind fun tO => ((laws_toRat.f a2_0 a2_1).bind fun btP => ((impl_PerturbMap.f k tO a1 btP.1 btP.2).bind fun btJ => ((laws_eqPointS.f k btJ.1 tN).bind fun tQ => (if tQ = true then (laws_FnExactPerturbMap.j0 k l0 a1 tN tS tO btJ.1 btJ.2 (btJ.2 != tS) a2_0 a2_1) else (laws_FnExactPerturbMap.j0 k l0 a1 tN tS tO btJ.1 btJ.2 true a2_0 a2_1)))))) = some r := H; have A9 := Aside0.mk A90; clear A90; replace H := Option.bind_eq_some_iff.mp H; obtain ⟨tO, AT, H⟩ := H; replace H : ((laws_toRat.f a2_0 a2_1).bind fun btP => ((impl_PerturbMap.f k tO a1 btP.1 btP.2).bind fun btJ => ((laws_eqPointS.f k btJ.1 tN).bind fun tQ => (if tQ = true then (laws_FnExactPerturbMap.j0 k l0 a1 tN tS tO btJ.1 btJ.2 (btJ.2 != tS) a2_0 a2_1) else (laws_FnExactPerturbMap.j0 k l0 a1 tN tS tO btJ.1 btJ.2 true a2_0 a2_1))))) = some r := H; have A10 := Aside0.mk AT; clear AT; replace H := Option.bind_eq_some_iff.mp H; obtain ⟨⟨tP, tU⟩, AV, H⟩ := H; replace H : ((impl_PerturbMap.f k tO a1 tP tU).bind fun btJ => ((laws_eqPointS.f k btJ.1 tN).bind fun tQ => (if tQ = true then (laws_FnExactPerturbMap.j0 k l0 a1 tN tS tO btJ.1 btJ.2 (btJ.2 != tS) a2_0 a2_1) else (laws_FnExactPerturbMap.j0 k l0 a1 tN tS tO btJ.1 btJ.2 true a2_0 a2_1)))) = some r := H; have A11 := Aside0.mk AV; clear AV; replace H := Option.bind_eq_some_iff.mp H; obtain ⟨⟨tJ, tW⟩, AX, H⟩ := H; replace H : ((laws_eqPointS.f k tJ tN).bind fun tQ => (if tQ = true then (laws_FnExactPerturbMap.j0 k l0 a1 tN tS tO tJ tW (tW != tS) a2_0 a2_1) else (laws_FnExactPerturbMap.j0 k l0 a1 tN tS tO tJ tW true a2_0 a2_1))) = some r := H; have A12 := Aside0.mk AX; clear AX; have HC13 := Aside0.mk H; clear H; go_enter Try.func5, Try.ntmps5
  try go_wp2_with (first | ((with_reducible refine gate_dst (N := 5) rfl ?_); refine box_event ?hg (N := 5) ?hd (cs := #[.int .i64 a2_0, .int .i64 a2_1]) (t := 43) ?hr ?_; (case hd => rfl); (case hg => rfl); (case hr => first | (go_simp; done) | (go_simp; rfl)); intro gbH hg w14 hbox hb; have n2_ := gwA (below_size zz63) hg; have n3_ := gwA (below_size zz63) hg; have GWH := n2_; have GEH := n3_; clear n2_ n3_; have BKH := Aside0.mk (hbox); replace HB := Aside0.mk (below_step zz63 hb); clear hb hbox hg) | ((with_reducible refine gate_callee (f := 30) rfl ?_); refine goesL_ (some 20) rfl rfl Try.func30 (by kernel_rfl) rfl #[.slice A0 l0.length c0, .int .i64 1048576] rfl zz62 ?_; (with_reducible refine (laws_szPointS.calls _ _ l0 1048576 tK _ ?side1 ?side2 A4.out).mono ?_); (case side1 => repeat (first | exact (Kd.C_below HR0.out HB.out) | (with_reducible refine Kd.C_alloc ?_ _) | (with_reducible refine Kd.C_drewN ?_ _) | (with_reducible refine Kd.C_drew ?_))); (case side2 => exact HC0.out); rintro e w' ⟨rfl, ⟨nd, rfl⟩⟩; refine ⟨_, rfl, ?_⟩))
  (try (rw [drewN_self w14]; generalize hq_ : World.drewN w14 _ = w14; have n0_ : Aside0 (w14.heap[gbH]? = some (.cells #[.int .i64 a2_0, .int .i64 a2_1] 43 (0, 0))) := ⟨by rw [← hq_]; exact zz74⟩; have n1_ : Aside0 (Below w.heap.size w w14) := ⟨by rw [← hq_]; exact zz61⟩; clear BKH HB hq_; have BKH := n0_; have HB := n1_; clear n0_ n1_)); replace BKH := Aside0.mk (blk_drew BKH.out); replace HB := Aside0.mk (below_drew1 HB.out); refine start_ (n := 11) (S := fun w' => w'.cell? ⟨gbH, 0, none⟩ = some (.int .i64 a2_0) ∧ w'.cell? ⟨gbH, 1, none⟩ = some (.int .i64 a2_1)) (ds := []) #[fF, fF, fF, fF, fF, fF, fF, fF, fF, fF, fF] (by kernel_rfl) rfl rfl ⟨(blk_cell BKH.out 0).trans rfl, (blk_cell BKH.out 1).trans rfl⟩ (fun hHeld => ?_); refine with_tabW laws_FnExactPerturbMap.tab5 laws_FnExactPerturbMap.bits5 (fun HT_ HW_ => ?_); generalize w14.drew = w15 at BKH HB hHeld ⊢; refine pureA 0 (some 24) #[tT, fF, fF, fF, fF, fF, fF, fF, fF, fF, fF] HT_ ?_; refine pureA 2 (some 26) #[tT, fF, tT, fF, fF, fF, fF, fF, fF, fF, fF] HT_ ?_; refine takeA3 3 (some 27) #[tT, fF, tT, tT, fF, fF, fF, fF, fF, fF, fF] HT_ HW_ hHeld ?_; refine one_ (i := 1) (N := some 25) #[tT, tT, tT, tT, fF, fF, fF, fF, fF, fF, fF] rfl rfl (one_of HT_.out (by kernel_rfl)) (by decide) (fun K hK => ?_); refine goes_ Try.func32 (by kernel_rfl) rfl #[.slice A0 l0.length c0] (by rfl) rfl rfl zz62 ?_; with_reducible refine (laws_toPointS.calls k _ _ l0 tL _ ?side1 ?side2 A7.out).mono ?_
  (case side1 => repeat (first | exact (Kd.C_below HR0.out HB.out) | (with_reducible refine Kd.C_alloc ?_ _) | (with_reducible refine Kd.C_drewN ?_ _) | (with_reducible refine Kd.C_drew ?_))); (case side2 => exact HC0.out); rintro e w16 ⟨vY, rfl, ho0, hb⟩; refine ⟨_, rfl, ?_⟩; have n0_ := Aside0.mk (Kd.R_lower ho0 (below_size zz61)); have HOG := n0_; clear n0_; replace BKH := blkA BKH hb; replace HB := Aside0.mk (below_step zz61 hb); (try clear hb); (try clear ho0); refine hK.out _ _ ⟨(blk_cell BKH.out 0).trans rfl, (blk_cell BKH.out 1).trans rfl⟩ (fun hHeld => ?_); clear hK K; refine normA (some 25) ?_; refine one_ (i := 4) (N := some 28) #[tT, tT, tT, tT, tT, fF, fF, fF, fF, fF, fF] rfl rfl (one_of HT_.out (by kernel_rfl)) (by decide) (fun K hK => ?_); refine goes_ Try.func33 (by kernel_rfl) rfl #[.agg #[.int .i64 a2_0, .int .i64 a2_1]] (by rfl) rfl rfl zz62 ?_; with_reducible refine (laws_toRat.calls a2_0 a2_1 tM tR _ A8.out).mono ?_
  rintro e w17 ⟨rfl, hb⟩; refine ⟨_, rfl, ?_⟩; have n0_ := Aside0.mk (Kd.R_below zz79 hb); clear HOG; have HOG := n0_; clear n0_; replace BKH := blkA BKH hb; replace HB := Aside0.mk (below_step zz61 hb); (try clear hb); obtain ⟨Ao18, co18, eo18⟩ := Kd.R_slice HOG.out; (first | subst eo18 | (injection eo18 with f1_ f2_ f3_; have f4_ := f1_.symm; have f5_ := f3_.symm; clear f1_ f2_ f3_; subst f4_; subst f5_))
  refine hK.out _ _ ⟨(blk_cell BKH.out 0).trans rfl, (blk_cell BKH.out 1).trans rfl⟩ (fun hHeld => ?_); clear hK K; refine normA (some 28) ?_; refine one_ (i := 5) (N := some 29) #[tT, tT, tT, tT, tT, tT, fF, fF, fF, fF, fF] rfl rfl (one_of HT_.out (by kernel_rfl)) (by decide) (fun K hK => ?_); refine goes_ Try.func31 (by kernel_rfl) rfl #[.slice Ao18 tL.length co18, .int .i64 a1, .agg #[.int .i64 tM, .int .i64 tR]] (by rfl) rfl rfl zz62 ?_; with_reducible refine (spec_PerturbMap.calls k _ _ tL a1 tM tR tN tS _ ?side1 ?side2 A9.out).mono ?_
  (case side1 => repeat (first | exact (Kd.R_reads' HOG.out).2.2 | (with_reducible refine Kd.C_alloc ?_ _) | (with_reducible refine Kd.C_drewN ?_ _) | (with_reducible refine Kd.C_drew ?_))); (case side2 => exact (Kd.R_reads' HOG.out).2.1); rintro e w19 ⟨vZ, rfl, ho0, hb⟩; refine ⟨_, rfl, ?_⟩; have n0_ := Aside0.mk (Kd.R_elder' zz79 (Kd.R_base ho0) hb); have n1_ := Aside0.mk (Kd.R_lower (Kd.R_new' ho0 (Kd.R_lt zz79)) (below_size zz61)); clear HOG; have HOG := n0_; have HOF := n1_; clear n0_ n1_; replace BKH := blkA BKH hb; replace HB := Aside0.mk (below_step zz61 hb); (try clear hb); (try clear ho0); refine hK.out _ _ ⟨(blk_cell BKH.out 0).trans rfl, (blk_cell BKH.out 1).trans rfl⟩ (fun hHeld => ?_); clear hK K; refine normA (some 29) ?_; refine pureA 6 (some 23) #[tT, tT, tT, tT, tT, tT, tT, fF, fF, fF, fF] HT_ ?_; refine pureA 7 (some 30) #[tT, tT, tT, tT, tT, tT, tT, tT, fF, fF, fF] HT_ ?_; refine pureA 8 (some 31) #[tT, tT, tT, tT, tT, tT, tT, tT, tT, fF, fF] HT_ ?_; refine pureA 9 (some 8) #[tT, tT, tT, tT, tT, tT, tT, tT, tT, tT, fF] HT_ ?_; refine pureA 10 (some 9) #[tT, tT, tT, tT, tT, tT, tT, tT, tT, tT, tT] HT_ ?_; refine done_ (done_of HT_.out (by kernel_rfl)) ?_; go_upto_region 8 with (first | ((with_reducible refine gate_callee (f := 32) rfl ?_); refine goesL_ (some 33) rfl rfl Try.func32 (by kernel_rfl) rfl #[.slice A0 l0.length c0] rfl zz62 ?_; (with_reducible refine (laws_toPointS.calls k _ _ l0 tO _ ?side1 ?side2 A10.out).mono ?_); (case side1 => repeat (first | exact (Kd.C_below HR0.out HB.out) | (with_reducible refine Kd.C_alloc ?_ _) | (with_reducible refine Kd.C_drewN ?_ _) | (with_reducible refine Kd.C_drew ?_))); (case side2 => exact HC0.out); rintro e w20 ⟨vAA, rfl, ho0, hb⟩; refine ⟨_, rfl, ?_⟩; have n0_ := Aside0.mk (Kd.R_elder' zz79 (Kd.R_base ho0) hb); have n1_ := Aside0.mk (Kd.R_elder' zz80 (Kd.R_base ho0) hb); have n2_ := Aside0.mk (Kd.R_lower (Kd.R_new' (Kd.R_new' ho0 (Kd.R_lt zz79)) (Kd.R_lt zz80)) (below_size zz61)); clear HOG HOF; have HOG := n0_; have HOF := n1_; have HOE := n2_; clear n0_ n1_ n2_; replace BKH := blkA BKH hb; replace HB := Aside0.mk (below_step zz61 hb); (try clear hb); (try clear ho0); have hcz21_0 : w20.cell? ⟨gbH, 0, none⟩ = some (.int .i64 a2_0) := (blk_cell BKH.out 0).trans rfl; have hcz21_1 : w20.cell? ⟨gbH, 1, none⟩ = some (.int .i64 a2_1) := (blk_cell BKH.out 1).trans rfl; have hfz21_0 := blk_frozen BKH.out 0; have hfz21_1 := blk_frozen BKH.out 1) | ((with_reducible refine gate_callee (f := 33) rfl ?_); refine goesL_ (some 38) rfl rfl Try.func33 (by kernel_rfl) rfl #[.agg #[.int .i64 a2_0, .int .i64 a2_1]] rfl zz62 ?_; (with_reducible refine (laws_toRat.calls a2_0 a2_1 tP tU _ A11.out).mono ?_); rintro e w22 ⟨rfl, hb⟩; refine ⟨_, rfl, ?_⟩; have n0_ := Aside0.mk (Kd.R_below zz79 hb); have n1_ := Aside0.mk (Kd.R_below zz80 hb); have n2_ := Aside0.mk (Kd.R_below zz81 hb); clear HOG HOF HOE; have HOG := n0_; have HOF := n1_; have HOE := n2_; clear n0_ n1_ n2_; replace BKH := blkA BKH hb; replace HB := Aside0.mk (below_step zz61 hb); (try clear hb); obtain ⟨Ao23, co23, eo23⟩ := Kd.R_slice HOE.out; subst eo23) | ((with_reducible refine gate_callee (f := 34) rfl ?_); refine goesL_ (some 39) rfl rfl Try.func34 (by kernel_rfl) rfl #[.slice Ao23 tO.length co23, .int .i64 a1, .agg #[.int .i64 tP, .int .i64 tU]] rfl zz62 ?_; (with_reducible refine (impl_PerturbMap.calls k _ _ tO a1 tP tU tJ tW _ ?side1 ?side2 A12.out).mono ?_); (case side1 => repeat (first | exact (Kd.R_reads' HOE.out).2.2 | (with_reducible refine Kd.C_alloc ?_ _) | (with_reducible refine Kd.C_drewN ?_ _) | (with_reducible refine Kd.C_drew ?_))); (case side2 => exact (Kd.R_reads' HOE.out).2.1); rintro e w24 ⟨vAB, rfl, ho0, hb⟩; refine ⟨_, rfl, ?_⟩; have n0_ := Aside0.mk (Kd.R_elder' zz79 (Kd.R_base ho0) hb); have n1_ := Aside0.mk (Kd.R_elder' zz80 (Kd.R_base ho0) hb); have n2_ := Aside0.mk (Kd.R_elder' zz81 (Kd.R_base ho0) hb); have n3_ := Aside0.mk (Kd.R_lower (Kd.R_new' (Kd.R_new' (Kd.R_new' ho0 (Kd.R_lt zz79)) (Kd.R_lt zz80)) (Kd.R_lt zz81)) (below_size zz61)); clear HOG HOF HOE; have HOG := n0_; have HOF := n1_; have HOE := n2_; have HOD := n3_; clear n0_ n1_ n2_ n3_; replace BKH := blkA BKH hb; replace HB := Aside0.mk (below_step zz61 hb); (try clear hb); (try clear ho0)))
  (try simp only [Act.put, List.setIfInBounds_toArray, List.set_cons_zero, List.set_cons_succ]); go_cut [50] (fun v50 wc => ∃ (kq : Nat) (x50_12 : Bool), v50 = .bool x50_12 ∧ Aside0 (laws_FnExactPerturbMap.j0 kq l0 a1 tN tS tO tJ tW x50_12 a2_0 a2_1 = some r) ∧ Aside0 (kq ≤ k) ∧ Aside0 (Kd.R k79 79 wc w.heap.size (fun k_ => some k_ ≠ ((.slice Ao23 tO.length co23) : Value).ownBlock ∧ some k_ ≠ (vAB : Value).ownBlock) vZ tN) ∧ Aside0 (Kd.R k79 79 wc w.heap.size (fun k_ => some k_ ≠ (vZ : Value).ownBlock ∧ some k_ ≠ (vAB : Value).ownBlock) (.slice Ao23 tO.length co23) tO) ∧ Aside0 (Kd.R k79 79 wc w.heap.size (fun k_ => some k_ ≠ (vZ : Value).ownBlock ∧ some k_ ≠ ((.slice Ao23 tO.length co23) : Value).ownBlock) vAB tJ) ∧ Aside0 (wc.heap[gbH]? = some (.cells #[.int .i64 a2_0, .int .i64 a2_1] 43 (0, 0))) ∧ Aside0 (Below w.heap.size w wc))
  case first =>
   have H := HC13.out; clear HC13; replace H := Option.bind_eq_some_iff.mp H; obtain ⟨tQ, AAC, H⟩ := H; replace H : (if tQ = true then (laws_FnExactPerturbMap.j0 k l0 a1 tN tS tO tJ tW (tW != tS) a2_0 a2_1) else (laws_FnExactPerturbMap.j0 k l0 a1 tN tS tO tJ tW true a2_0 a2_1)) = some r := H; have A25 := Aside0.mk AAC; clear AAC; by_cases c26 : tQ = true
   ·subst c26; have H1 : (laws_FnExactPerturbMap.j0 k l0 a1 tN tS tO tJ tW (tW != tS) a2_0 a2_1) = some r := by rw [if_pos rfl] at H; exact H
    clear H; have H := H1; clear H1; have H' := Aside0.mk H; clear H; obtain ⟨Ao27, co27, eo27⟩ := Kd.R_slice HOD.out; subst eo27; obtain ⟨Ao28, co28, eo28⟩ := Kd.R_slice HOF.out; subst eo28; go_wp2_with (first | ((with_reducible refine gate_callee (f := 25) rfl ?_); refine goesL_ (some 44) rfl rfl Try.func25 (by kernel_rfl) rfl #[.slice Ao27 tJ.length co27, .slice Ao28 tN.length co28] rfl zz62 ?_; (with_reducible refine (laws_eqPointS.calls k _ _ tJ _ _ tN true _ ?side1 ?side2 ?side3 ?side4 A25.out).mono ?_); (case side1 => repeat (first | exact (Kd.R_reads' HOD.out).2.2 | (with_reducible refine Kd.C_alloc ?_ _) | (with_reducible refine Kd.C_drewN ?_ _) | (with_reducible refine Kd.C_drew ?_))); (case side2 => exact (Kd.R_reads' HOD.out).2.1); (case side3 => repeat (first | exact (Kd.R_reads' HOF.out).2.2 | (with_reducible refine Kd.C_alloc ?_ _) | (with_reducible refine Kd.C_drewN ?_ _) | (with_reducible refine Kd.C_drew ?_))); (case side4 => exact (Kd.R_reads' HOF.out).2.1); rintro e w29 ⟨rfl, hb⟩; refine ⟨_, rfl, ?_⟩; have n0_ := Aside0.mk (Kd.R_below zz79 hb); have n1_ := Aside0.mk (Kd.R_below zz80 hb); have n2_ := Aside0.mk (Kd.R_below zz81 hb); have n3_ := Aside0.mk (Kd.R_below zz82 hb); clear HOG HOF HOE HOD; have HOG := n0_; have HOF := n1_; have HOE := n2_; have HOD := n3_; clear n0_ n1_ n2_ n3_; replace BKH := blkA BKH hb; replace HB := Aside0.mk (below_step zz61 hb); (try clear hb)))
    go_meet
    case rel => exact ⟨_, ((tW != tS)), zz102, H', ⟨by first | omega | exact Nat.le_refl _⟩, ⟨by (with_reducible repeat (first | apply Kd.R_alloc | apply Kd.R_drewN | apply Kd.R_drew)); exact Kd.R_mono HOF.out (fun _ hk => ⟨hk.1.2, hk.2⟩)⟩, ⟨by (with_reducible repeat (first | apply Kd.R_alloc | apply Kd.R_drewN | apply Kd.R_drew)); exact Kd.R_mono HOE.out (fun _ hk => ⟨hk.1.2, hk.2⟩)⟩, ⟨by (with_reducible repeat (first | apply Kd.R_alloc | apply Kd.R_drewN | apply Kd.R_drew)); exact Kd.R_mono HOD.out (fun _ hk => ⟨hk.1.2, hk.2⟩)⟩, ⟨by (with_reducible repeat (first | refine blk_drewN ?_ _ | refine blk_drew ?_ | refine blk_alloc ?_ _)); exact BKH.out⟩, ⟨by repeat (first | (with_reducible first | exact HB.out | apply below_alloc | apply pw_below_drewN | apply below_drew1 | refine below_set ?_ GEH.out) | exact HB.out)⟩⟩
   ·replace c26 := Bool.eq_false_iff.mpr c26; subst c26; have H1 : (laws_FnExactPerturbMap.j0 k l0 a1 tN tS tO tJ tW true a2_0 a2_1) = some r := by rw [if_neg (show ¬ (false = true) by decide)] at H; exact H
    clear H; have H := H1; clear H1; have H' := Aside0.mk H; clear H; obtain ⟨Ao30, co30, eo30⟩ := Kd.R_slice HOD.out; subst eo30; obtain ⟨Ao31, co31, eo31⟩ := Kd.R_slice HOF.out; subst eo31; go_wp2_with (first | ((with_reducible refine gate_callee (f := 25) rfl ?_); refine goesL_ (some 44) rfl rfl Try.func25 (by kernel_rfl) rfl #[.slice Ao30 tJ.length co30, .slice Ao31 tN.length co31] rfl zz62 ?_; (with_reducible refine (laws_eqPointS.calls k _ _ tJ _ _ tN false _ ?side1 ?side2 ?side3 ?side4 A25.out).mono ?_); (case side1 => repeat (first | exact (Kd.R_reads' HOD.out).2.2 | (with_reducible refine Kd.C_alloc ?_ _) | (with_reducible refine Kd.C_drewN ?_ _) | (with_reducible refine Kd.C_drew ?_))); (case side2 => exact (Kd.R_reads' HOD.out).2.1); (case side3 => repeat (first | exact (Kd.R_reads' HOF.out).2.2 | (with_reducible refine Kd.C_alloc ?_ _) | (with_reducible refine Kd.C_drewN ?_ _) | (with_reducible refine Kd.C_drew ?_))); (case side4 => exact (Kd.R_reads' HOF.out).2.1); rintro e w32 ⟨rfl, hb⟩; refine ⟨_, rfl, ?_⟩; have n0_ := Aside0.mk (Kd.R_below zz79 hb); have n1_ := Aside0.mk (Kd.R_below zz80 hb); have n2_ := Aside0.mk (Kd.R_below zz81 hb); have n3_ := Aside0.mk (Kd.R_below zz82 hb); clear HOG HOF HOE HOD; have HOG := n0_; have HOF := n1_; have HOE := n2_; have HOD := n3_; clear n0_ n1_ n2_ n3_; replace BKH := blkA BKH hb; replace HB := Aside0.mk (below_step zz61 hb); (try clear hb)))
    go_meet
    case rel => exact ⟨_, (true), zz102, H', ⟨by first | omega | exact Nat.le_refl _⟩, ⟨by (with_reducible repeat (first | apply Kd.R_alloc | apply Kd.R_drewN | apply Kd.R_drew)); exact Kd.R_mono HOF.out (fun _ hk => ⟨hk.1.2, hk.2⟩)⟩, ⟨by (with_reducible repeat (first | apply Kd.R_alloc | apply Kd.R_drewN | apply Kd.R_drew)); exact Kd.R_mono HOE.out (fun _ hk => ⟨hk.1.2, hk.2⟩)⟩, ⟨by (with_reducible repeat (first | apply Kd.R_alloc | apply Kd.R_drewN | apply Kd.R_drew)); exact Kd.R_mono HOD.out (fun _ hk => ⟨hk.1.2, hk.2⟩)⟩, ⟨by (with_reducible repeat (first | refine blk_drewN ?_ _ | refine blk_drew ?_ | refine blk_alloc ?_ _)); exact BKH.out⟩, ⟨by repeat (first | (with_reducible first | exact HB.out | apply below_alloc | apply pw_below_drewN | apply below_drew1 | refine below_set ?_ GEH.out) | exact HB.out)⟩⟩
  case rest =>
   clear HC13; try clear c2
   try clear p2
   try clear c3
   try clear c5
   try clear c5b0
   try clear c25
   try clear c26
   try clear c30
   try clear c31
   try clear c32
   try clear hcz21_0
   try clear hcz21_1
   try clear hfz21_0
   try clear hfz21_1
   obtain ⟨kq, x50_12, rfl, HA, HJ12, HO_8, HO_10, HO_11, BKH, HB⟩ := hcut; cases kq with
   | zero => exact absurd HA.out (by simp [laws_FnExactPerturbMap.j0])
   | succ kj12 =>
    have H := HA.out; clear HA; simp only [laws_FnExactPerturbMap.j0] at H; by_cases c33 : x50_12 = true
    ·subst c33; have H1 : (some false) = some r := by rw [if_pos rfl] at H; exact H
     clear H; have H := H1; clear H1; obtain rfl := Option.some.inj H; go_wp2
     go_ret
     exact ⟨by first | rfl | (simp [errW_none, errW_some] <;> rfl) | (simp [*, errW_none, errW_some] <;> rfl), by repeat (first | (with_reducible first | exact HB.out | apply below_alloc | apply pw_below_drewN | apply below_drew1 | refine below_set ?_ GEH.out) | exact HB.out)⟩
    ·replace c33 := Bool.eq_false_iff.mpr c33; subst c33; have H1 : ((laws_toPointS.f kj12 l0).bind fun tAD => ((laws_eqPointS.f kj12 tO tAD).bind fun tAE => (if tAE = true then ((laws_markPointS.f kj12 tO 1).bind fun btAF => (if btAF.1 < 0 then (laws_FnExactPerturbMap.j1 kj12 l0 a1 tN tS tJ true a2_0 a2_1) else ((laws_eqPointS.f kj12 tJ tN).bind fun tAG => (if tAG = true then (laws_FnExactPerturbMap.j1 kj12 l0 a1 tN tS tJ (tW != tS) a2_0 a2_1) else (laws_FnExactPerturbMap.j1 kj12 l0 a1 tN tS tJ true a2_0 a2_1))))) else (some false)))) = some r := by rw [if_neg (show ¬ (false = true) by decide)] at H; exact H
     clear H; have H := H1; clear H1; replace H := Option.bind_eq_some_iff.mp H; obtain ⟨tAD, AAH, H⟩ := H; replace H : ((laws_eqPointS.f kj12 tO tAD).bind fun tAE => (if tAE = true then ((laws_markPointS.f kj12 tO 1).bind fun btAF => (if btAF.1 < 0 then (laws_FnExactPerturbMap.j1 kj12 l0 a1 tN tS tJ true a2_0 a2_1) else ((laws_eqPointS.f kj12 tJ tN).bind fun tAG => (if tAG = true then (laws_FnExactPerturbMap.j1 kj12 l0 a1 tN tS tJ (tW != tS) a2_0 a2_1) else (laws_FnExactPerturbMap.j1 kj12 l0 a1 tN tS tJ true a2_0 a2_1))))) else (some false))) = some r := H; have A34 := Aside0.mk AAH; clear AAH; replace H := Option.bind_eq_some_iff.mp H; obtain ⟨tAE, AAI, H⟩ := H; replace H : (if tAE = true then ((laws_markPointS.f kj12 tO 1).bind fun btAF => (if btAF.1 < 0 then (laws_FnExactPerturbMap.j1 kj12 l0 a1 tN tS tJ true a2_0 a2_1) else ((laws_eqPointS.f kj12 tJ tN).bind fun tAG => (if tAG = true then (laws_FnExactPerturbMap.j1 kj12 l0 a1 tN tS tJ (tW != tS) a2_0 a2_1) else (laws_FnExactPerturbMap.j1 kj12 l0 a1 tN tS tJ true a2_0 a2_1))))) else (some false)) = some r := H; have A35 := Aside0.mk AAI; clear AAI; by_cases c36 : tAE = true
     ·subst c36; have H1 : ((laws_markPointS.f kj12 tO 1).bind fun btAF => (if btAF.1 < 0 then (laws_FnExactPerturbMap.j1 kj12 l0 a1 tN tS tJ true a2_0 a2_1) else ((laws_eqPointS.f kj12 tJ tN).bind fun tAG => (if tAG = true then (laws_FnExactPerturbMap.j1 kj12 l0 a1 tN tS tJ (tW != tS) a2_0 a2_1) else (laws_FnExactPerturbMap.j1 kj12 l0 a1 tN tS tJ true a2_0 a2_1))))) = some r := by rw [if_pos rfl] at H; exact H
      clear H; have H := H1; clear H1; replace H := Option.bind_eq_some_iff.mp H; obtain ⟨⟨tAF, tAJ⟩, AAK, H⟩ := H; replace H : (if tAF < 0 then (laws_FnExactPerturbMap.j1 kj12 l0 a1 tN tS tJ true a2_0 a2_1) else ((laws_eqPointS.f kj12 tJ tN).bind fun tAG => (if tAG = true then (laws_FnExactPerturbMap.j1 kj12 l0 a1 tN tS tJ (tW != tS) a2_0 a2_1) else (laws_FnExactPerturbMap.j1 kj12 l0 a1 tN tS tJ true a2_0 a2_1)))) = some r := H; have A37 := Aside0.mk AAK; clear AAK; have HC38 := Aside0.mk H; clear H; go_upto_region 14 with (first | ((with_reducible refine gate_callee (f := 32) rfl ?_); refine goesL_ (some 53) rfl rfl Try.func32 (by kernel_rfl) rfl #[.slice A0 l0.length c0] rfl zz62 ?_; (with_reducible refine (laws_toPointS.calls kj12 _ _ l0 tAD _ ?side1 ?side2 A34.out).mono ?_); (case side1 => repeat (first | exact (Kd.C_below HR0.out HB.out) | (with_reducible refine Kd.C_alloc ?_ _) | (with_reducible refine Kd.C_drewN ?_ _) | (with_reducible refine Kd.C_drew ?_))); (case side2 => exact HC0.out); rintro e w39 ⟨vAL, rfl, ho0, hb⟩; refine ⟨_, rfl, ?_⟩; have n0_ := Aside0.mk (Kd.R_elder' zz90 (Kd.R_base ho0) hb); have n1_ := Aside0.mk (Kd.R_elder' zz83 (Kd.R_base ho0) hb); have n2_ := Aside0.mk (Kd.R_elder' zz84 (Kd.R_base ho0) hb); have n3_ := Aside0.mk (Kd.R_lower (Kd.R_new' (Kd.R_new' (Kd.R_new' ho0 (Kd.R_lt zz90)) (Kd.R_lt zz83)) (Kd.R_lt zz84)) (below_size zz61)); clear HO_8 HO_10 HO_11; have HO_8 := n0_; have HO_10 := n1_; have HO_11 := n2_; have HOC := n3_; clear n0_ n1_ n2_ n3_; replace BKH := blkA BKH hb; replace HB := Aside0.mk (below_step zz61 hb); (try clear hb); (try clear ho0); obtain ⟨Ao40, co40, eo40⟩ := Kd.R_slice HOC.out; subst eo40) | ((with_reducible refine gate_callee (f := 25) rfl ?_); refine goesL_ (some 54) rfl rfl Try.func25 (by kernel_rfl) rfl #[.slice Ao23 tO.length co23, .slice Ao40 tAD.length co40] rfl zz62 ?_; (with_reducible refine (laws_eqPointS.calls kj12 _ _ tO _ _ tAD true _ ?side1 ?side2 ?side3 ?side4 A35.out).mono ?_); (case side1 => repeat (first | exact (Kd.R_reads' HO_10.out).2.2 | (with_reducible refine Kd.C_alloc ?_ _) | (with_reducible refine Kd.C_drewN ?_ _) | (with_reducible refine Kd.C_drew ?_))); (case side2 => exact (Kd.R_reads' HO_10.out).2.1); (case side3 => repeat (first | exact (Kd.R_reads' HOC.out).2.2 | (with_reducible refine Kd.C_alloc ?_ _) | (with_reducible refine Kd.C_drewN ?_ _) | (with_reducible refine Kd.C_drew ?_))); (case side4 => exact (Kd.R_reads' HOC.out).2.1); rintro e w41 ⟨rfl, hb⟩; refine ⟨_, rfl, ?_⟩; have n0_ := Aside0.mk (Kd.R_below zz90 hb); have n1_ := Aside0.mk (Kd.R_below zz83 hb); have n2_ := Aside0.mk (Kd.R_below zz84 hb); have n3_ := Aside0.mk (Kd.R_below zz85 hb); clear HO_8 HO_10 HO_11 HOC; have HO_8 := n0_; have HO_10 := n1_; have HO_11 := n2_; have HOC := n3_; clear n0_ n1_ n2_ n3_; replace BKH := blkA BKH hb; replace HB := Aside0.mk (below_step zz61 hb); (try clear hb)) | ((with_reducible refine gate_callee (f := 28) rfl ?_); refine goesL_ (some 58) rfl rfl Try.func28 (by kernel_rfl) rfl #[.slice Ao23 tO.length co23, .int .i64 1] rfl zz62 ?_; (with_reducible refine (laws_markPointS.calls kj12 (fun k_ => some k_ = (.slice Ao23 tO.length co23 : Value).ownBlock) (.slice Ao23 tO.length co23) tO 1 tAF tAJ w _ ?side1 ?side2 A37.out).mono ?_); (case side1 => repeat (first | (with_reducible first | exact HB.out | apply below_alloc | apply pw_below_drewN | apply below_drew1 | refine below_set ?_ GEH.out) | exact HB.out)); (case side2 => exact Kd.R_tight rfl HO_10.out); rintro e w42 ⟨rfl, hy0, hb, hkp⟩; refine ⟨_, rfl, ?_⟩; have n0_ := Aside0.mk (Kd.R_mono (ok' := fun k_ => some k_ ≠ (.slice Ao23 tO.length co23 : Value).ownBlock ∧ some k_ ≠ (vAB : Value).ownBlock ∧ some k_ ≠ (.slice Ao40 tAD.length co40 : Value).ownBlock) (Kd.R_keptB (HO_8.out) hkp (fun k_ hk_ hs_ => (hk_.1.1) hs_)) (fun k_ hk_ => ⟨hk_.1.1.1, hk_.1.1.2, hk_.1.2⟩)); have n1_ := Aside0.mk (Kd.R_reok rfl hy0 (fun k_ e_ => HO_10.out.1 k_ e_)); have n2_ := Aside0.mk (Kd.R_mono (ok' := fun k_ => some k_ ≠ (vZ : Value).ownBlock ∧ some k_ ≠ (.slice Ao23 tO.length co23 : Value).ownBlock ∧ some k_ ≠ (.slice Ao40 tAD.length co40 : Value).ownBlock) (Kd.R_keptB (HO_11.out) hkp (fun k_ hk_ hs_ => (hk_.1.2) hs_)) (fun k_ hk_ => ⟨hk_.1.1.1, hk_.1.1.2, hk_.1.2⟩)); have n3_ := Aside0.mk (blk_kept zz74 hkp (fun hs_ => (fun e_ => (Kd.R_ne HO_10.out BKH.out (by decide)) e_) hs_)); have n4_ := Aside0.mk (Kd.R_mono (ok' := fun k_ => some k_ ≠ (vZ : Value).ownBlock ∧ some k_ ≠ (.slice Ao23 tO.length co23 : Value).ownBlock ∧ some k_ ≠ (vAB : Value).ownBlock) (Kd.R_keptB (HOC.out) hkp (fun k_ hk_ hs_ => (hk_.1.2) hs_)) (fun k_ hk_ => ⟨hk_.1.1.1.2, hk_.1.1.2, hk_.1.2⟩)); clear HO_8 HO_10 HO_11 BKH HOC; have HO_8 := n0_; have HO_10 := n1_; have HO_11 := n2_; have BKH := n3_; have HOC := n4_; clear n0_ n1_ n2_ n3_ n4_; replace HB := Aside0.mk (hb); (try clear hb); (try clear hkp); (try clear hy0)))
      (try simp only [Act.put, List.setIfInBounds_toArray, List.set_cons_zero, List.set_cons_succ]); go_cut [71] (fun v71 wc => ∃ (kq : Nat) (x71_37 : Bool), v71 = .bool x71_37 ∧ Aside0 (laws_FnExactPerturbMap.j1 kq l0 a1 tN tS tJ x71_37 a2_0 a2_1 = some r) ∧ Aside0 (kq ≤ kj12) ∧ Aside0 (Kd.R k79 79 wc w.heap.size (fun k_ => some k_ ≠ (vAB : Value).ownBlock) vZ tN) ∧ Aside0 (Kd.R k79 79 wc w.heap.size (fun k_ => some k_ ≠ (vZ : Value).ownBlock) vAB tJ) ∧ Aside0 (wc.heap[gbH]? = some (.cells #[.int .i64 a2_0, .int .i64 a2_1] 43 (0, 0))) ∧ Aside0 (Below w.heap.size w wc))
      case first =>
       have H := HC38.out; clear HC38; by_cases c43 : tAF < 0
       ·rw [if_pos c43] at H; have c43b0 : decide (tAF < 0) = true := decide_eq_true c43; clear c43; (first | rw [c43b0] | (simp only [i64_w, i32_w]; rw [c43b0]) | skip)
        have H' := Aside0.mk H; clear H; go_wp2
        go_meet
        case rel => exact ⟨_, (true), zz102, H', ⟨by have := HJ12.out; first | omega | exact Nat.le_refl _⟩, ⟨by (with_reducible repeat (first | apply Kd.R_alloc | apply Kd.R_drewN | apply Kd.R_drew)); exact Kd.R_mono HO_8.out (fun _ hk => hk.2.1)⟩, ⟨by (with_reducible repeat (first | apply Kd.R_alloc | apply Kd.R_drewN | apply Kd.R_drew)); exact Kd.R_mono HO_11.out (fun _ hk => hk.1)⟩, ⟨by (with_reducible repeat (first | refine blk_drewN ?_ _ | refine blk_drew ?_ | refine blk_alloc ?_ _)); exact BKH.out⟩, ⟨by repeat (first | (with_reducible first | exact HB.out | apply below_alloc | apply pw_below_drewN | apply below_drew1 | refine below_set ?_ GEH.out) | exact HB.out)⟩⟩
       ·rw [if_neg c43] at H; have c43b0 : decide (tAF < 0) = false := decide_eq_false c43; clear c43; (first | rw [c43b0] | (simp only [i64_w, i32_w]; rw [c43b0]) | skip)
        replace H := Option.bind_eq_some_iff.mp H; obtain ⟨tAG, AN, H⟩ := H; replace H : (if tAG = true then (laws_FnExactPerturbMap.j1 kj12 l0 a1 tN tS tJ (tW != tS) a2_0 a2_1) else (laws_FnExactPerturbMap.j1 kj12 l0 a1 tN tS tJ true a2_0 a2_1)) = some r := H; have A44 := Aside0.mk AN; clear AN; by_cases c45 : tAG = true
        ·subst c45; have H1 : (laws_FnExactPerturbMap.j1 kj12 l0 a1 tN tS tJ (tW != tS) a2_0 a2_1) = some r := by rw [if_pos rfl] at H; exact H
         clear H; have H := H1; clear H1; have H' := Aside0.mk H; clear H; obtain ⟨Ao46, co46, eo46⟩ := Kd.R_slice HO_11.out; subst eo46; obtain ⟨Ao47, co47, eo47⟩ := Kd.R_slice HO_8.out; subst eo47; go_wp2_with (first | (go_at_call 25; (with_reducible refine (laws_eqPointS.calls kj12 _ _ tJ _ _ tN true _ ?side1 ?side2 ?side3 ?side4 A44.out).mono ?_); (case side1 => repeat (first | exact (Kd.R_reads' HO_11.out).2.2 | (with_reducible refine Kd.C_alloc ?_ _) | (with_reducible refine Kd.C_drewN ?_ _) | (with_reducible refine Kd.C_drew ?_))); (case side2 => exact (Kd.R_reads' HO_11.out).2.1); (case side3 => repeat (first | exact (Kd.R_reads' HO_8.out).2.2 | (with_reducible refine Kd.C_alloc ?_ _) | (with_reducible refine Kd.C_drewN ?_ _) | (with_reducible refine Kd.C_drew ?_))); (case side4 => exact (Kd.R_reads' HO_8.out).2.1); rintro e w48 ⟨rfl, hb⟩; have n0_ := Aside0.mk (Kd.R_below zz90 hb); have n1_ := Aside0.mk (Kd.R_below zz83 hb); have n2_ := Aside0.mk (Kd.R_below zz84 hb); have n3_ := Aside0.mk (Kd.R_below zz85 hb); clear HO_8 HO_10 HO_11 HOC; have HO_8 := n0_; have HO_10 := n1_; have HO_11 := n2_; have HOC := n3_; clear n0_ n1_ n2_ n3_; replace BKH := blkA BKH hb; replace HB := Aside0.mk (below_step zz61 hb); (try clear hb)))
         go_meet
         case rel => exact ⟨_, ((tW != tS)), zz102, H', ⟨by have := HJ12.out; first | omega | exact Nat.le_refl _⟩, ⟨by (with_reducible repeat (first | apply Kd.R_alloc | apply Kd.R_drewN | apply Kd.R_drew)); exact Kd.R_mono HO_8.out (fun _ hk => hk.2.1)⟩, ⟨by (with_reducible repeat (first | apply Kd.R_alloc | apply Kd.R_drewN | apply Kd.R_drew)); exact Kd.R_mono HO_11.out (fun _ hk => hk.1)⟩, ⟨by (with_reducible repeat (first | refine blk_drewN ?_ _ | refine blk_drew ?_ | refine blk_alloc ?_ _)); exact BKH.out⟩, ⟨by repeat (first | (with_reducible first | exact HB.out | apply below_alloc | apply pw_below_drewN | apply below_drew1 | refine below_set ?_ GEH.out) | exact HB.out)⟩⟩
        ·replace c45 := Bool.eq_false_iff.mpr c45; subst c45; have H1 : (laws_FnExactPerturbMap.j1 kj12 l0 a1 tN tS tJ true a2_0 a2_1) = some r := by rw [if_neg (show ¬ (false = true) by decide)] at H; exact H
         clear H; have H := H1; clear H1; have H' := Aside0.mk H; clear H; obtain ⟨Ao49, co49, eo49⟩ := Kd.R_slice HO_11.out; subst eo49; obtain ⟨Ao50, co50, eo50⟩ := Kd.R_slice HO_8.out; subst eo50; go_wp2_with (first | (go_at_call 25; (with_reducible refine (laws_eqPointS.calls kj12 _ _ tJ _ _ tN false _ ?side1 ?side2 ?side3 ?side4 A44.out).mono ?_); (case side1 => repeat (first | exact (Kd.R_reads' HO_11.out).2.2 | (with_reducible refine Kd.C_alloc ?_ _) | (with_reducible refine Kd.C_drewN ?_ _) | (with_reducible refine Kd.C_drew ?_))); (case side2 => exact (Kd.R_reads' HO_11.out).2.1); (case side3 => repeat (first | exact (Kd.R_reads' HO_8.out).2.2 | (with_reducible refine Kd.C_alloc ?_ _) | (with_reducible refine Kd.C_drewN ?_ _) | (with_reducible refine Kd.C_drew ?_))); (case side4 => exact (Kd.R_reads' HO_8.out).2.1); rintro e w51 ⟨rfl, hb⟩; have n0_ := Aside0.mk (Kd.R_below zz90 hb); have n1_ := Aside0.mk (Kd.R_below zz83 hb); have n2_ := Aside0.mk (Kd.R_below zz84 hb); have n3_ := Aside0.mk (Kd.R_below zz85 hb); clear HO_8 HO_10 HO_11 HOC; have HO_8 := n0_; have HO_10 := n1_; have HO_11 := n2_; have HOC := n3_; clear n0_ n1_ n2_ n3_; replace BKH := blkA BKH hb; replace HB := Aside0.mk (below_step zz61 hb); (try clear hb)))
         go_meet
         case rel => exact ⟨_, (true), zz102, H', ⟨by have := HJ12.out; first | omega | exact Nat.le_refl _⟩, ⟨by (with_reducible repeat (first | apply Kd.R_alloc | apply Kd.R_drewN | apply Kd.R_drew)); exact Kd.R_mono HO_8.out (fun _ hk => hk.2.1)⟩, ⟨by (with_reducible repeat (first | apply Kd.R_alloc | apply Kd.R_drewN | apply Kd.R_drew)); exact Kd.R_mono HO_11.out (fun _ hk => hk.1)⟩, ⟨by (with_reducible repeat (first | refine blk_drewN ?_ _ | refine blk_drew ?_ | refine blk_alloc ?_ _)); exact BKH.out⟩, ⟨by repeat (first | (with_reducible first | exact HB.out | apply below_alloc | apply pw_below_drewN | apply below_drew1 | refine below_set ?_ GEH.out) | exact HB.out)⟩⟩
      case rest =>
       clear HC38; try clear c2
       try clear p2
       try clear c3
       try clear c4
       try clear c5
       try clear c5b0
       try clear c25
       try clear c26
       try clear c28
       try clear c30
       try clear c31
       try clear c32
       try clear c33
       try clear c34
       try clear c36
       try clear c43
       try clear c43b0
       try clear c45
       try clear hcz21_0
       try clear hcz21_1
       try clear hfz21_0
       try clear hfz21_1
       try clear p2
       obtain ⟨kq, x71_37, rfl, HA, HJ37, HO_8, HO_11, BKH, HB⟩ := hcut; cases kq with
       | zero => exact absurd HA.out (by simp [laws_FnExactPerturbMap.j1])
       | succ kj37 =>
        have H := HA.out; clear HA; simp only [laws_FnExactPerturbMap.j1] at H; by_cases c52 : x71_37 = true
        ·subst c52; have H1 : (some false) = some r := by rw [if_pos rfl] at H; exact H
         clear H; have H := H1; clear H1; obtain rfl := Option.some.inj H; go_wp2
         go_ret
         exact ⟨by first | rfl | (simp [errW_none, errW_some] <;> rfl) | (simp [*, errW_none, errW_some] <;> rfl), by repeat (first | (with_reducible first | exact HB.out | apply below_alloc | apply pw_below_drewN | apply below_drew1 | refine below_set ?_ GEH.out) | exact HB.out)⟩
        ·replace c52 := Bool.eq_false_iff.mpr c52; subst c52; have H1 : ((laws_markPointS.f kj37 tJ 1).bind fun btAM => ((laws_heldPointS.f kj37 btAM.2 1).bind fun tAN => (if tAN < 0 then (some false) else (if tAN = btAM.1 then ((laws_toPointS.f kj37 l0).bind fun tAO => ((laws_toRat.f a2_0 a2_1).bind fun btAP => ((impl_PerturbMap.f kj37 tAO a1 btAP.1 btAP.2).bind fun btAQ => ((laws_eqPointS.f kj37 btAQ.1 tN).bind fun tAR => (if tAR = true then (laws_FnExactPerturbMap.j2 kj37 btAM.2 btAM.1 (btAQ.2 != tS)) else (laws_FnExactPerturbMap.j2 kj37 btAM.2 btAM.1 true)))))) else (some false))))) = some r := by rw [if_neg (show ¬ (false = true) by decide)] at H; exact H
         clear H; have H := H1; clear H1; replace H := Option.bind_eq_some_iff.mp H; obtain ⟨⟨tAM, tI⟩, AAS, H⟩ := H; replace H : ((laws_heldPointS.f kj37 tI 1).bind fun tAN => (if tAN < 0 then (some false) else (if tAN = tAM then ((laws_toPointS.f kj37 l0).bind fun tAO => ((laws_toRat.f a2_0 a2_1).bind fun btAP => ((impl_PerturbMap.f kj37 tAO a1 btAP.1 btAP.2).bind fun btAQ => ((laws_eqPointS.f kj37 btAQ.1 tN).bind fun tAR => (if tAR = true then (laws_FnExactPerturbMap.j2 kj37 tI tAM (btAQ.2 != tS)) else (laws_FnExactPerturbMap.j2 kj37 tI tAM true)))))) else (some false)))) = some r := H; have A53 := Aside0.mk AAS; clear AAS; replace H := Option.bind_eq_some_iff.mp H; obtain ⟨tAN, AAT, H⟩ := H; replace H : (if tAN < 0 then (some false) else (if tAN = tAM then ((laws_toPointS.f kj37 l0).bind fun tAO => ((laws_toRat.f a2_0 a2_1).bind fun btAP => ((impl_PerturbMap.f kj37 tAO a1 btAP.1 btAP.2).bind fun btAQ => ((laws_eqPointS.f kj37 btAQ.1 tN).bind fun tAR => (if tAR = true then (laws_FnExactPerturbMap.j2 kj37 tI tAM (btAQ.2 != tS)) else (laws_FnExactPerturbMap.j2 kj37 tI tAM true)))))) else (some false))) = some r := H; have A54 := Aside0.mk AAT; clear AAT; by_cases c55 : tAN < 0
         ·rw [if_pos c55] at H; have c55b0 : decide (tAN < 0) = true := decide_eq_true c55; clear c55; obtain rfl := Option.some.inj H; obtain ⟨Ao56, co56, eo56⟩ := Kd.R_slice HO_11.out; subst eo56; go_wp2_with (first | ((with_reducible refine gate_callee (f := 28) rfl ?_); refine goesL_ (some 74) rfl rfl Try.func28 (by kernel_rfl) rfl #[.slice Ao56 tJ.length co56, .int .i64 1] rfl zz62 ?_; (with_reducible refine (laws_markPointS.calls kj37 (fun k_ => some k_ = (.slice Ao56 tJ.length co56 : Value).ownBlock) (.slice Ao56 tJ.length co56) tJ 1 tAM tI w _ ?side1 ?side2 A53.out).mono ?_); (case side1 => repeat (first | (with_reducible first | exact HB.out | apply below_alloc | apply pw_below_drewN | apply below_drew1 | refine below_set ?_ GEH.out) | exact HB.out)); (case side2 => exact Kd.R_tight rfl HO_11.out); rintro e w57 ⟨rfl, hy0, hb, hkp⟩; refine ⟨_, rfl, ?_⟩; have n0_ := Aside0.mk (Kd.R_mono (ok' := fun k_ => some k_ ≠ (.slice Ao56 tJ.length co56 : Value).ownBlock) (Kd.R_keptB (HO_8.out) hkp (fun k_ hk_ hs_ => (hk_) hs_)) (fun k_ hk_ => hk_.1)); have n1_ := Aside0.mk (Kd.R_reok rfl hy0 (fun k_ e_ => HO_11.out.1 k_ e_)); have n2_ := Aside0.mk (blk_kept zz74 hkp (fun hs_ => (fun e_ => (Kd.R_ne HO_11.out BKH.out (by decide)) e_) hs_)); clear HO_8 HO_11 BKH; have HO_8 := n0_; have HO_11 := n1_; have BKH := n2_; clear n0_ n1_ n2_; replace HB := Aside0.mk (hb); (try clear hb); (try clear hkp); (try clear hy0)) | ((with_reducible refine gate_callee (f := 29) rfl ?_); refine goesL_ (some 77) rfl rfl Try.func29 (by kernel_rfl) rfl #[.slice Ao56 tI.length co56, .int .i64 1] rfl zz26 ?_; (with_reducible refine (laws_heldPointS.calls kj37 _ _ tI 1 tAN _ ?side1 ?side2 A54.out).mono ?_); (case side1 => repeat (first | exact (Kd.R_reads' HO_11.out).2.2 | (with_reducible refine Kd.C_alloc ?_ _) | (with_reducible refine Kd.C_drewN ?_ _) | (with_reducible refine Kd.C_drew ?_))); (case side2 => rw [show tI.length = tJ.length from (Kd.R_reads' HO_11.out).1.symm]; exact (Kd.R_reads' HO_11.out).2.1); rintro e w' ⟨rfl, ⟨nd, rfl⟩⟩; refine ⟨_, rfl, ?_⟩))
          go_ret
          exact ⟨by first | rfl | (simp [errW_none, errW_some] <;> rfl) | (simp [*, errW_none, errW_some] <;> rfl), by repeat (first | (with_reducible first | exact HB.out | apply below_alloc | apply pw_below_drewN | apply below_drew1 | refine below_set ?_ GEH.out) | exact HB.out)⟩
         ·rw [if_neg c55] at H; have c55b0 : decide (tAN < 0) = false := decide_eq_false c55; clear c55; by_cases c58 : tAN = tAM
          ·rw [if_pos c58] at H; have c58b0 : (tAN == tAM) = true := beq_iff_eq.mpr c58; have c58b1 : (tAN != tAM) = false := bne_eq_false_iff_eq.mpr c58; clear c58; replace H := Option.bind_eq_some_iff.mp H; obtain ⟨tAO, AAU, H⟩ := H; replace H : ((laws_toRat.f a2_0 a2_1).bind fun btAP => ((impl_PerturbMap.f kj37 tAO a1 btAP.1 btAP.2).bind fun btAQ => ((laws_eqPointS.f kj37 btAQ.1 tN).bind fun tAR => (if tAR = true then (laws_FnExactPerturbMap.j2 kj37 tI tAM (btAQ.2 != tS)) else (laws_FnExactPerturbMap.j2 kj37 tI tAM true))))) = some r := H; have A59 := Aside0.mk AAU; clear AAU; replace H := Option.bind_eq_some_iff.mp H; obtain ⟨⟨tAP, tAV⟩, AAW, H⟩ := H; replace H : ((impl_PerturbMap.f kj37 tAO a1 tAP tAV).bind fun btAQ => ((laws_eqPointS.f kj37 btAQ.1 tN).bind fun tAR => (if tAR = true then (laws_FnExactPerturbMap.j2 kj37 tI tAM (btAQ.2 != tS)) else (laws_FnExactPerturbMap.j2 kj37 tI tAM true)))) = some r := H; have A60 := Aside0.mk AAW; clear AAW; replace H := Option.bind_eq_some_iff.mp H; obtain ⟨⟨tAQ, tAX⟩, AAY, H⟩ := H; replace H : ((laws_eqPointS.f kj37 tAQ tN).bind fun tAR => (if tAR = true then (laws_FnExactPerturbMap.j2 kj37 tI tAM (tAX != tS)) else (laws_FnExactPerturbMap.j2 kj37 tI tAM true))) = some r := H; have A61 := Aside0.mk AAY; clear AAY; have HC62 := Aside0.mk H; clear H; obtain ⟨Ao63, co63, eo63⟩ := Kd.R_slice HO_11.out; subst eo63; try go_wp2_with (first | ((with_reducible refine gate_callee (f := 28) rfl ?_); refine goesL_ (some 74) rfl rfl Try.func28 (by kernel_rfl) rfl #[.slice Ao63 tJ.length co63, .int .i64 1] rfl zz62 ?_; (with_reducible refine (laws_markPointS.calls kj37 (fun k_ => some k_ = (.slice Ao63 tJ.length co63 : Value).ownBlock) (.slice Ao63 tJ.length co63) tJ 1 tAM tI w _ ?side1 ?side2 A53.out).mono ?_); (case side1 => repeat (first | (with_reducible first | exact HB.out | apply below_alloc | apply pw_below_drewN | apply below_drew1 | refine below_set ?_ GEH.out) | exact HB.out)); (case side2 => exact Kd.R_tight rfl HO_11.out); rintro e w64 ⟨rfl, hy0, hb, hkp⟩; refine ⟨_, rfl, ?_⟩; have n0_ := Aside0.mk (Kd.R_mono (ok' := fun k_ => some k_ ≠ (.slice Ao63 tJ.length co63 : Value).ownBlock) (Kd.R_keptB (HO_8.out) hkp (fun k_ hk_ hs_ => (hk_) hs_)) (fun k_ hk_ => hk_.1)); have n1_ := Aside0.mk (Kd.R_reok rfl hy0 (fun k_ e_ => HO_11.out.1 k_ e_)); have n2_ := Aside0.mk (blk_kept zz74 hkp (fun hs_ => (fun e_ => (Kd.R_ne HO_11.out BKH.out (by decide)) e_) hs_)); clear HO_8 HO_11 BKH; have HO_8 := n0_; have HO_11 := n1_; have BKH := n2_; clear n0_ n1_ n2_; replace HB := Aside0.mk (hb); (try clear hb); (try clear hkp); (try clear hy0)) | ((with_reducible refine gate_callee (f := 29) rfl ?_); refine goesL_ (some 77) rfl rfl Try.func29 (by kernel_rfl) rfl #[.slice Ao63 tI.length co63, .int .i64 1] rfl zz26 ?_; (with_reducible refine (laws_heldPointS.calls kj37 _ _ tI 1 tAN _ ?side1 ?side2 A54.out).mono ?_); (case side1 => repeat (first | exact (Kd.R_reads' HO_11.out).2.2 | (with_reducible refine Kd.C_alloc ?_ _) | (with_reducible refine Kd.C_drewN ?_ _) | (with_reducible refine Kd.C_drew ?_))); (case side2 => rw [show tI.length = tJ.length from (Kd.R_reads' HO_11.out).1.symm]; exact (Kd.R_reads' HO_11.out).2.1); rintro e w' ⟨rfl, ⟨nd, rfl⟩⟩; refine ⟨_, rfl, ?_⟩))
           (try (rw [drewN_self w64]; generalize hq_ : World.drewN w64 _ = w64; have n0_ : Aside0 (Kd.R k79 79 w64 w.heap.size (fun k_ => some k_ ≠ (vZ : Value).ownBlock) (.slice Ao63 tJ.length co63) tI) := ⟨by rw [← hq_]; exact zz84⟩; have n1_ : Aside0 (Kd.R k79 79 w64 w.heap.size (fun k_ => some k_ ≠ (.slice Ao63 tJ.length co63 : Value).ownBlock) vZ tN) := ⟨by rw [← hq_]; exact zz90⟩; have n2_ : Aside0 (w64.heap[gbH]? = some (.cells #[.int .i64 a2_0, .int .i64 a2_1] 43 (0, 0))) := ⟨by rw [← hq_]; exact zz74⟩; have n3_ : Aside0 (Below w.heap.size w w64) := ⟨by rw [← hq_]; exact zz61⟩; clear HO_11 HO_8 BKH HB hq_; have HO_11 := n0_; have HO_8 := n1_; have BKH := n2_; have HB := n3_; clear n0_ n1_ n2_ n3_)); have n0_ := Aside0.mk (Kd.R_drew HO_8.out); have n1_ := Aside0.mk (Kd.R_drew HO_11.out); clear HO_8 HO_11; have HO_8 := n0_; have HO_11 := n1_; clear n0_ n1_; replace BKH := Aside0.mk (blk_drew BKH.out); replace HB := Aside0.mk (below_drew1 HB.out); refine start_ (n := 11) (S := fun w' => w'.cell? ⟨gbH, 0, none⟩ = some (.int .i64 a2_0) ∧ w'.cell? ⟨gbH, 1, none⟩ = some (.int .i64 a2_1)) (ds := []) #[fF, fF, fF, fF, fF, fF, fF, fF, fF, fF, fF] (by kernel_rfl) rfl rfl ⟨(blk_cell BKH.out 0).trans rfl, (blk_cell BKH.out 1).trans rfl⟩ (fun hHeld => ?_); refine with_tabW laws_FnExactPerturbMap.tab24 laws_FnExactPerturbMap.bits24 (fun HT_ HW_ => ?_); generalize w64.drew = w65 at HO_8 HO_11 BKH HB hHeld ⊢; refine pureA 0 (some 84) #[tT, fF, fF, fF, fF, fF, fF, fF, fF, fF, fF] HT_ ?_; refine pureA 2 (some 86) #[tT, fF, tT, fF, fF, fF, fF, fF, fF, fF, fF] HT_ ?_; refine takeA3 3 (some 87) #[tT, fF, tT, tT, fF, fF, fF, fF, fF, fF, fF] HT_ HW_ hHeld ?_; refine one_ (i := 1) (N := some 85) #[tT, tT, tT, tT, fF, fF, fF, fF, fF, fF, fF] rfl rfl (one_of HT_.out (by kernel_rfl)) (by decide) (fun K hK => ?_); refine goes_ Try.func32 (by kernel_rfl) rfl #[.slice A0 l0.length c0] (by rfl) rfl rfl zz62 ?_; with_reducible refine (laws_toPointS.calls kj37 _ _ l0 tAO _ ?side1 ?side2 A59.out).mono ?_
           (case side1 => repeat (first | exact (Kd.C_below HR0.out HB.out) | (with_reducible refine Kd.C_alloc ?_ _) | (with_reducible refine Kd.C_drewN ?_ _) | (with_reducible refine Kd.C_drew ?_))); (case side2 => exact HC0.out); rintro e w66 ⟨vAZ, rfl, ho0, hb⟩; refine ⟨_, rfl, ?_⟩; have n0_ := Aside0.mk (Kd.R_elder' zz90 (Kd.R_base ho0) hb); have n1_ := Aside0.mk (Kd.R_elder' zz84 (Kd.R_base ho0) hb); have n2_ := Aside0.mk (Kd.R_lower (Kd.R_new' (Kd.R_new' ho0 (Kd.R_lt zz90)) (Kd.R_lt zz84)) (below_size zz61)); clear HO_8 HO_11; have HO_8 := n0_; have HO_11 := n1_; have HOB := n2_; clear n0_ n1_ n2_; replace BKH := blkA BKH hb; replace HB := Aside0.mk (below_step zz61 hb); (try clear hb); (try clear ho0); refine hK.out _ _ ⟨(blk_cell BKH.out 0).trans rfl, (blk_cell BKH.out 1).trans rfl⟩ (fun hHeld => ?_); clear hK K; refine normA (some 85) ?_; refine one_ (i := 4) (N := some 88) #[tT, tT, tT, tT, tT, fF, fF, fF, fF, fF, fF] rfl rfl (one_of HT_.out (by kernel_rfl)) (by decide) (fun K hK => ?_); refine goes_ Try.func33 (by kernel_rfl) rfl #[.agg #[.int .i64 a2_0, .int .i64 a2_1]] (by rfl) rfl rfl zz62 ?_; with_reducible refine (laws_toRat.calls a2_0 a2_1 tAP tAV _ A60.out).mono ?_
           rintro e w67 ⟨rfl, hb⟩; refine ⟨_, rfl, ?_⟩; have n0_ := Aside0.mk (Kd.R_below zz90 hb); have n1_ := Aside0.mk (Kd.R_below zz84 hb); have n2_ := Aside0.mk (Kd.R_below zz86 hb); clear HO_8 HO_11 HOB; have HO_8 := n0_; have HO_11 := n1_; have HOB := n2_; clear n0_ n1_ n2_; replace BKH := blkA BKH hb; replace HB := Aside0.mk (below_step zz61 hb); (try clear hb); obtain ⟨Ao68, co68, eo68⟩ := Kd.R_slice HOB.out; (first | subst eo68 | (injection eo68 with f1_ f2_ f3_; have f4_ := f1_.symm; have f5_ := f3_.symm; clear f1_ f2_ f3_; subst f4_; subst f5_))
           refine hK.out _ _ ⟨(blk_cell BKH.out 0).trans rfl, (blk_cell BKH.out 1).trans rfl⟩ (fun hHeld => ?_); clear hK K; refine normA (some 88) ?_; refine one_ (i := 5) (N := some 89) #[tT, tT, tT, tT, tT, tT, fF, fF, fF, fF, fF] rfl rfl (one_of HT_.out (by kernel_rfl)) (by decide) (fun K hK => ?_); refine goes_ Try.func34 (by kernel_rfl) rfl #[.slice Ao68 tAO.length co68, .int .i64 a1, .agg #[.int .i64 tAP, .int .i64 tAV]] (by rfl) rfl rfl zz62 ?_; with_reducible refine (impl_PerturbMap.calls kj37 _ _ tAO a1 tAP tAV tAQ tAX _ ?side1 ?side2 A61.out).mono ?_
           (case side1 => repeat (first | exact (Kd.R_reads' HOB.out).2.2 | (with_reducible refine Kd.C_alloc ?_ _) | (with_reducible refine Kd.C_drewN ?_ _) | (with_reducible refine Kd.C_drew ?_))); (case side2 => exact (Kd.R_reads' HOB.out).2.1); rintro e w69 ⟨vBA, rfl, ho0, hb⟩; refine ⟨_, rfl, ?_⟩; have n0_ := Aside0.mk (Kd.R_elder' zz90 (Kd.R_base ho0) hb); have n1_ := Aside0.mk (Kd.R_elder' zz84 (Kd.R_base ho0) hb); have n2_ := Aside0.mk (Kd.R_elder' zz86 (Kd.R_base ho0) hb); have n3_ := Aside0.mk (Kd.R_lower (Kd.R_new' (Kd.R_new' (Kd.R_new' ho0 (Kd.R_lt zz90)) (Kd.R_lt zz84)) (Kd.R_lt zz86)) (below_size zz61)); clear HO_8 HO_11 HOB; have HO_8 := n0_; have HO_11 := n1_; have HOB := n2_; have HOA := n3_; clear n0_ n1_ n2_ n3_; replace BKH := blkA BKH hb; replace HB := Aside0.mk (below_step zz61 hb); (try clear hb); (try clear ho0); refine hK.out _ _ ⟨(blk_cell BKH.out 0).trans rfl, (blk_cell BKH.out 1).trans rfl⟩ (fun hHeld => ?_); clear hK K; refine normA (some 89) ?_; refine pureA 6 (some 83) #[tT, tT, tT, tT, tT, tT, tT, fF, fF, fF, fF] HT_ ?_; refine pureA 7 (some 90) #[tT, tT, tT, tT, tT, tT, tT, tT, fF, fF, fF] HT_ ?_; refine pureA 8 (some 91) #[tT, tT, tT, tT, tT, tT, tT, tT, tT, fF, fF] HT_ ?_; refine pureA 9 (some 16) #[tT, tT, tT, tT, tT, tT, tT, tT, tT, tT, fF] HT_ ?_; refine pureA 10 (some 17) #[tT, tT, tT, tT, tT, tT, tT, tT, tT, tT, tT] HT_ ?_; refine done_ (done_of HT_.out (by kernel_rfl)) ?_; go_upto_region 25 with (fail)
           go_cut [100] (fun vT wc => ∃ (kq : Nat) (xT_61 : Bool), vT = .bool xT_61 ∧ Aside0 (laws_FnExactPerturbMap.j2 kq tI tAM xT_61 = some r) ∧ Aside0 (kq ≤ kj37) ∧ Aside0 (Kd.R k79 79 wc w.heap.size (fun _ => True) (.slice Ao63 tJ.length co63) tI) ∧ Aside0 (wc.heap[gbH]? = some (.cells #[.int .i64 a2_0, .int .i64 a2_1] 43 (0, 0))) ∧ Aside0 (Below w.heap.size w wc))
           case first =>
            have H := HC62.out; clear HC62; replace H := Option.bind_eq_some_iff.mp H; obtain ⟨tAR, ABB, H⟩ := H; replace H : (if tAR = true then (laws_FnExactPerturbMap.j2 kj37 tI tAM (tAX != tS)) else (laws_FnExactPerturbMap.j2 kj37 tI tAM true)) = some r := H; have A70 := Aside0.mk ABB; clear ABB; by_cases c71 : tAR = true
            ·subst c71; have H1 : (laws_FnExactPerturbMap.j2 kj37 tI tAM (tAX != tS)) = some r := by rw [if_pos rfl] at H; exact H
             clear H; have H := H1; clear H1; have H' := Aside0.mk H; clear H; obtain ⟨Ao72, co72, eo72⟩ := Kd.R_slice HOA.out; subst eo72; obtain ⟨Ao73, co73, eo73⟩ := Kd.R_slice HO_8.out; subst eo73; go_wp2_with (first | ((with_reducible refine gate_callee (f := 25) rfl ?_); refine goesL_ (some 94) rfl rfl Try.func25 (by kernel_rfl) rfl #[.slice Ao72 tAQ.length co72, .slice Ao73 tN.length co73] rfl zz62 ?_; (with_reducible refine (laws_eqPointS.calls kj37 _ _ tAQ _ _ tN true _ ?side1 ?side2 ?side3 ?side4 A70.out).mono ?_); (case side1 => repeat (first | exact (Kd.R_reads' HOA.out).2.2 | (with_reducible refine Kd.C_alloc ?_ _) | (with_reducible refine Kd.C_drewN ?_ _) | (with_reducible refine Kd.C_drew ?_))); (case side2 => exact (Kd.R_reads' HOA.out).2.1); (case side3 => repeat (first | exact (Kd.R_reads' HO_8.out).2.2 | (with_reducible refine Kd.C_alloc ?_ _) | (with_reducible refine Kd.C_drewN ?_ _) | (with_reducible refine Kd.C_drew ?_))); (case side4 => exact (Kd.R_reads' HO_8.out).2.1); rintro e w74 ⟨rfl, hb⟩; refine ⟨_, rfl, ?_⟩; have n0_ := Aside0.mk (Kd.R_below zz90 hb); have n1_ := Aside0.mk (Kd.R_below zz84 hb); have n2_ := Aside0.mk (Kd.R_below zz86 hb); have n3_ := Aside0.mk (Kd.R_below zz87 hb); clear HO_8 HO_11 HOB HOA; have HO_8 := n0_; have HO_11 := n1_; have HOB := n2_; have HOA := n3_; clear n0_ n1_ n2_ n3_; replace BKH := blkA BKH hb; replace HB := Aside0.mk (below_step zz61 hb); (try clear hb)))
             go_meet
             case rel => exact ⟨_, ((tAX != tS)), zz102, H', ⟨by have := HJ12.out; have := HJ37.out; first | omega | exact Nat.le_refl _⟩, ⟨by (with_reducible repeat (first | apply Kd.R_alloc | apply Kd.R_drewN | apply Kd.R_drew)); exact Kd.R_mono HO_11.out (fun _ hk => trivial)⟩, ⟨by (with_reducible repeat (first | refine blk_drewN ?_ _ | refine blk_drew ?_ | refine blk_alloc ?_ _)); exact BKH.out⟩, ⟨by repeat (first | (with_reducible first | exact HB.out | apply below_alloc | apply pw_below_drewN | apply below_drew1 | refine below_set ?_ GEH.out) | exact HB.out)⟩⟩
            ·replace c71 := Bool.eq_false_iff.mpr c71; subst c71; have H1 : (laws_FnExactPerturbMap.j2 kj37 tI tAM true) = some r := by rw [if_neg (show ¬ (false = true) by decide)] at H; exact H
             clear H; have H := H1; clear H1; have H' := Aside0.mk H; clear H; obtain ⟨Ao75, co75, eo75⟩ := Kd.R_slice HOA.out; subst eo75; obtain ⟨Ao76, co76, eo76⟩ := Kd.R_slice HO_8.out; subst eo76; go_wp2_with (first | ((with_reducible refine gate_callee (f := 25) rfl ?_); refine goesL_ (some 94) rfl rfl Try.func25 (by kernel_rfl) rfl #[.slice Ao75 tAQ.length co75, .slice Ao76 tN.length co76] rfl zz62 ?_; (with_reducible refine (laws_eqPointS.calls kj37 _ _ tAQ _ _ tN false _ ?side1 ?side2 ?side3 ?side4 A70.out).mono ?_); (case side1 => repeat (first | exact (Kd.R_reads' HOA.out).2.2 | (with_reducible refine Kd.C_alloc ?_ _) | (with_reducible refine Kd.C_drewN ?_ _) | (with_reducible refine Kd.C_drew ?_))); (case side2 => exact (Kd.R_reads' HOA.out).2.1); (case side3 => repeat (first | exact (Kd.R_reads' HO_8.out).2.2 | (with_reducible refine Kd.C_alloc ?_ _) | (with_reducible refine Kd.C_drewN ?_ _) | (with_reducible refine Kd.C_drew ?_))); (case side4 => exact (Kd.R_reads' HO_8.out).2.1); rintro e w77 ⟨rfl, hb⟩; refine ⟨_, rfl, ?_⟩; have n0_ := Aside0.mk (Kd.R_below zz90 hb); have n1_ := Aside0.mk (Kd.R_below zz84 hb); have n2_ := Aside0.mk (Kd.R_below zz86 hb); have n3_ := Aside0.mk (Kd.R_below zz87 hb); clear HO_8 HO_11 HOB HOA; have HO_8 := n0_; have HO_11 := n1_; have HOB := n2_; have HOA := n3_; clear n0_ n1_ n2_ n3_; replace BKH := blkA BKH hb; replace HB := Aside0.mk (below_step zz61 hb); (try clear hb)))
             go_meet
             case rel => exact ⟨_, (true), zz102, H', ⟨by have := HJ12.out; have := HJ37.out; first | omega | exact Nat.le_refl _⟩, ⟨by (with_reducible repeat (first | apply Kd.R_alloc | apply Kd.R_drewN | apply Kd.R_drew)); exact Kd.R_mono HO_11.out (fun _ hk => trivial)⟩, ⟨by (with_reducible repeat (first | refine blk_drewN ?_ _ | refine blk_drew ?_ | refine blk_alloc ?_ _)); exact BKH.out⟩, ⟨by repeat (first | (with_reducible first | exact HB.out | apply below_alloc | apply pw_below_drewN | apply below_drew1 | refine below_set ?_ GEH.out) | exact HB.out)⟩⟩
           case rest =>
            clear HC62; try clear c2
            try clear p2
            try clear c3
            try clear c4
            try clear c5
            try clear c5b0
            try clear c7
            try clear c25
            try clear c26
            try clear c28
            try clear c29
            try clear c30
            try clear c31
            try clear c32
            try clear c33
            try clear c34
            try clear c36
            try clear c43
            try clear c43b0
            try clear c45
            try clear c52
            try clear c55
            try clear c55b0
            try clear c58
            try clear c58b0
            try clear c58b1
            try clear c71
            try clear hcz21_0
            try clear hcz21_1
            try clear hfz21_0
            try clear hfz21_1
            try clear p2
            obtain ⟨kq, xT_61, rfl, HA, HJ61, HO_11, BKH, HB⟩ := hcut; have hl11_61 := (Kd.R_reads' HO_11.out).1; rw [hl11_61] at HO_11; (try simp only [hl11_61]); (try simp only [hl11_61] at BKH); cases kq with
            | zero => exact absurd HA.out (by simp [laws_FnExactPerturbMap.j2])
            | succ kj61 =>
             have H := HA.out; clear HA; simp only [laws_FnExactPerturbMap.j2] at H; by_cases c78 : xT_61 = true
             ·subst c78; have H1 : (some false) = some r := by rw [if_pos rfl] at H; exact H
              clear H; have H := H1; clear H1; obtain rfl := Option.some.inj H; go_wp2
              go_ret
              exact ⟨by first | rfl | (simp [errW_none, errW_some] <;> rfl) | (simp [*, errW_none, errW_some] <;> rfl), by repeat (first | (with_reducible first | exact HB.out | apply below_alloc | apply pw_below_drewN | apply below_drew1 | refine below_set ?_ GEH.out) | exact HB.out)⟩
             ·replace c78 := Bool.eq_false_iff.mpr c78; subst c78; have H1 : ((laws_heldPointS.f kj61 tI 1).bind fun tBC => (if tBC < 0 then (some false) else (if tBC = tAM then (some true) else (some false)))) = some r := by rw [if_neg (show ¬ (false = true) by decide)] at H; exact H
              clear H; have H := H1; clear H1; replace H := Option.bind_eq_some_iff.mp H; obtain ⟨tBC, ABD, H⟩ := H; replace H : (if tBC < 0 then (some false) else (if tBC = tAM then (some true) else (some false))) = some r := H; have A79 := Aside0.mk ABD; clear ABD; by_cases c80 : tBC < 0
              ·rw [if_pos c80] at H; have c80b0 : decide (tBC < 0) = true := decide_eq_true c80; clear c80; obtain rfl := Option.some.inj H; go_wp2_with (first | ((with_reducible refine gate_callee (f := 29) rfl ?_); refine goesL_ (some 103) rfl rfl Try.func29 (by kernel_rfl) rfl #[.slice Ao63 tI.length co63, .int .i64 1] rfl zz62 ?_; (with_reducible refine (laws_heldPointS.calls kj61 _ _ tI 1 tBC _ ?side1 ?side2 A79.out).mono ?_); (case side1 => repeat (first | exact (Kd.R_reads' HO_11.out).2.2 | (with_reducible refine Kd.C_alloc ?_ _) | (with_reducible refine Kd.C_drewN ?_ _) | (with_reducible refine Kd.C_drew ?_))); (case side2 => exact (Kd.R_reads' HO_11.out).2.1); rintro e w' ⟨rfl, ⟨nd, rfl⟩⟩; refine ⟨_, rfl, ?_⟩))
               go_ret
               exact ⟨by first | rfl | (simp [errW_none, errW_some] <;> rfl) | (simp [*, errW_none, errW_some] <;> rfl), by repeat (first | (with_reducible first | exact HB.out | apply below_alloc | apply pw_below_drewN | apply below_drew1 | refine below_set ?_ GEH.out) | exact HB.out)⟩
              ·rw [if_neg c80] at H; have c80b0 : decide (tBC < 0) = false := decide_eq_false c80; clear c80; by_cases c81 : tBC = tAM
               ·rw [if_pos c81] at H; have c81b0 : (tBC == tAM) = true := beq_iff_eq.mpr c81; have c81b1 : (tBC != tAM) = false := bne_eq_false_iff_eq.mpr c81; clear c81; obtain rfl := Option.some.inj H; go_wp2_with (first | ((with_reducible refine gate_callee (f := 29) rfl ?_); refine goesL_ (some 103) rfl rfl Try.func29 (by kernel_rfl) rfl #[.slice Ao63 tI.length co63, .int .i64 1] rfl zz62 ?_; (with_reducible refine (laws_heldPointS.calls kj61 _ _ tI 1 tBC _ ?side1 ?side2 A79.out).mono ?_); (case side1 => repeat (first | exact (Kd.R_reads' HO_11.out).2.2 | (with_reducible refine Kd.C_alloc ?_ _) | (with_reducible refine Kd.C_drewN ?_ _) | (with_reducible refine Kd.C_drew ?_))); (case side2 => exact (Kd.R_reads' HO_11.out).2.1); rintro e w' ⟨rfl, ⟨nd, rfl⟩⟩; refine ⟨_, rfl, ?_⟩))
                go_ret
                exact ⟨by first | rfl | (simp [errW_none, errW_some] <;> rfl) | (simp [*, errW_none, errW_some] <;> rfl), by repeat (first | (with_reducible first | exact HB.out | apply below_alloc | apply pw_below_drewN | apply below_drew1 | refine below_set ?_ GEH.out) | exact HB.out)⟩
               ·rw [if_neg c81] at H; have c81b0 : (tBC == tAM) = false := beq_eq_false_iff_ne.mpr c81; have c81b1 : (tBC != tAM) = true := bne_iff_ne.mpr c81; obtain rfl := Option.some.inj H; go_wp2_with (first | ((with_reducible refine gate_callee (f := 29) rfl ?_); refine goesL_ (some 103) rfl rfl Try.func29 (by kernel_rfl) rfl #[.slice Ao63 tI.length co63, .int .i64 1] rfl zz62 ?_; (with_reducible refine (laws_heldPointS.calls kj61 _ _ tI 1 tBC _ ?side1 ?side2 A79.out).mono ?_); (case side1 => repeat (first | exact (Kd.R_reads' HO_11.out).2.2 | (with_reducible refine Kd.C_alloc ?_ _) | (with_reducible refine Kd.C_drewN ?_ _) | (with_reducible refine Kd.C_drew ?_))); (case side2 => exact (Kd.R_reads' HO_11.out).2.1); rintro e w' ⟨rfl, ⟨nd, rfl⟩⟩; refine ⟨_, rfl, ?_⟩))
                go_ret
                exact ⟨by first | rfl | (simp [errW_none, errW_some] <;> rfl) | (simp [*, errW_none, errW_some] <;> rfl), by repeat (first | (with_reducible first | exact HB.out | apply below_alloc | apply pw_below_drewN | apply below_drew1 | refine below_set ?_ GEH.out) | exact HB.out)⟩
          ·rw [if_neg c58] at H; have c58b0 : (tAN == tAM) = false := beq_eq_false_iff_ne.mpr c58; have c58b1 : (tAN != tAM) = true := bne_iff_ne.mpr c58; obtain rfl := Option.some.inj H; obtain ⟨Ao82, co82, eo82⟩ := Kd.R_slice HO_11.out; subst eo82; go_wp2_with (first | ((with_reducible refine gate_callee (f := 28) rfl ?_); refine goesL_ (some 74) rfl rfl Try.func28 (by kernel_rfl) rfl #[.slice Ao82 tJ.length co82, .int .i64 1] rfl zz62 ?_; (with_reducible refine (laws_markPointS.calls kj37 (fun k_ => some k_ = (.slice Ao82 tJ.length co82 : Value).ownBlock) (.slice Ao82 tJ.length co82) tJ 1 tAM tI w _ ?side1 ?side2 A53.out).mono ?_); (case side1 => repeat (first | (with_reducible first | exact HB.out | apply below_alloc | apply pw_below_drewN | apply below_drew1 | refine below_set ?_ GEH.out) | exact HB.out)); (case side2 => exact Kd.R_tight rfl HO_11.out); rintro e w83 ⟨rfl, hy0, hb, hkp⟩; refine ⟨_, rfl, ?_⟩; have n0_ := Aside0.mk (Kd.R_mono (ok' := fun k_ => some k_ ≠ (.slice Ao82 tJ.length co82 : Value).ownBlock) (Kd.R_keptB (HO_8.out) hkp (fun k_ hk_ hs_ => (hk_) hs_)) (fun k_ hk_ => hk_.1)); have n1_ := Aside0.mk (Kd.R_reok rfl hy0 (fun k_ e_ => HO_11.out.1 k_ e_)); have n2_ := Aside0.mk (blk_kept zz74 hkp (fun hs_ => (fun e_ => (Kd.R_ne HO_11.out BKH.out (by decide)) e_) hs_)); clear HO_8 HO_11 BKH; have HO_8 := n0_; have HO_11 := n1_; have BKH := n2_; clear n0_ n1_ n2_; replace HB := Aside0.mk (hb); (try clear hb); (try clear hkp); (try clear hy0)) | ((with_reducible refine gate_callee (f := 29) rfl ?_); refine goesL_ (some 77) rfl rfl Try.func29 (by kernel_rfl) rfl #[.slice Ao82 tI.length co82, .int .i64 1] rfl zz26 ?_; (with_reducible refine (laws_heldPointS.calls kj37 _ _ tI 1 tAN _ ?side1 ?side2 A54.out).mono ?_); (case side1 => repeat (first | exact (Kd.R_reads' HO_11.out).2.2 | (with_reducible refine Kd.C_alloc ?_ _) | (with_reducible refine Kd.C_drewN ?_ _) | (with_reducible refine Kd.C_drew ?_))); (case side2 => rw [show tI.length = tJ.length from (Kd.R_reads' HO_11.out).1.symm]; exact (Kd.R_reads' HO_11.out).2.1); rintro e w' ⟨rfl, ⟨nd, rfl⟩⟩; refine ⟨_, rfl, ?_⟩))
           go_ret
           exact ⟨by first | rfl | (simp [errW_none, errW_some] <;> rfl) | (simp [*, errW_none, errW_some] <;> rfl), by repeat (first | (with_reducible first | exact HB.out | apply below_alloc | apply pw_below_drewN | apply below_drew1 | refine below_set ?_ GEH.out) | exact HB.out)⟩
     ·replace c36 := Bool.eq_false_iff.mpr c36; subst c36; have H1 : (some false) = some r := by rw [if_neg (show ¬ (false = true) by decide)] at H; exact H
      clear H; have H := H1; clear H1; obtain rfl := Option.some.inj H; go_wp2_with (first | ((with_reducible refine gate_callee (f := 32) rfl ?_); refine goesL_ (some 53) rfl rfl Try.func32 (by kernel_rfl) rfl #[.slice A0 l0.length c0] rfl zz62 ?_; (with_reducible refine (laws_toPointS.calls kj12 _ _ l0 tAD _ ?side1 ?side2 A34.out).mono ?_); (case side1 => repeat (first | exact (Kd.C_below HR0.out HB.out) | (with_reducible refine Kd.C_alloc ?_ _) | (with_reducible refine Kd.C_drewN ?_ _) | (with_reducible refine Kd.C_drew ?_))); (case side2 => exact HC0.out); rintro e w84 ⟨vAL, rfl, ho0, hb⟩; refine ⟨_, rfl, ?_⟩; have n0_ := Aside0.mk (Kd.R_elder' zz90 (Kd.R_base ho0) hb); have n1_ := Aside0.mk (Kd.R_elder' zz83 (Kd.R_base ho0) hb); have n2_ := Aside0.mk (Kd.R_elder' zz84 (Kd.R_base ho0) hb); have n3_ := Aside0.mk (Kd.R_lower (Kd.R_new' (Kd.R_new' (Kd.R_new' ho0 (Kd.R_lt zz90)) (Kd.R_lt zz83)) (Kd.R_lt zz84)) (below_size zz61)); clear HO_8 HO_10 HO_11; have HO_8 := n0_; have HO_10 := n1_; have HO_11 := n2_; have HOC := n3_; clear n0_ n1_ n2_ n3_; replace BKH := blkA BKH hb; replace HB := Aside0.mk (below_step zz61 hb); (try clear hb); (try clear ho0); obtain ⟨Ao85, co85, eo85⟩ := Kd.R_slice HOC.out; subst eo85) | ((with_reducible refine gate_callee (f := 25) rfl ?_); refine goesL_ (some 54) rfl rfl Try.func25 (by kernel_rfl) rfl #[.slice Ao23 tO.length co23, .slice Ao85 tAD.length co85] rfl zz62 ?_; (with_reducible refine (laws_eqPointS.calls kj12 _ _ tO _ _ tAD false _ ?side1 ?side2 ?side3 ?side4 A35.out).mono ?_); (case side1 => repeat (first | exact (Kd.R_reads' HO_10.out).2.2 | (with_reducible refine Kd.C_alloc ?_ _) | (with_reducible refine Kd.C_drewN ?_ _) | (with_reducible refine Kd.C_drew ?_))); (case side2 => exact (Kd.R_reads' HO_10.out).2.1); (case side3 => repeat (first | exact (Kd.R_reads' HOC.out).2.2 | (with_reducible refine Kd.C_alloc ?_ _) | (with_reducible refine Kd.C_drewN ?_ _) | (with_reducible refine Kd.C_drew ?_))); (case side4 => exact (Kd.R_reads' HOC.out).2.1); rintro e w86 ⟨rfl, hb⟩; refine ⟨_, rfl, ?_⟩; have n0_ := Aside0.mk (Kd.R_below zz90 hb); have n1_ := Aside0.mk (Kd.R_below zz83 hb); have n2_ := Aside0.mk (Kd.R_below zz84 hb); have n3_ := Aside0.mk (Kd.R_below zz85 hb); clear HO_8 HO_10 HO_11 HOC; have HO_8 := n0_; have HO_10 := n1_; have HO_11 := n2_; have HOC := n3_; clear n0_ n1_ n2_ n3_; replace BKH := blkA BKH hb; replace HB := Aside0.mk (below_step zz61 hb); (try clear hb)))
      go_ret
      exact ⟨by first | rfl | (simp [errW_none, errW_some] <;> rfl) | (simp [*, errW_none, errW_some] <;> rfl), by repeat (first | (with_reducible first | exact HB.out | apply below_alloc | apply pw_below_drewN | apply below_drew1 | refine below_set ?_ GEH.out) | exact HB.out)⟩
def laws_FnExactPerturbMap.Pure : Prop := ∀ (l0 : List (S87)) (a1 : Int) (a2_0 : Int) (a2_1 : Int), l0.length ≤ maxLen → (∀ x ∈ l0, (((Lit.int .i64 x.f0.f0).wf = true ∧ (Lit.int .i64 x.f0.f1).wf = true) ∧ ((Lit.int .i64 x.f1.f0).wf = true ∧ (Lit.int .i64 x.f1.f1).wf = true))) → (Lit.int .i64 a1).wf = true → (Lit.int .i64 a2_0).wf = true → (Lit.int .i64 a2_1).wf = true → ∃ k, laws_FnExactPerturbMap.f k l0 a1 a2_0 a2_1 = some true
end Go.Proofs.Ytgejkhbehoabdaa.Q
set_option linter.unusedVariables false
set_option linter.unusedSimpArgs false
namespace Go.Proofs.Ytgejkhbehoabdaa.Pu
open Go.RowKit Go.Proofs.Ytgejkhbehoabdaa.Q Go.Proofs.YtgejkhbehoabdaaW.PrintWords Go.Proofs.YtgejkhbehoabdaaW.PrintLast Go.Proofs.YtgejkhbehoabdaaW.PrintMore
theorem wr (x : Int) (h : -9223372036854775808 ≤ x ∧ x ≤ 9223372036854775807) : wrap64 x = x := by unfold wrap64; omega
theorem drop_getD {α : Type} (l : List α) (i : Nat) (d : α) (h : i < l.length) : l.drop i = l.getD i d :: l.drop (i + 1) := by
  rw [List.drop_eq_getElem_cons h, List.getD_eq_getElem?_getD, List.getElem?_eq_getElem h]
  rfl
theorem getD_setG {α : Type} (l : List α) (i j : Nat) (v d : α) (hi : i < l.length) : (l.set i v).getD j d = if i = j then v else l.getD j d := by
  simp only [List.getD_eq_getElem?_getD, List.getElem?_set]
  by_cases e : i = j
  · subst e; simp [hi]
  · simp [e]
theorem ext_getDG {α : Type} (d : α) (a b : List α) (hl : a.length = b.length) (h : ∀ j, j < a.length → a.getD j d = b.getD j d) : a = b := by
  apply List.ext_getElem hl
  intro j h1 h2
  have := h j h1
  simpa [List.getD_eq_getElem?_getD, h1, h2] using this
theorem half_lt (b r n : Nat) (hb : b < 2 ^ (n + 1)) (hr : r < b) (h0 : 0 < r) : b % r < 2 ^ n := by
  have h1 : b % r < r := Nat.mod_lt _ h0
  have h2 := Nat.div_add_mod b r
  have h3 : 1 ≤ b / r := (Nat.one_le_div_iff h0).2 (Nat.le_of_lt hr)
  have h4 : r * 1 ≤ r * (b / r) := Nat.mul_le_mul_left r h3
  have h5 : 2 ^ (n + 1) = 2 * 2 ^ n := by rw [Nat.pow_succ]; omega
  omega
theorem gcd_l : ∀ (n k a b : Nat), b < 2 ^ n → 2 * n + 1 < k → impl_greatestDivisor.l0 k (a : Int) (b : Int) = some ((Nat.gcd a b : Nat) : Int) := by
  intro n
  induction n with
  | zero =>
    intro k a b hb hk
    obtain ⟨k, rfl⟩ : ∃ m, k = m + 1 := ⟨k - 1, by omega⟩
    have : b = 0 := by simpa using hb
    subst this
    simp [impl_greatestDivisor.l0]
  | succ n ih =>
    intro k a b hb hk
    obtain ⟨k, rfl⟩ : ∃ m, k = m + 2 := ⟨k - 2, by omega⟩
    simp only [impl_greatestDivisor.l0]
    by_cases h0 : b = 0
    · subst h0; simp
    · rw [if_neg (by omega), ← Int.ofNat_tmod]
      by_cases h1 : a % b = 0
      · rw [h1, if_pos (by rfl), Nat.gcd_comm, Nat.gcd_rec, h1, Nat.gcd_zero_left]
      · rw [if_neg (by omega), ← Int.ofNat_tmod, ih k _ _ (half_lt b (a % b) n hb (Nat.mod_lt _ (by omega)) (by omega)) (by omega)]
        congr 2
        rw [Nat.gcd_comm a b, Nat.gcd_rec b a, Nat.gcd_rec (a % b) b, Nat.gcd_comm]
theorem raCommon_l : ∀ (n k a b : Nat), b < 2 ^ n → 2 * n + 1 < k → spec_raCommon.l0 k (a : Int) (b : Int) = some ((Nat.gcd a b : Nat) : Int) := by
  intro n
  induction n with
  | zero =>
    intro k a b hb hk
    obtain ⟨k, rfl⟩ : ∃ m, k = m + 1 := ⟨k - 1, by omega⟩
    have : b = 0 := by simpa using hb
    subst this
    simp [spec_raCommon.l0]
  | succ n ih =>
    intro k a b hb hk
    obtain ⟨k, rfl⟩ : ∃ m, k = m + 2 := ⟨k - 2, by omega⟩
    simp only [spec_raCommon.l0]
    by_cases h0 : b = 0
    · subst h0; simp
    · rw [if_pos (by omega), if_neg (by omega), ← Int.ofNat_tmod]
      by_cases h1 : a % b = 0
      · rw [h1, if_neg (by simp), Nat.gcd_comm, Nat.gcd_rec, h1, Nat.gcd_zero_left]
      · rw [if_pos (by omega), if_neg (by omega), ← Int.ofNat_tmod, ih k _ _ (half_lt b (a % b) n hb (Nat.mod_lt _ (by omega)) (by omega)) (by omega)]
        congr 2
        rw [Nat.gcd_comm a b, Nat.gcd_rec b a, Nat.gcd_rec (a % b) b, Nat.gcd_comm]
theorem abs_eq (a : Int) (h : -9223372036854775807 ≤ a ∧ a ≤ 9223372036854775807) : impl_abs.f a = some (a.natAbs : Int) := by
  unfold impl_abs.f
  split
  · rw [wr _ (by omega)]; congr 1; omega
  · congr 1; omega
theorem l1Abs_eq (a : Int) (h : -9223372036854775807 ≤ a ∧ a ≤ 9223372036854775807) : spec_l1Abs.f a = some (a.natAbs : Int) := by
  unfold spec_l1Abs.f spec_l1Most.f
  rw [wr _ (by omega)]
  split
  · simp only [Option.bind_some]; congr 1; omega
  · simp only [Option.bind_some]; congr 1; omega
theorem gcd_eq (a b : Int) (ha : -9223372036854775807 ≤ a ∧ a ≤ 9223372036854775807) (hb : -9223372036854775807 ≤ b ∧ b ≤ 9223372036854775807) (k : Nat) (hk : 200 ≤ k) : impl_greatestDivisor.f k a b = some ((Int.gcd a b : Nat) : Int) := by
  unfold impl_greatestDivisor.f
  rw [abs_eq a ha, abs_eq b hb]
  simp only [Option.bind_some]
  rw [gcd_l 64 k _ _ (by omega) (by omega)]
  rfl
def OkR (n d : Int) : Prop := 1 ≤ d ∧ d ≤ 1000000000 ∧ -1000000000 ≤ n ∧ n ≤ 1000000000 ∧ Int.gcd n d = 1
instance (n d : Int) : Decidable (OkR n d) := by unfold OkR; infer_instance
theorem isRat_eq (n d : Int) (k : Nat) (hk : 200 ≤ k) : impl_isRat.f k n d = some (decide (OkR n d)) := by
  unfold impl_isRat.f impl_within.f OkR
  by_cases h1 : 1 ≤ d
  · rw [if_pos h1]
    simp only [Option.bind_some]
    by_cases h2 : d ≤ 1000000000
    · rw [if_pos (by simpa using h2)]
      by_cases h3 : -1000000000 ≤ n
      · rw [if_pos h3]
        simp only [Option.bind_some]
        by_cases h4 : n ≤ 1000000000
        · rw [if_pos (by simpa using h4), gcd_eq n d (by omega) (by omega) k hk]
          simp only [Option.bind_some]
          congr 1
          simp only [h1, h2, h3, h4, true_and]
          rw [Bool.eq_iff_iff]
          simp only [beq_iff_eq, decide_eq_true_eq]
          omega
        · rw [if_neg (by simpa using h4)]; simp [h4]
      · rw [if_neg h3]; simp [h3]
    · rw [if_neg (by simpa using h2)]; simp [h2]
  · rw [if_neg h1]; simp [h1]
theorem raGood_eq (n d : Int) (k : Nat) (hk : 200 ≤ k) : spec_raGood.f k n d = some (decide (OkR n d)) := by
  unfold spec_raGood.f spec_l1In.f OkR
  by_cases h1 : 1 ≤ d
  · rw [if_pos h1]
    simp only [Option.bind_some]
    by_cases h2 : d ≤ 1000000000
    · rw [if_pos (by simpa using h2)]
      by_cases h3 : -1000000000 ≤ n
      · rw [if_pos h3]
        simp only [Option.bind_some]
        by_cases h4 : n ≤ 1000000000
        · rw [if_pos (by simpa using h4), l1Abs_eq n (by omega)]
          simp only [Option.bind_some]
          unfold spec_raCommon.f
          have := raCommon_l 64 k n.natAbs d.natAbs (by omega) (by omega)
          rw [show (d.natAbs : Int) = d by omega] at this
          rw [this]
          simp only [Option.bind_some]
          congr 1
          simp only [h1, h2, h3, h4, true_and]
          rw [Bool.eq_iff_iff, Int.gcd_eq_natAbs_gcd_natAbs]
          simp only [beq_iff_eq, decide_eq_true_eq]
          omega
        · rw [if_neg (by simpa using h4)]; simp [h4]
      · rw [if_neg h3]; simp [h3]
    · rw [if_neg (by simpa using h2)]; simp [h2]
  · rw [if_neg h1]; simp [h1]
def sg (n d : Int) : Int := if d < 0 then -(Int.gcd n d : Int) else (Int.gcd n d : Int)
def mk (n d : Int) : Int × Int × Bool := if OkR (n.tdiv (sg n d)) (d.tdiv (sg n d)) then (n.tdiv (sg n d), d.tdiv (sg n d), true) else (0, 0, false)
theorem tdiv_bd (n q : Int) (h : -9223372036854775807 ≤ n ∧ n ≤ 9223372036854775807) : -9223372036854775808 ≤ n.tdiv q ∧ n.tdiv q ≤ 9223372036854775807 := by
  have h1 := Int.natAbs_tdiv n q
  have h2 : n.natAbs.div q.natAbs ≤ n.natAbs := Nat.div_le_self _ _
  omega
theorem gcd_pos (n d : Int) (hd : d ≠ 0) : 0 < Int.gcd n d := by
  rw [Int.gcd_eq_natAbs_gcd_natAbs]
  exact Nat.gcd_pos_of_pos_right _ (by omega)
theorem gcd_le (n d : Int) (hd : d ≠ 0) : Int.gcd n d ≤ d.natAbs := by
  rw [Int.gcd_eq_natAbs_gcd_natAbs]
  exact Nat.gcd_le_right _ (by omega)
theorem lowest_eq (n d : Int) (hd : d ≠ 0) (hn : -9223372036854775807 ≤ n ∧ n ≤ 9223372036854775807) (hd2 : -9223372036854775807 ≤ d ∧ d ≤ 9223372036854775807) (k : Nat) (hk : 200 ≤ k) : impl_lowest.f k n d = some (mk n d) := by
  unfold impl_lowest.f mk
  have h1 := gcd_pos n d hd
  have h2 := gcd_le n d hd
  rw [gcd_eq n d hn hd2 k hk]
  simp only [Option.bind_some]
  unfold sg
  split
  · rw [wr (-(Int.gcd n d : Int)) (by omega), if_neg (by omega), wr _ (tdiv_bd _ _ hn), wr _ (tdiv_bd _ _ hd2), isRat_eq _ _ k hk]
    simp only [Option.bind_some, decide_eq_true_eq]
    split <;> rfl
  · rw [if_neg (by omega), wr _ (tdiv_bd _ _ hn), wr _ (tdiv_bd _ _ hd2), isRat_eq _ _ k hk]
    simp only [Option.bind_some, decide_eq_true_eq]
    split <;> rfl
theorem raMake_eq (n d : Int) (hd : d ≠ 0) (hn : -9223372036854775807 ≤ n ∧ n ≤ 9223372036854775807) (hd2 : -9223372036854775807 ≤ d ∧ d ≤ 9223372036854775807) (k : Nat) (hk : 200 ≤ k) : spec_raMake.f k n d = some (mk n d) := by
  unfold spec_raMake.f mk
  have h1 := gcd_pos n d hd
  have h2 := gcd_le n d hd
  rw [if_neg hd, l1Abs_eq n hn, l1Abs_eq d hd2]
  simp only [Option.bind_some]
  unfold spec_raCommon.f
  rw [raCommon_l 64 k _ _ (by omega) (by omega)]
  simp only [Option.bind_some]
  rw [← Int.gcd_eq_natAbs_gcd_natAbs]
  unfold sg
  split
  · rw [wr (-(Int.gcd n d : Int)) (by omega), if_neg (by omega), wr _ (tdiv_bd _ _ hn), wr _ (tdiv_bd _ _ hd2), raGood_eq _ _ k hk]
    simp only [Option.bind_some, decide_eq_true_eq]
    split <;> rfl
  · rw [if_neg (by omega), wr _ (tdiv_bd _ _ hn), wr _ (tdiv_bd _ _ hd2), raGood_eq _ _ k hk]
    simp only [Option.bind_some, decide_eq_true_eq]
    split <;> rfl
end Go.Proofs.Ytgejkhbehoabdaa.Pu
set_option linter.unusedVariables false
set_option linter.unusedSimpArgs false
namespace Go.Proofs.Ytgejkhbehoabdaa.Pu
open Go.RowKit Go.Proofs.Ytgejkhbehoabdaa.Q Go.Proofs.YtgejkhbehoabdaaW.PrintWords Go.Proofs.YtgejkhbehoabdaaW.PrintLast Go.Proofs.YtgejkhbehoabdaaW.PrintMore
theorem rdRat (l : List S47) (i : Nat) : rd_T47 l (i : Int) = l.getD i z47 := by simp [rd_T47]
end Go.Proofs.Ytgejkhbehoabdaa.Pu
set_option linter.unusedVariables false
set_option linter.unusedSimpArgs false
namespace Go.Proofs.Ytgejkhbehoabdaa.Pu
open Go.RowKit Go.Proofs.Ytgejkhbehoabdaa.Q Go.Proofs.YtgejkhbehoabdaaW.PrintWords Go.Proofs.YtgejkhbehoabdaaW.PrintLast Go.Proofs.YtgejkhbehoabdaaW.PrintMore
theorem rdPoint (l : List S79) (i : Nat) : rd_T79 l (i : Int) = l.getD i z79 := by simp [rd_T79]
theorem rdlPoint (l : List S87) (i : Nat) : rd_T87 l (i : Int) = l.getD i z87 := by simp [rd_T87]
def cvPoint (x : S87) : S79 := ⟨⟨x.f0.f0, x.f0.f1⟩, ⟨x.f1.f0, x.f1.f1⟩⟩
theorem cvPoint_getD (l : List S87) (i : Nat) (h : i < l.length) : (l.map cvPoint).getD i z79 = cvPoint (l.getD i z87) := by
  simp [List.getD_eq_getElem?_getD, h]
theorem toPointS_l (x0 : List S87) (hb : x0.length ≤ 9000000000000000000) : ∀ (d k : Nat) (x3 : List S79) (i : Nat), i + d = x0.length → x3.length = x0.length → (∀ j, j < i → x3.getD j z79 = cvPoint (x0.getD j z87)) → d < k → laws_toPointS.l0 k x0 x3 (i : Int) = some (x0.map cvPoint) := by
  intro d
  induction d with
  | zero =>
    intro k x3 i hi hl hj hk
    obtain ⟨k, rfl⟩ : ∃ m, k = m + 1 := ⟨k - 1, by omega⟩
    simp only [laws_toPointS.l0]
    rw [if_neg (by omega), ext_getDG z79 x3 (x0.map cvPoint) (by simpa using hl) (fun j h => by rw [hj j (by omega), cvPoint_getD _ _ (by omega)])]
  | succ d ih =>
    intro k x3 i hi hl hj hk
    obtain ⟨k, rfl⟩ : ∃ m, k = m + 1 := ⟨k - 1, by omega⟩
    simp only [laws_toPointS.l0, laws_toPoint.f, laws_toRat.f, Option.bind_some]
    rw [if_pos (by omega), if_pos (by omega), if_pos (by omega), wr _ (by omega), Int.toNat_natCast, rdlPoint]
    refine ih k _ (i + 1) (by omega) (by simpa using hl) (fun j h => ?_) (by omega)
    rw [getD_setG _ _ _ _ _ (by omega)]
    split
    · rename_i e; rw [← e]; rfl
    · exact hj j (by omega)
theorem toPointS (l : List S87) (hb : l.length ≤ 1048576) (k : Nat) (hk : l.length < k) : laws_toPointS.f k l = some (l.map cvPoint) := by
  unfold laws_toPointS.f
  rw [if_pos (by omega), if_pos (by omega)]
  exact toPointS_l l (by omega) l.length k _ 0 (by omega) (by simp) (fun j h => by omega) hk
theorem eqPoint_self (x : S79) : laws_eqPoint.f x.f0.f0 x.f0.f1 x.f1.f0 x.f1.f1 x.f0.f0 x.f0.f1 x.f1.f0 x.f1.f1 = some true := by
  simp [laws_eqPoint.f, laws_eqRat.f]
theorem eqPointS_l (a : List S79) (hb : a.length ≤ 9000000000000000000) : ∀ (d k : Nat) (i : Nat), i + d = a.length → d < k → laws_eqPointS.l0 k a a (i : Int) = some true := by
  intro d
  induction d with
  | zero =>
    intro k i hi hk
    obtain ⟨k, rfl⟩ : ∃ m, k = m + 1 := ⟨k - 1, by omega⟩
    simp only [laws_eqPointS.l0]
    rw [if_neg (by omega)]
  | succ d ih =>
    intro k i hi hk
    obtain ⟨k, rfl⟩ : ∃ m, k = m + 1 := ⟨k - 1, by omega⟩
    simp only [laws_eqPointS.l0, eqPoint_self, Option.bind_some]
    rw [if_pos (by omega), if_pos (by omega), if_pos (by omega), wr _ (by omega)]
    exact ih k (i + 1) (by omega) (by omega)
theorem eqPointS_self (a : List S79) (hb : a.length ≤ 9000000000000000000) (k : Nat) (hk : a.length < k) : laws_eqPointS.f k a a = some true := by
  unfold laws_eqPointS.f
  rw [if_pos rfl]
  exact eqPointS_l a hb a.length k 0 (by omega) hk
def mPoint (q : Int) : S79 := ⟨⟨q, q + 1⟩, ⟨q + 1 + 1, q + 1 + 1 + 1⟩⟩
def marksPoint (q : Int) (n : Nat) : List S79 := (List.range n).map fun (j : Nat) => mPoint (q + 4 * (j : Int))
theorem marksPoint_length (q : Int) (n : Nat) : (marksPoint q n).length = n := by simp [marksPoint]
theorem marksPoint_getD (q : Int) (n j : Nat) (h : j < n) : (marksPoint q n).getD j z79 = mPoint (q + 4 * (j : Int)) := by
  simp [marksPoint, List.getD_eq_getElem?_getD, h]
theorem markPointS_l (n : Nat) (q : Int) (hq : -4000000000000000 ≤ q ∧ q ≤ 4000000000000000) (hb : n ≤ 4000000000000000) : ∀ (d k : Nat) (x : List S79) (i : Nat), i + d = n → x.length = n → (∀ j, j < i → x.getD j z79 = mPoint (q + 4 * (j : Int))) → d < k → laws_markPointS.l0 k x (q + 4 * (i : Int)) (i : Int) = some (q + 4 * (n : Int), marksPoint q n) := by
  intro d
  induction d with
  | zero =>
    intro k x i hi hl hj hk
    obtain ⟨k, rfl⟩ : ∃ m, k = m + 1 := ⟨k - 1, by omega⟩
    simp only [laws_markPointS.l0]
    rw [if_neg (by omega), ext_getDG z79 x (marksPoint q n) (by rw [marksPoint_length, hl]) (fun j h => by rw [hj j (by omega), marksPoint_getD _ _ _ (by omega)])]
    rw [show i = n by omega]
  | succ d ih =>
    intro k x i hi hl hj hk
    obtain ⟨k, rfl⟩ : ∃ m, k = m + 1 := ⟨k - 1, by omega⟩
    simp only [laws_markPointS.l0, Option.bind_some, Int.toNat_natCast]
    rw [if_pos (by omega), if_pos (by omega)]
    repeat rw [wr _ (by omega)]
    have := ih k (x.set i (mPoint (q + 4 * (i : Int)))) (i + 1) (by omega) (by simpa using hl) (fun j h => by
      rw [getD_setG _ _ _ _ _ (by omega)]
      split
      · rename_i e; rw [e]
      · exact hj j (by omega)) (by omega)
    rw [show q + 4 * ((i + 1 : Nat) : Int) = q + 4 * (i : Int) + 1 + 1 + 1 + 1 by omega] at this
    rw [← this]
    congr 1
    simp only [rdPoint, List.set_set, getD_setG _ _ _ _ _ (show i < x.length by omega), List.length_set, if_true]
    try rfl
theorem markPointS (l : List S79) (q : Int) (hq : -4000000000000000 ≤ q ∧ q ≤ 4000000000000000) (hb : l.length ≤ 4000000000000000) (k : Nat) (hk : l.length < k) : laws_markPointS.f k l q = some (q + 4 * (l.length : Int), marksPoint q l.length) := by
  unfold laws_markPointS.f
  have := markPointS_l l.length q hq hb l.length k l 0 (by omega) rfl (fun j h => by omega) hk
  simpa using this
theorem heldPointS_l (n : Nat) (q : Int) (hq : -4000000000000000 ≤ q ∧ q ≤ 4000000000000000) (hb : n ≤ 4000000000000000) : ∀ (d k : Nat) (i : Nat), i + d = n → d < k → laws_heldPointS.l0 k (marksPoint q n) (q + 4 * (i : Int)) (i : Int) = some (q + 4 * (n : Int)) := by
  intro d
  induction d with
  | zero =>
    intro k i hi hk
    obtain ⟨k, rfl⟩ : ∃ m, k = m + 1 := ⟨k - 1, by omega⟩
    simp only [laws_heldPointS.l0, marksPoint_length]
    rw [if_neg (by omega), show i = n by omega]
  | succ d ih =>
    intro k i hi hk
    obtain ⟨k, rfl⟩ : ∃ m, k = m + 1 := ⟨k - 1, by omega⟩
    simp only [laws_heldPointS.l0, marksPoint_length, rdPoint, marksPoint_getD _ _ _ (show i < n by omega), mPoint]
    rw [if_pos (by omega), if_pos (by omega)]
    simp only [if_true]
    repeat rw [wr _ (by omega)]
    have := ih k (i + 1) (by omega) (by omega)
    rw [show q + 4 * ((i + 1 : Nat) : Int) = q + 4 * (i : Int) + 1 + 1 + 1 + 1 by omega] at this
    simp only [if_true]
    exact this
theorem heldPointS (n : Nat) (q : Int) (hq : -4000000000000000 ≤ q ∧ q ≤ 4000000000000000) (hb : n ≤ 4000000000000000) (k : Nat) (hk : n < k) : laws_heldPointS.f k (marksPoint q n) q = some (q + 4 * (n : Int)) := by
  unfold laws_heldPointS.f
  have := heldPointS_l n q hq hb n k 0 (by omega) hk
  simpa using this
end Go.Proofs.Ytgejkhbehoabdaa.Pu
set_option linter.unusedVariables false
set_option linter.unusedSimpArgs false
namespace Go.Proofs.Ytgejkhbehoabdaa.Pu
open Go.RowKit Go.Proofs.Ytgejkhbehoabdaa.Q Go.Proofs.YtgejkhbehoabdaaW.PrintWords Go.Proofs.YtgejkhbehoabdaaW.PrintLast Go.Proofs.YtgejkhbehoabdaaW.PrintMore
theorem mul_bd (x y : Int) (B C : Nat) (hx : x.natAbs ≤ B) (hy : y.natAbs ≤ C) : (x * y).natAbs ≤ B * C := by
  rw [Int.natAbs_mul]
  exact Nat.mul_le_mul hx hy
def Bd (n d : Int) : Prop := n.natAbs ≤ 1000000000 ∧ d.natAbs ≤ 1000000000
theorem OkR.bd {n d : Int} (h : OkR n d) : Bd n d := by
  obtain ⟨h1, h2, h3, h4, _⟩ := h
  exact ⟨by omega, by omega⟩
theorem cross_bd {a b c d : Int} (h1 : Bd a b) (h2 : Bd c d) : (a * d).natAbs ≤ 1000000000000000000 ∧ (c * b).natAbs ≤ 1000000000000000000 ∧ (b * d).natAbs ≤ 1000000000000000000 ∧ (a * c).natAbs ≤ 1000000000000000000 :=
  ⟨mul_bd a d _ _ h1.1 h2.2, mul_bd c b _ _ h2.1 h1.2, mul_bd b d _ _ h1.2 h2.2, mul_bd a c _ _ h1.1 h2.1⟩
theorem less_eq {a b c d : Int} (h1 : Bd a b) (h2 : Bd c d) : impl_less.f a b c d = some (decide (a * d < c * b)) := by
  obtain ⟨m1, m2, _⟩ := cross_bd h1 h2
  unfold impl_less.f impl_compare.f
  generalize a * d = p at *
  generalize c * b = q at *
  rw [wr p (by omega), wr q (by omega)]
  by_cases h : p < q
  · rw [if_pos h]; simp [h]
  · rw [if_neg h]
    by_cases h3 : p > q
    · rw [if_pos h3]; simp [h]
    · rw [if_neg h3]; simp [h]
theorem raCmp_eq {a b c d : Int} (h1 : Bd a b) (h2 : Bd c d) : ∃ t, spec_raCmp.f a b c d = some t ∧ (t < 0 ↔ a * d < c * b) ∧ (t = 0 ↔ a * d = c * b) := by
  obtain ⟨m1, m2, _⟩ := cross_bd h1 h2
  unfold spec_raCmp.f spec_l1Sign.f
  generalize a * d = p at *
  generalize c * b = q at *
  rw [wr p (by omega), wr q (by omega), wr (p - q) (by omega)]
  by_cases h : p - q > 0
  · rw [if_pos h]
    exact ⟨1, rfl, by omega, by omega⟩
  · rw [if_neg h]
    by_cases h3 : p - q < 0
    · rw [if_pos h3]
      exact ⟨-1, rfl, by omega, by omega⟩
    · rw [if_neg h3]
      exact ⟨0, rfl, by omega, by omega⟩
def OkU (n d : Int) : Prop := OkR n d ∧ 0 ≤ n ∧ n ≤ d
instance (n d : Int) : Decidable (OkU n d) := by unfold OkU; infer_instance
def Co (n d : Int) : Prop := OkU n d ∧ d ≤ 100
instance (n d : Int) : Decidable (Co n d) := by unfold Co; infer_instance
theorem isUnit_eq (n d : Int) (k : Nat) (hk : 200 ≤ k) : impl_isUnit.f k n d = some (decide (OkU n d)) := by
  unfold impl_isUnit.f OkU
  rw [isRat_eq n d k hk]
  simp only [Option.bind_some, decide_eq_true_eq]
  by_cases h : OkR n d
  · rw [if_pos h]
    by_cases h2 : n ≥ 0
    · rw [if_pos h2]; simp [h, h2]
    · rw [if_neg h2]; simp [h2]
  · rw [if_neg h]; simp [h]
theorem raUnit_eq (n d : Int) (k : Nat) (hk : 200 ≤ k) : spec_raUnit.f k n d = some (decide (OkU n d)) := by
  unfold spec_raUnit.f spec_l1In.f OkU
  rw [raGood_eq n d k hk]
  simp only [Option.bind_some, decide_eq_true_eq]
  by_cases h : OkR n d
  · rw [if_pos h]
    by_cases h2 : n ≥ 0
    · rw [if_pos h2]; simp [h, h2]
    · rw [if_neg h2]; simp [h2]
  · rw [if_neg h]; simp [h]
theorem isCoord_eq (n d : Int) (k : Nat) (hk : 200 ≤ k) : impl_isCoord.f k n d = some (decide (Co n d)) := by
  unfold impl_isCoord.f Co
  rw [isUnit_eq n d k hk]
  simp only [Option.bind_some, decide_eq_true_eq]
  by_cases h : OkU n d
  · rw [if_pos h]; simp [h]
  · rw [if_neg h]; simp [h]
theorem imCoord_eq (n d : Int) (k : Nat) (hk : 200 ≤ k) : spec_imCoord.f k n d = some (decide (Co n d)) := by
  unfold spec_imCoord.f Co
  rw [raUnit_eq n d k hk]
  simp only [Option.bind_some, decide_eq_true_eq]
  by_cases h : OkU n d
  · rw [if_pos h]; simp [h]
  · rw [if_neg h]; simp [h]
abbrev Ra := S47
abbrev Pt := S79
def nr (l : List Ra) (i : Nat) : Ra := l.getD i z47
def np (l : List Pt) (i : Nat) : Pt := l.getD i z79
theorem rd_nr (l : List Ra) (i : Nat) : rd_T47 l (i : Int) = nr l i := rdRat l i
theorem rd_np (l : List Pt) (i : Nat) : rd_T79 l (i : Int) = np l i := rdPoint l i
theorem rd_np0 (l : List Pt) : rd_T79 l 0 = np l 0 := rdPoint l 0
theorem nr_mem (l : List Ra) (i : Nat) (h : i < l.length) : nr l i ∈ l := getD_mem l i _ h
theorem np_mem (l : List Pt) (i : Nat) (h : i < l.length) : np l i ∈ l := getD_mem l i _ h
theorem mem_np (l : List Pt) (x : Pt) (h : x ∈ l) : ∃ i, i < l.length ∧ np l i = x := by
  obtain ⟨i, hi, e⟩ := List.mem_iff_getElem.1 h
  exact ⟨i, hi, by simp [np, List.getD_eq_getElem?_getD, hi, e]⟩
def Lt (a b : Ra) : Prop := a.f0 * b.f1 < b.f0 * a.f1
instance (a b : Ra) : Decidable (Lt a b) := by unfold Lt; infer_instance
def BdR (a : Ra) : Prop := Bd a.f0 a.f1
theorem rising_l (l : List Ra) (hl : l.length ≤ 1048576) (hb : ∀ x ∈ l, BdR x) : ∀ (d k i : Nat), 1 ≤ i → i + d = l.length ∨ d = 0 ∧ l.length ≤ i ∧ i ≤ 1048577 → d < k →
    ∃ b, impl_isRising.l0 k l (i : Int) = some b ∧ (b = true ↔ ∀ j, i ≤ j → j < l.length → Lt (nr l (j - 1)) (nr l j)) := by
  intro d
  induction d with
  | zero =>
    intro k i h1 hi hk
    obtain ⟨k, rfl⟩ : ∃ m, k = m + 1 := ⟨k - 1, by omega⟩
    simp only [impl_isRising.l0]
    rw [if_neg (by omega)]
    exact ⟨true, rfl, by simp; intro j _ _; omega⟩
  | succ d ih =>
    intro k i h1 hi hk
    obtain ⟨k, rfl⟩ : ∃ m, k = m + 1 := ⟨k - 1, by omega⟩
    simp only [impl_isRising.l0]
    rw [wr (_ - 1) (by omega), wr (_ + 1) (by omega), if_pos (by omega), if_pos (by omega), if_pos (by omega), if_pos (by omega),
      show (i : Int) - 1 = ((i - 1 : Nat) : Int) by omega, show (i : Int) + 1 = ((i + 1 : Nat) : Int) by omega, rd_nr, rd_nr, less_eq (hb _ (nr_mem l _ (by omega))) (hb _ (nr_mem l _ (by omega)))]
    simp only [Option.bind_some, decide_eq_true_eq]
    by_cases h : Lt (nr l (i - 1)) (nr l i)
    · rw [if_pos (show (nr l (i - 1)).f0 * (nr l i).f1 < (nr l i).f0 * (nr l (i - 1)).f1 from h)]
      obtain ⟨b, e, hb2⟩ := ih k (i + 1) (by omega) (by omega) (by omega)
      refine ⟨b, e, hb2.trans ⟨fun hh j hj hl2 => ?_, fun hh j hj hl2 => hh j (by omega) hl2⟩⟩
      by_cases ej : j = i
      · subst ej; exact h
      · exact hh j (by omega) hl2
    · rw [if_neg (show ¬ (nr l (i - 1)).f0 * (nr l i).f1 < (nr l i).f0 * (nr l (i - 1)).f1 from h)]
      exact ⟨false, rfl, by simp; exact ⟨i, Nat.le_refl _, by omega, h⟩⟩
def Rising (l : List Ra) : Prop := ∀ j, 1 ≤ j → j < l.length → Lt (nr l (j - 1)) (nr l j)
theorem rising_eq (l : List Ra) (hl : l.length ≤ 1048576) (hb : ∀ x ∈ l, BdR x) (k : Nat) (hk : l.length < k) : ∃ b, impl_isRising.f k l = some b ∧ (b = true ↔ Rising l) := by
  unfold impl_isRising.f
  exact rising_l l hl hb (l.length - 1) k 1 (by omega) (by omega) (by omega)
theorem xsOf_l (l : List Pt) (hl : l.length ≤ 1048576) : ∀ (d k i : Nat) (out : List Ra), i + d = l.length → out.length ≤ i → d < k → impl_xsOf.l0 k out l (l.length : Int) (i : Int) = some (out ++ (l.drop i).map fun p => p.f0) := by
  intro d
  induction d with
  | zero =>
    intro k i out hi ho hk
    obtain ⟨k, rfl⟩ : ∃ m, k = m + 1 := ⟨k - 1, by omega⟩
    simp only [impl_xsOf.l0]
    rw [if_neg (by omega), List.drop_of_length_le (by omega)]
    simp
  | succ d ih =>
    intro k i out hi ho hk
    obtain ⟨k, rfl⟩ : ∃ m, k = m + 1 := ⟨k - 1, by omega⟩
    simp only [impl_xsOf.l0]
    rw [wr (_ + 1) (by omega), if_pos (by omega), if_pos (by omega), if_pos (by omega), if_pos (by omega), show (i : Int) + 1 = ((i + 1 : Nat) : Int) by omega, rd_np, ih k (i + 1) _ (by omega) (by simp; omega) (by omega),
      drop_getD l i z79 (by omega)]
    simp [np]
theorem xsOf_eq (l : List Pt) (hl : l.length ≤ 1048576) (k : Nat) (hk : l.length < k) : impl_xsOf.f k l = some (l.map fun p => p.f0) := by
  unfold impl_xsOf.f
  have := xsOf_l l hl l.length k 0 [] (by omega) (by simp) hk
  simpa using this
theorem nr_xs (l : List Pt) (i : Nat) (h : i < l.length) : nr (l.map fun p => p.f0) i = (np l i).f0 := by
  simp [nr, np, List.getD_eq_getElem?_getD, h]
def CoP (p : Pt) : Prop := Co p.f0.f0 p.f0.f1 ∧ Co p.f1.f0 p.f1.f1
instance (p : Pt) : Decidable (CoP p) := by unfold CoP; infer_instance
structure IsMap (l : List Pt) : Prop where
  two : 2 ≤ l.length
  most : l.length ≤ 12
  co : ∀ i, i < l.length → CoP (np l i)
  up : ∀ i, 1 ≤ i → i < l.length → Lt (np l (i - 1)).f0 (np l i).f0
  first : (np l 0).f0 = ⟨0, 1⟩
  last : (np l (l.length - 1)).f0 = ⟨1, 1⟩
theorem CoP.bx {p : Pt} (h : CoP p) : BdR p.f0 := h.1.1.1.bd
theorem CoP.by {p : Pt} (h : CoP p) : BdR p.f1 := h.2.1.1.bd
theorem rat_ext {a : Ra} {n d : Int} (h0 : a.f0 = n) (h1 : a.f1 = d) : a = ⟨n, d⟩ := by cases a; simp_all
theorem isMap_eq (l : List Pt) (hl : l.length ≤ 1048576) (k : Nat) (hk : 1000 ≤ k) : ∃ b, impl_isMap.f k l = some b ∧ (b = true ↔ IsMap l) := by
  unfold impl_isMap.f impl_within.f
  obtain ⟨k, rfl⟩ : ∃ m, k = m + 1 := ⟨k - 1, by omega⟩
  by_cases h2 : (2 : Int) ≤ (l.length : Int)
  · rw [if_pos h2]
    simp only [Option.bind_some]
    by_cases h12 : (l.length : Int) ≤ 12
    · rw [if_pos (by simpa using h12)]
      have hc : ContainsFunc_impl_isMap_1.f (k + 1) l = some (l.any fun p => !decide (CoP p)) := by
        unfold ContainsFunc_impl_isMap_1.f
        apply anyS_of
        intro x _
        unfold impl_isMap_1.f
        rw [isCoord_eq _ _ _ (by omega), isCoord_eq _ _ _ (by omega)]
        simp only [Option.bind_some, decide_eq_true_eq]
        by_cases h : Co x.f0.f0 x.f0.f1
        · rw [if_pos h]; simp [CoP, h]
        · rw [if_neg h]; simp [CoP, h]
      rw [hc]
      simp only [Option.bind_some, impl_isMap.j0]
      by_cases ha : (l.any fun p => !decide (CoP p)) = true
      · rw [if_pos ha]
        refine ⟨false, rfl, ⟨fun h => (by cases h), fun hm => ?_⟩⟩
        obtain ⟨x, hx, hn⟩ := List.any_eq_true.1 ha
        obtain ⟨i, hi, e⟩ := mem_np l x hx
        have := hm.co i hi
        rw [e] at this
        simp [this] at hn
      · rw [if_neg ha]
        have hco : ∀ x ∈ l, CoP x := fun x hx => by
          have : ¬ ((!decide (CoP x)) = true) := fun hh => ha (List.any_eq_true.2 ⟨x, hx, hh⟩)
          simpa using this
        rw [if_pos (by omega)]
        unfold impl_zero.f impl_oneRat.f
        simp only [Option.bind_some]
        rw [wr (_ - 1) (by omega), rd_np0, show (l.length : Int) - 1 = ((l.length - 1 : Nat) : Int) by omega, rd_np]
        by_cases hf : ((np l 0).f0.f0 == 0 && (np l 0).f0.f1 == 1) = true
        · rw [if_pos hf, if_pos (by omega), if_pos (by omega)]
          have hf' : (np l 0).f0 = ⟨0, 1⟩ := by
            simp only [Bool.and_eq_true, beq_iff_eq] at hf
            exact rat_ext hf.1 hf.2
          by_cases hg : ((np l (l.length - 1)).f0.f0 == 1 && (np l (l.length - 1)).f0.f1 == 1) = true
          · rw [if_pos hg]
            have hg' : (np l (l.length - 1)).f0 = ⟨1, 1⟩ := by
              simp only [Bool.and_eq_true, beq_iff_eq] at hg
              exact rat_ext hg.1 hg.2
            rw [xsOf_eq l (by omega) _ (by omega)]
            simp only [Option.bind_some]
            obtain ⟨b, e, hb⟩ := rising_eq (l.map fun p => p.f0) (by simp; omega) (fun x hx => by
              obtain ⟨p, hp, rfl⟩ := List.mem_map.1 hx
              exact (hco p hp).bx) k (by simp; omega)
            rw [e]
            refine ⟨b, rfl, hb.trans ⟨fun hr => ⟨by omega, by omega, fun i hi => hco _ (np_mem l i hi), fun i h1 hi => ?_, hf', hg'⟩, fun hm j h1 hj => ?_⟩⟩
            · have := hr i h1 (by simpa using hi)
              rwa [nr_xs _ _ (by omega), nr_xs _ _ hi] at this
            · rw [nr_xs _ _ (by simp at hj; omega), nr_xs _ _ (by simpa using hj)]
              exact hm.up j h1 (by simpa using hj)
          · rw [if_neg hg]
            exact ⟨false, rfl, by simp; intro hm; exact hg (by rw [hm.last]; rfl)⟩
        · rw [if_neg hf]
          exact ⟨false, rfl, by simp; intro hm; exact hf (by rw [hm.first]; rfl)⟩
    · rw [if_neg (by simpa using h12)]
      simp only [impl_isMap.j0, if_true]
      exact ⟨false, rfl, by simp; intro hm; have := hm.most; omega⟩
  · rw [if_neg h2]
    simp only [Option.bind_some, impl_isMap.j0, if_true]
    exact ⟨false, rfl, by simp; intro hm; have := hm.two; omega⟩
theorem imGood_l (l : List Pt) (h2 : 2 ≤ l.length) (h12 : l.length ≤ 12) : ∀ (d k i : Nat), i + d = l.length → (∀ j, j < i → CoP (np l j)) → (∀ j, 1 ≤ j → j < i → Lt (np l (j - 1)).f0 (np l j).f0) → 500 + d < k →
    ∃ b, spec_imGood.l0 k l l (l.length : Int) (i : Int) = some b ∧ (b = true ↔ IsMap l) := by
  intro d
  induction d with
  | zero =>
    intro k i hi hco hup hk
    obtain ⟨k, rfl⟩ : ∃ m, k = m + 1 := ⟨k - 1, by omega⟩
    simp only [spec_imGood.l0, spec_raInt.f, Option.bind_some]
    rw [if_neg (by omega), if_pos (by omega), rd_np0, wr (_ - 1) (by omega), show (l.length : Int) - 1 = ((l.length - 1 : Nat) : Int) by omega, rd_np]
    obtain ⟨t, e, _, h0⟩ := raCmp_eq (hco 0 (by omega)).bx (show Bd 0 1 by unfold Bd; omega)
    obtain ⟨t2, e2, _, h02⟩ := raCmp_eq (hco (l.length - 1) (by omega)).bx (show Bd 1 1 by unfold Bd; omega)
    rw [e, e2]
    simp only [Option.bind_some]
    have c0 := (hco 0 (by omega)).1.1
    have c1 := (hco (l.length - 1) (by omega)).1.1
    by_cases ht : t = 0
    · rw [if_pos ht, if_pos (by omega), if_pos (by omega)]
      refine ⟨_, rfl, ?_⟩
      have hz := h0.1 ht
      have hz0 : (np l 0).f0.f0 = 0 := by omega
      have hf' : (np l 0).f0 = ⟨0, 1⟩ := by
        refine rat_ext hz0 ?_
        have hg := c0.1.2.2.2.2
        have hp := c0.1.1
        rw [hz0, Int.gcd_zero_left] at hg
        omega
      simp only [beq_iff_eq]
      rw [h02]
      constructor
      · intro hh
        have hz1 : (np l (l.length - 1)).f0.f0 = (np l (l.length - 1)).f0.f1 := by omega
        have hg' : (np l (l.length - 1)).f0 = ⟨1, 1⟩ := by
          have hg := c1.1.2.2.2.2
          have hp := c1.1.1
          rw [hz1, Int.gcd_self] at hg
          exact rat_ext (by omega) (by omega)
        exact ⟨by omega, by omega, fun j hj => hco j (by omega), fun j h1 hj => hup j h1 (by omega), hf', hg'⟩
      · intro hm
        rw [hm.last]
    · rw [if_neg ht]
      refine ⟨false, rfl, ⟨fun h => (by cases h), fun hm => absurd (h0.2 (by rw [hm.first])) ht⟩⟩
  | succ d ih =>
    intro k i hi hco hup hk
    obtain ⟨k, rfl⟩ : ∃ m, k = m + 1 := ⟨k - 1, by omega⟩
    simp only [spec_imGood.l0]
    rw [if_pos (by omega), if_pos (by omega), if_pos (by omega), rd_np, imCoord_eq _ _ k (by omega), imCoord_eq _ _ k (by omega)]
    simp only [Option.bind_some, decide_eq_true_eq]
    by_cases hx : Co (np l i).f0.f0 (np l i).f0.f1
    · rw [if_pos hx]
      by_cases hy : Co (np l i).f1.f0 (np l i).f1.f1
      · rw [if_pos hy, wr (_ + 1) (by omega), show (i : Int) + 1 = ((i + 1 : Nat) : Int) by omega]
        have hci : CoP (np l i) := ⟨hx, hy⟩
        have hco' : ∀ j, j < i + 1 → CoP (np l j) := fun j hj => by
          by_cases ej : j = i
          · subst ej; exact hci
          · exact hco j (by omega)
        by_cases h0 : (i : Int) > 0
        · rw [if_pos h0, wr (_ - 1) (by omega), if_pos (by omega), if_pos (by omega), show (i : Int) - 1 = ((i - 1 : Nat) : Int) by omega, rd_np]
          obtain ⟨t, e, hlt, _⟩ := raCmp_eq (hco (i - 1) (by omega)).bx hci.bx
          rw [e]
          simp only [Option.bind_some]
          by_cases ht : t ≥ 0
          · rw [if_pos ht]
            refine ⟨false, rfl, ⟨fun h => (by cases h), fun hm => ?_⟩⟩
            have := hm.up i (by omega) (by omega)
            have := hlt.2 this
            omega
          · rw [if_neg ht]
            refine ih k (i + 1) (by omega) hco' (fun j h1 hj => ?_) (by omega)
            by_cases ej : j = i
            · subst ej; exact hlt.1 (by omega)
            · exact hup j h1 (by omega)
        · rw [if_neg h0]
          exact ih k (i + 1) (by omega) hco' (fun j h1 hj => by omega) (by omega)
      · rw [if_neg hy]
        exact ⟨false, rfl, by simp; intro hm; exact hy (hm.co i (by omega)).2⟩
    · rw [if_neg hx]
      exact ⟨false, rfl, by simp; intro hm; exact hx (hm.co i (by omega)).1⟩
theorem imGood_eq (l : List Pt) (hl : l.length ≤ 1048576) (k : Nat) (hk : 1000 ≤ k) : ∃ b, spec_imGood.f k l = some b ∧ (b = true ↔ IsMap l) := by
  unfold spec_imGood.f spec_l1In.f
  by_cases h2 : (l.length : Int) ≥ 2
  · rw [if_pos h2]
    simp only [Option.bind_some]
    by_cases h12 : (l.length : Int) ≤ 12
    · rw [if_pos (by simpa using h12)]
      exact imGood_l l (by omega) (by omega) l.length k 0 (by omega) (fun j hj => by omega) (fun j _ hj => by omega) (by omega)
    · rw [if_neg (by simpa using h12)]
      exact ⟨false, rfl, by simp; intro hm; have := hm.most; omega⟩
  · rw [if_neg h2]
    simp only [Option.bind_some]
    exact ⟨false, rfl, by simp; intro hm; have := hm.two; omega⟩
open Classical in
noncomputable def mapB (l : List Pt) : Bool := decide (IsMap l)
theorem mapB_iff (l : List Pt) : mapB l = true ↔ IsMap l := by unfold mapB; simp
theorem isMapB (l : List Pt) (hl : l.length ≤ 1048576) (k : Nat) (hk : 1000 ≤ k) : impl_isMap.f k l = some (mapB l) := by
  obtain ⟨b, e, h⟩ := isMap_eq l hl k hk
  rw [e]
  congr 1
  rw [Bool.eq_iff_iff, h, mapB_iff]
theorem imGoodB (l : List Pt) (hl : l.length ≤ 1048576) (k : Nat) (hk : 1000 ≤ k) : spec_imGood.f k l = some (mapB l) := by
  obtain ⟨b, e, h⟩ := imGood_eq l hl k hk
  rw [e]
  congr 1
  rw [Bool.eq_iff_iff, h, mapB_iff]
end Go.Proofs.Ytgejkhbehoabdaa.Pu
set_option linter.unusedVariables false
set_option linter.unusedSimpArgs false
namespace Go.Proofs.Ytgejkhbehoabdaa.Pu
open Go.RowKit Go.Proofs.Ytgejkhbehoabdaa.Q Go.Proofs.YtgejkhbehoabdaaW.PrintWords Go.Proofs.YtgejkhbehoabdaaW.PrintLast Go.Proofs.YtgejkhbehoabdaaW.PrintMore
abbrev Tri := Int × Int × Bool
theorem areRats2 (a b : Ra) (k : Nat) (hk : 300 ≤ k) : impl_areRats.f k [a, b] = some (decide (OkR a.f0 a.f1) && decide (OkR b.f0 b.f1)) := by
  unfold impl_areRats.f
  obtain ⟨k, rfl⟩ : ∃ m, k = m + 3 := ⟨k - 3, by omega⟩
  have r0 : rd_T47 [a, b] 0 = a := rfl
  have r1 : rd_T47 [a, b] 1 = b := rfl
  simp only [impl_areRats.l0, List.length_cons, List.length_nil]
  rw [if_pos (by decide), if_pos (by decide), if_pos (by decide), r0, isRat_eq _ _ _ (by omega)]
  simp only [Option.bind_some, decide_eq_true_eq]
  by_cases h : OkR a.f0 a.f1
  · rw [if_pos h]
    have e1 : wrap64 (0 + 1) = 1 := wr _ (by decide)
    have e2 : wrap64 (1 + 1) = 2 := wr _ (by decide)
    rw [e1, if_pos (by decide), if_pos (by decide), if_pos (by decide), r1, isRat_eq _ _ _ (by omega)]
    simp only [Option.bind_some, decide_eq_true_eq]
    by_cases h2 : OkR b.f0 b.f1
    · rw [if_pos h2, e2, if_neg (by decide)]
      simp [h, h2]
    · rw [if_neg h2]; simp [h2]
  · rw [if_neg h]; simp [h]
def addT (a b c d : Int) : Tri := mk (a * d + c * b) (b * d)
theorem den_pos {a b c d : Int} (h1 : OkR a b) (h2 : OkR c d) : b * d ≠ 0 := by
  have := Int.mul_pos (show 0 < b by have := h1.1; omega) (show 0 < d by have := h2.1; omega)
  omega
section
variable {a b c d : Int} (h1 : OkR a b) (h2 : OkR c d) (k : Nat)
include h1 h2
theorem addRats_eq (hk : 300 ≤ k) : impl_AddRats.f k a b c d = some (addT a b c d) := by
  unfold impl_AddRats.f
  rw [areRats2 _ _ k hk, decide_eq_true h1, decide_eq_true h2]
  simp only [Option.bind_some, Bool.and_true, if_true]
  obtain ⟨m1, m2, m3, _⟩ := cross_bd h1.bd h2.bd
  have hd := den_pos h1 h2
  rw [wr (a * d) (by omega), wr (c * b) (by omega), wr (b * d) (by omega), wr _ (by omega), lowest_eq _ _ hd (by omega) (by omega) k (by omega)]
  rfl
theorem raAdd_eq (hk : 300 ≤ k) : spec_raAdd.f k a b c d = some (addT a b c d) := by
  unfold spec_raAdd.f
  obtain ⟨m1, m2, m3, _⟩ := cross_bd h1.bd h2.bd
  have hd := den_pos h1 h2
  rw [wr (a * d) (by omega), wr (c * b) (by omega), wr (b * d) (by omega), wr _ (by omega), raMake_eq _ _ hd (by omega) (by omega) k (by omega)]
  rfl
omit h1 in
end
structure Seg (p q : Pt) : Prop where
  cp : CoP p
  cq : CoP q
  lt : Lt p.f0 q.f0
theorem IsMap.seg {l : List Pt} (h : IsMap l) (i : Nat) (hi : i + 1 < l.length) : Seg (np l i) (np l (i + 1)) :=
  ⟨h.co i (by omega), h.co (i + 1) hi, by have := h.up (i + 1) (by omega) hi; rwa [Nat.add_sub_cancel] at this⟩
end Go.Proofs.Ytgejkhbehoabdaa.Pu
set_option linter.unusedVariables false
set_option linter.unusedSimpArgs false
namespace Go.Proofs.Ytgejkhbehoabdaa.Pu
open Go.RowKit Go.Proofs.Ytgejkhbehoabdaa.Q Go.Proofs.YtgejkhbehoabdaaW.PrintWords Go.Proofs.YtgejkhbehoabdaaW.PrintLast Go.Proofs.YtgejkhbehoabdaaW.PrintMore
structure Rel (s : Bool) (v m : Tri) : Prop where
  ok : OkR v.1 v.2.1
  bad : v.2.2 = (s || !m.2.2)
  val : m.2.2 = true → v.1 = m.1 ∧ v.2.1 = m.2.1
def Units (l : List Ra) : Prop := ∀ x ∈ l, OkU x.f0 x.f1
instance (l : List Ra) : Decidable (Units l) := by unfold Units; infer_instance
def Pseudo (l : List Ra) : Prop := 1 ≤ l.length ∧ l.length ≤ 20 ∧ Units l
instance (l : List Ra) : Decidable (Pseudo l) := by unfold Pseudo; infer_instance
end Go.Proofs.Ytgejkhbehoabdaa.Pu
set_option linter.unusedVariables false
set_option linter.unusedSimpArgs false
namespace Go.Proofs.Ytgejkhbehoabdaa.Pure
open Go.RowKit Go.Proofs.Ytgejkhbehoabdaa.Q Go.Proofs.Ytgejkhbehoabdaa.Pu Go.Proofs.YtgejkhbehoabdaaW.PrintWords Go.Proofs.YtgejkhbehoabdaaW.PrintLast Go.Proofs.YtgejkhbehoabdaaW.PrintMore
def peL (f : List Pt) (i : Nat) (b0 b1 : Int) : List Pt := f.set i ⟨(np f i).f0, ⟨(addT (np f i).f1.f0 (np f i).f1.f1 b0 b1).1, (addT (np f i).f1.f0 (np f i).f1.f1 b0 b1).2.1⟩⟩
noncomputable def peR (f : List Pt) (i b0 b1 : Int) : List Pt × Bool :=
  if mapB f = true ∧ (0 ≤ i ∧ i ≤ (f.length : Int) - 1) ∧ OkR b0 b1 ∧ (addT (np f i.toNat).f1.f0 (np f i.toNat).f1.f1 b0 b1).2.2 = true ∧ mapB (peL f i.toNat b0 b1) = true then (peL f i.toNat b0 b1, true) else ([], false)
theorem peR_len (f : List Pt) (i b0 b1 : Int) (hf : f.length ≤ 1048576) : (peR f i b0 b1).1.length ≤ 1048577 := by
  unfold peR
  split
  · simp [peL]; omega
  · simp
theorem spec_eq (f : List Pt) (i b0 b1 : Int) (hf : f.length ≤ 1048576) (k : Nat) (hk : 3000 ≤ k) : spec_PerturbMap.f k f i b0 b1 = some (peR f i b0 b1) := by
  unfold spec_PerturbMap.f spec_l1In.f peR
  obtain ⟨k, rfl⟩ : ∃ m, k = m + 1 := ⟨k - 1, by omega⟩
  rw [imGoodB f hf (k + 1) (by omega), Option.bind_some]
  cases hm : mapB f with
  | false =>
    rw [if_neg (by decide), if_neg (fun h => by cases h.1)]
    simp only [spec_PerturbMap.j0, if_true]
  | true =>
    have hM := (mapB_iff f).1 hm
    have h2 := hM.two
    have h12 := hM.most
    rw [if_pos rfl, wr _ (by omega)]
    by_cases h0 : i ≥ 0
    · rw [if_pos h0, Option.bind_some]
      by_cases h1 : i ≤ (f.length : Int) - 1
      · rw [if_pos (by simpa using h1), raGood_eq _ _ (k + 1) (by omega), Option.bind_some]
        simp only [spec_PerturbMap.j0]
        by_cases hb : OkR b0 b1
        · obtain ⟨n, rfl⟩ : ∃ n : Nat, i = n := ⟨i.toNat, by omega⟩
          have hc := hM.co n (by omega)
          rw [decide_eq_true hb, if_neg (by decide), if_pos (by omega), if_pos (by omega), rd_np, raAdd_eq hc.2.1.1 hb k (by omega), Option.bind_some, Int.toNat_natCast]
          cases ha : (addT (np f n).f1.f0 (np f n).f1.f1 b0 b1).2.2 with
          | false => rw [if_neg (by decide), if_neg (fun h => by cases h.2.2.2.1)]
          | true =>
            rw [if_pos rfl]
            simp only [Option.bind_some, List.nil_append, List.length_nil]
            rw [if_pos (by omega), if_pos (by omega), rd_np]
            have e : f.set n (⟨⟨(np f n).f0.f0, (np f n).f0.f1⟩, ⟨(addT (np f n).f1.f0 (np f n).f1.f1 b0 b1).1, (addT (np f n).f1.f0 (np f n).f1.f1 b0 b1).2.1⟩⟩ : Pt) = peL f n b0 b1 := rfl
            rw [e, imGoodB _ (by simp [peL]; omega) k (by omega), Option.bind_some]
            cases hp : mapB (peL f n b0 b1) with
            | true => rw [if_pos rfl, if_pos (by refine ⟨?_, ⟨h0, h1⟩, hb, ?_, ?_⟩ <;> first | rfl | trivial)]
            | false => rw [if_neg (by decide), if_neg (fun h => by cases h.2.2.2.2)]
        · rw [decide_eq_false hb, if_pos (by rfl), if_neg (fun h => hb h.2.2.1)]
      · rw [if_neg (by simpa using h1), if_neg (fun h => h1 h.2.1.2)]
        simp only [spec_PerturbMap.j0, if_true]
    · rw [if_neg h0, Option.bind_some, if_neg (by decide), if_neg (fun h => h0 h.2.1.1)]
      simp only [spec_PerturbMap.j0, if_true]
theorem impl_eq (f : List Pt) (i b0 b1 : Int) (hf : f.length ≤ 1048576) (k : Nat) (hk : 3000 ≤ k) : impl_PerturbMap.f k f i b0 b1 = some (peR f i b0 b1) := by
  unfold impl_PerturbMap.f impl_within.f peR
  obtain ⟨k, rfl⟩ : ∃ m, k = m + 1 := ⟨k - 1, by omega⟩
  rw [isMapB f hf (k + 1) (by omega), Option.bind_some]
  cases hm : mapB f with
  | false =>
    rw [if_neg (by decide), if_neg (fun h => by cases h.1)]
    simp only [impl_PerturbMap.j0, if_true]
  | true =>
    have hM := (mapB_iff f).1 hm
    have h2 := hM.two
    have h12 := hM.most
    rw [if_pos rfl, wr _ (by omega)]
    by_cases h0 : 0 ≤ i
    · rw [if_pos h0, Option.bind_some]
      simp only [impl_PerturbMap.j0]
      by_cases h1 : i ≤ (f.length : Int) - 1
      · obtain ⟨n, rfl⟩ : ∃ n : Nat, i = n := ⟨i.toNat, by omega⟩
        have hc := hM.co n (by omega)
        rw [decide_eq_true h1, if_neg (by decide), if_pos (by omega), if_pos (by omega), rd_np, Int.toNat_natCast]
        unfold impl_Point_73.f
        rw [if_pos (by omega)]
        by_cases hb : OkR b0 b1
        · rw [addRats_eq hc.2.1.1 hb k (by omega), Option.bind_some]
          simp only [Option.bind_some]
          rw [if_pos (by omega), rd_np]
          cases ha : (addT (np f n).f1.f0 (np f n).f1.f1 b0 b1).2.2 with
          | false => rw [if_neg (by decide), if_neg (fun h => by cases h.2.2.2.1)]
          | true =>
            rw [if_pos rfl]
            have e : f.set n (⟨⟨(np f n).f0.f0, (np f n).f0.f1⟩, ⟨(addT (np f n).f1.f0 (np f n).f1.f1 b0 b1).1, (addT (np f n).f1.f0 (np f n).f1.f1 b0 b1).2.1⟩⟩ : Pt) = peL f n b0 b1 := rfl
            rw [e, isMapB _ (by simp [peL]; omega) k (by omega), Option.bind_some]
            cases hp : mapB (peL f n b0 b1) with
            | true => rw [if_pos rfl, if_pos (by refine ⟨?_, ⟨h0, h1⟩, hb, ?_, ?_⟩ <;> first | rfl | trivial)]
            | false => rw [if_neg (by decide), if_neg (fun h => by cases h.2.2.2.2)]
        · have ea : impl_AddRats.f k (np f n).f1.f0 (np f n).f1.f1 b0 b1 = some (0, 0, false) := by
            unfold impl_AddRats.f
            rw [areRats2 _ _ k (by omega), decide_eq_false hb, Bool.and_false, Option.bind_some, if_neg (by decide)]
          rw [ea, Option.bind_some]
          simp only [Option.bind_some]
          rw [if_pos (by omega), if_neg (by decide), if_neg (fun h => hb h.2.2.1)]
      · rw [decide_eq_false h1, if_pos (by rfl), if_neg (fun h => h1 h.2.1.2)]
    · rw [if_neg h0, Option.bind_some, if_neg (fun h => h0 h.2.1.1)]
      simp only [impl_PerturbMap.j0]
      rw [if_pos (by rfl)]
theorem FnExactPerturbMap : laws_FnExactPerturbMap.Pure := by
  intro l0 a1 a2_0 a2_1 _ _ _ _ _
  refine ⟨4000005, ?_⟩
  unfold laws_FnExactPerturbMap.f laws_szPointS.f laws_toRat.f
  have hm0 : (maxLen : Nat) ≤ 9223372036854775807 := by decide
  by_cases hb : (wrap64 (1048576 - (l0.length : Int))) < 0
  · rw [if_pos hb]; rfl
  · rw [if_neg hb]
    have hl0 : l0.length ≤ 1048576 := by rw [wr _ (by omega)] at hb; omega
    simp only [Option.bind_some]
    rw [if_neg hb, toPointS l0 hl0 _ (by omega)]
    simp only [Option.bind_some]
    have hf : (l0.map cvPoint).length ≤ 1048576 := by simpa using hl0
    generalize hF : l0.map cvPoint = F at hf
    rcases hv : peR F a1 a2_0 a2_1 with ⟨v, b⟩
    have hv9 : v.length ≤ 1048577 := by have := peR_len F a1 a2_0 a2_1 hf; rw [hv] at this; exact this
    rw [spec_eq F _ _ _ hf _ (by omega), impl_eq F _ _ _ hf _ (by omega), hv]
    simp only [Option.bind_some]
    rw [eqPointS_self v (by omega) _ (by omega)]
    simp only [Option.bind_some, if_true, bne_self_eq_false, laws_FnExactPerturbMap.j0]
    rw [if_neg (by decide), toPointS l0 hl0 _ (by omega), hF]
    simp only [Option.bind_some]
    rw [eqPointS_self F (by omega) _ (by omega)]
    simp only [Option.bind_some, if_true]
    rw [markPointS F 1 (by omega) (by omega) _ (by omega)]
    simp only [Option.bind_some]
    rw [if_neg (by omega), eqPointS_self v (by omega) _ (by omega)]
    simp only [Option.bind_some, if_true, laws_FnExactPerturbMap.j1]
    rw [if_neg (by decide), markPointS v 1 (by omega) (by omega) _ (by omega)]
    simp only [Option.bind_some]
    rw [heldPointS v.length 1 (by omega) (by omega) _ (by omega)]
    simp only [Option.bind_some, laws_toRat.f]
    rw [if_neg (by omega), if_pos (by trivial), toPointS l0 hl0 _ (by omega), hF]
    simp only [Option.bind_some]
    rw [impl_eq F _ _ _ hf _ (by omega), hv]
    simp only [Option.bind_some]
    rw [eqPointS_self v (by omega) _ (by omega)]
    simp only [Option.bind_some, if_true, bne_self_eq_false, laws_FnExactPerturbMap.j2]
    rw [if_neg (by decide), heldPointS v.length 1 (by omega) (by omega) _ (by omega)]
    simp only [Option.bind_some]
    rw [if_neg (by omega), if_pos (by trivial)]
end Go.Proofs.Ytgejkhbehoabdaa.Pure

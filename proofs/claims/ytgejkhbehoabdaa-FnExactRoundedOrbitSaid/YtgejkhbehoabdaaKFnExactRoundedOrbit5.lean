/- All that the statement FnExactRoundedOrbit rests on, part 5: the walks of the functions that it reaches, and the plain laws of what they compute. -/
import Derived.Test.YtgejkhbehoabdaaKFnExactRoundedOrbit4
namespace Go.Proofs.Ytgejkhbehoabdaa.Q
open Go.RowKit Go.Proofs.YtgejkhbehoabdaaW.PrintWords Go.Proofs.YtgejkhbehoabdaaW.PrintLast Go.Proofs.YtgejkhbehoabdaaW.PrintMore
attribute [local go_sem] max2_int min2_int max_two min_two max_three min_three max_four min_four   -- for this text's walks alone
set_option linter.unusedVariables false
set_option linter.unusedSimpArgs false
mutual
def impl_RoundedOrbit.j0 : Nat → List (S79) → Int → Int → Bool → Int → Int → Option ((List (S47)) × Bool)
 | 0, _, _, _, _, _, _ => none
 | k + 1, x0, x2, x3, x30, xA, xB => if x30 = true then (some (([] : List (S47)), false)) else (impl_RoundedOrbit.l0 k x0 x3 (([(⟨xA, xB⟩ : S47)] : List (S47))) x2 0 xA xB false)
def impl_RoundedOrbit.l0 : Nat → List (S79) → Int → List (S47) → Int → Int → Int → Int → Bool → Option ((List (S47)) × Bool)
 | 0, _, _, _, _, _, _, _, _ => none
 | k + 1, x0, x3, x11, x33, x34, xA, xB, xC => if x34 < x33 then ((impl_calc_value.f k xC x0 xA xB).bind fun btD => (if btD.2.2 = true then (some (([] : List (S47)), false)) else ((impl_RoundDownTo.f k btD.1 btD.2.1 x3).bind fun btE => ((impl_calc_keep.f btD.2.2 btE.1 btE.2.1 btE.2.2).bind fun btF => (if x11.length < 8796093022208 then (impl_RoundedOrbit.l0 k x0 x3 (x11 ++ [(⟨btF.1, btF.2.1⟩ : S47)]) x33 (wrap64 (x34 + 1)) btF.1 btF.2.1 btF.2.2) else (none)))))) else (some (x11, true))
end
def impl_RoundedOrbit.f (k : Nat) (l0 : List (S79)) (a1_0 : Int) (a1_1 : Int) (a2 : Int) (a3 : Int) : Option ((List (S47)) × Bool) := (impl_isMap.f k l0).bind fun tA => (if tA = true then ((impl_isUnit.f k a1_0 a1_1).bind fun tB => (if tB = true then ((impl_within.f a2 0 19).bind fun tC => (if tC = true then ((impl_within.f a3 1 1000).bind fun tD => (impl_RoundedOrbit.j0 k l0 a2 a3 (!tD) a1_0 a1_1)) else (impl_RoundedOrbit.j0 k l0 a2 a3 true a1_0 a1_1))) else (impl_RoundedOrbit.j0 k l0 a2 a3 true a1_0 a1_1))) else (impl_RoundedOrbit.j0 k l0 a2 a3 true a1_0 a1_1))
theorem zz194 {p : Prop} (h : p := by (with_reducible repeat (first | apply Kd.R_alloc | apply Kd.R_drewN | apply Kd.R_drew)); exact HO_11.out) : p := h
theorem zz167 {p : Prop} (h : p := by (with_reducible repeat (first | refine blk_drewN ?_ _ | refine blk_drew ?_ | refine blk_alloc ?_ _)); exact BKA.out) : p := h
theorem zz109 {p : Prop} (h : p := by repeat (first | (with_reducible first | exact HB.out | apply below_alloc | apply pw_below_drewN | apply below_drew1 | refine below_set ?_ GEA.out) | exact HB.out)) : p := h
theorem zz69 {p : Prop} (h : p := by repeat (first | (with_reducible first | exact HIB.out | apply IsS92.alloc | apply IsS92.drewN | apply IsS92.drew | apply IsS92.set_0 | apply IsS92.far (hne := NBB_A.out)) | exact HIB.out)) : p := h
theorem zz67 {p : Prop} (h : p := by repeat (first | (with_reducible first | exact HB.out | apply below_alloc | apply pw_below_drewN | apply below_drew1 | refine below_set ?_ (IsS92.ge HIB.out) | refine below_set ?_ GEA.out) | exact HB.out)) : p := h
theorem zz50 {p : Prop} (h : p := by repeat (first | (with_reducible first | exact HB.out | apply below_alloc | apply pw_below_drewN | apply below_drew1 | refine below_set ?_ (IsS92.ge HIB.out) | refine below_set ?_ GEA.out | refine below_set ?_ GEC.out) | exact HB.out)) : p := h
theorem zz21 {p : Prop} (h : p := by (with_reducible repeat (first | refine blk_drewN ?_ _ | refine blk_drew ?_ | refine blk_alloc ?_ _)); refine blk_far ?_ NBC_A.out _; (with_reducible repeat (first | refine blk_drewN ?_ _ | refine blk_drew ?_ | refine blk_alloc ?_ _)); refine blk_far ?_ NBC_A.out _; (with_reducible repeat (first | refine blk_drewN ?_ _ | refine blk_drew ?_ | refine blk_alloc ?_ _)); exact BKC.out) : p := h
theorem zz11 {p : Prop} (h : p := by (with_reducible repeat (first | refine blk_drewN ?_ _ | refine blk_drew ?_ | refine blk_alloc ?_ _)); refine blk_put (cs := #[.int .i64 tD, .int .i64 xE_2]) ?_ 1 _ rfl; (with_reducible repeat (first | refine blk_drewN ?_ _ | refine blk_drew ?_ | refine blk_alloc ?_ _)); refine blk_put (cs := #[.int .i64 xF_2, .int .i64 xE_2]) ?_ 0 _ rfl; (with_reducible repeat (first | refine blk_drewN ?_ _ | refine blk_drew ?_ | refine blk_alloc ?_ _)); exact BKA.out) : p := h
set_option maxHeartbeats 8000000 in
set_option maxRecDepth 100000 in
theorem impl_RoundedOrbit.calls (k : Nat) (A0 : Option Addr) (c0 : Nat) (l0 : List (S79)) (a1_0 : Int) (a1_1 : Int) (a2 : Int) (a3 : Int) (r1 : List (S47)) (r2 : Bool) (w : World) (hr0 : Kd.C k79 w A0 l0.length l0) (hc0 : l0.length ≤ c0) (h : impl_RoundedOrbit.f k l0 a1_0 a1_1 a2 a3 = some (r1, r2)) :
  Calls Try.prog 48 #[.slice A0 l0.length c0, .agg #[.int .i64 a1_0, .int .i64 a1_1], .int .i64 a2, .int .i64 a3] w fun e w' => ∃ v0_ : Value, e = .returned (.tuple #[v0_, .bool r2]) ∧ Kd.R k47 47 w' w.heap.size (fun _ => True) v0_ r1 ∧ Below w.heap.size w w' := by
 have hu47 := Try.underlying47; have hu92 := Try.underlying92; have HR0 := Aside0.mk hr0; have HC0 := Aside0.mk hc0; clear hr0 hc0; have HB := Aside0.mk (Below.refl w.heap.size w); have H : ((impl_isMap.f k l0).bind fun tG => (if tG = true then ((impl_isUnit.f k a1_0 a1_1).bind fun tH => (if tH = true then ((impl_within.f a2 0 19).bind fun tI => (if tI = true then ((impl_within.f a3 1 1000).bind fun tJ => (impl_RoundedOrbit.j0 k l0 a2 a3 (!tJ) a1_0 a1_1)) else (impl_RoundedOrbit.j0 k l0 a2 a3 true a1_0 a1_1))) else (impl_RoundedOrbit.j0 k l0 a2 a3 true a1_0 a1_1))) else (impl_RoundedOrbit.j0 k l0 a2 a3 true a1_0 a1_1))) = some (r1, r2) := h; clear h; have HC5 := Aside0.mk H; clear H; go_enter Try.func48, Try.ntmps48
 go_upto_region 1 with (first | ((with_reducible refine gate_dst (N := 5) rfl ?_); refine box_event ?hg (N := 5) ?hd (cs := #[.int .i64 a1_0, .int .i64 a1_1]) (t := 47) ?hr ?_; (case hd => rfl); (case hg => rfl); (case hr => first | (go_simp; done) | (go_simp; rfl)); intro gbA hg w6 hbox hb; have n2_ := gwA (below_size zz141) hg; have n3_ := gwA (below_size zz141) hg; have GWA := n2_; have GEA := n3_; clear n2_ n3_; have BKA := Aside0.mk (hbox); replace HB := Aside0.mk (below_step zz141 hb); clear hb hbox hg))
 (try simp only [Act.put, List.setIfInBounds_toArray, List.set_cons_zero, List.set_cons_succ]); go_cut [30] (fun v30 wc => ∃ (kq : Nat) (x30_4 : Bool), v30 = .bool x30_4 ∧ Aside0 (impl_RoundedOrbit.j0 kq l0 a2 a3 x30_4 a1_0 a1_1 = some (r1, r2)) ∧ Aside0 (kq ≤ k) ∧ Aside0 (wc.heap[gbA]? = some (.cells #[.int .i64 a1_0, .int .i64 a1_1] 47 (0, 0))) ∧ Aside0 (Below w.heap.size w wc))
 case first =>
  have H := HC5.out; clear HC5; replace H := Option.bind_eq_some_iff.mp H; obtain ⟨tG, A70, H⟩ := H; replace H : (if tG = true then ((impl_isUnit.f k a1_0 a1_1).bind fun tH => (if tH = true then ((impl_within.f a2 0 19).bind fun tI => (if tI = true then ((impl_within.f a3 1 1000).bind fun tJ => (impl_RoundedOrbit.j0 k l0 a2 a3 (!tJ) a1_0 a1_1)) else (impl_RoundedOrbit.j0 k l0 a2 a3 true a1_0 a1_1))) else (impl_RoundedOrbit.j0 k l0 a2 a3 true a1_0 a1_1))) else (impl_RoundedOrbit.j0 k l0 a2 a3 true a1_0 a1_1)) = some (r1, r2) := H; have A7 := Aside0.mk A70; clear A70; by_cases c8 : tG = true
  ·subst c8; have H1 : ((impl_isUnit.f k a1_0 a1_1).bind fun tH => (if tH = true then ((impl_within.f a2 0 19).bind fun tI => (if tI = true then ((impl_within.f a3 1 1000).bind fun tJ => (impl_RoundedOrbit.j0 k l0 a2 a3 (!tJ) a1_0 a1_1)) else (impl_RoundedOrbit.j0 k l0 a2 a3 true a1_0 a1_1))) else (impl_RoundedOrbit.j0 k l0 a2 a3 true a1_0 a1_1))) = some (r1, r2) := by rw [if_pos rfl] at H; exact H
   clear H; have H := H1; clear H1; replace H := Option.bind_eq_some_iff.mp H; obtain ⟨tH, A90, H⟩ := H; replace H : (if tH = true then ((impl_within.f a2 0 19).bind fun tI => (if tI = true then ((impl_within.f a3 1 1000).bind fun tJ => (impl_RoundedOrbit.j0 k l0 a2 a3 (!tJ) a1_0 a1_1)) else (impl_RoundedOrbit.j0 k l0 a2 a3 true a1_0 a1_1))) else (impl_RoundedOrbit.j0 k l0 a2 a3 true a1_0 a1_1)) = some (r1, r2) := H; have A9 := Aside0.mk A90; clear A90; by_cases c10 : tH = true
   ·subst c10; have H1 : ((impl_within.f a2 0 19).bind fun tI => (if tI = true then ((impl_within.f a3 1 1000).bind fun tJ => (impl_RoundedOrbit.j0 k l0 a2 a3 (!tJ) a1_0 a1_1)) else (impl_RoundedOrbit.j0 k l0 a2 a3 true a1_0 a1_1))) = some (r1, r2) := by rw [if_pos rfl] at H; exact H
    clear H; have H := H1; clear H1; replace H := Option.bind_eq_some_iff.mp H; obtain ⟨tI, AK, H⟩ := H; replace H : (if tI = true then ((impl_within.f a3 1 1000).bind fun tJ => (impl_RoundedOrbit.j0 k l0 a2 a3 (!tJ) a1_0 a1_1)) else (impl_RoundedOrbit.j0 k l0 a2 a3 true a1_0 a1_1)) = some (r1, r2) := H; have A11 := Aside0.mk AK; clear AK; by_cases c12 : tI = true
    ·subst c12; have H1 : ((impl_within.f a3 1 1000).bind fun tJ => (impl_RoundedOrbit.j0 k l0 a2 a3 (!tJ) a1_0 a1_1)) = some (r1, r2) := by rw [if_pos rfl] at H; exact H
     clear H; have H := H1; clear H1; replace H := Option.bind_eq_some_iff.mp H; obtain ⟨tJ, AL, H⟩ := H; replace H : (impl_RoundedOrbit.j0 k l0 a2 a3 (!tJ) a1_0 a1_1) = some (r1, r2) := H; have A13 := Aside0.mk AL; clear AL; have H' := Aside0.mk H; clear H; go_wp2_with (first | ((with_reducible refine gate_callee (f := 70) rfl ?_); refine goesL_ (some 14) rfl rfl Try.func70 (by kernel_rfl) rfl #[.slice A0 l0.length c0] rfl zz140 ?_; (with_reducible refine (impl_isMap.calls k _ _ l0 true _ ?side1 ?side2 A7.out).mono ?_); (case side1 => repeat (first | exact (Kd.C_below HR0.out HB.out) | (with_reducible refine Kd.C_alloc ?_ _) | (with_reducible refine Kd.C_drewN ?_ _) | (with_reducible refine Kd.C_drew ?_))); (case side2 => exact HC0.out); rintro e w14 ⟨rfl, hb⟩; refine ⟨_, rfl, ?_⟩; replace BKA := blkA BKA hb; replace HB := Aside0.mk (below_step zz109 hb); (try clear hb); have hcz15_0 : w14.cell? ⟨gbA, 0, none⟩ = some (.int .i64 a1_0) := (blk_cell BKA.out 0).trans rfl; have hcz15_1 : w14.cell? ⟨gbA, 1, none⟩ = some (.int .i64 a1_1) := (blk_cell BKA.out 1).trans rfl; have hfz15_0 := blk_frozen BKA.out 0; have hfz15_1 := blk_frozen BKA.out 1) | (go_at_call 105; (with_reducible refine (impl_isUnit.calls k a1_0 a1_1 true _ A9.out).mono ?_); rintro e w16 ⟨rfl, hb⟩; replace BKA := blkA BKA hb; replace HB := Aside0.mk (below_step zz109 hb); (try clear hb)) | (go_at_call 71; (with_reducible refine (impl_within.calls a2 0 19 true _ A11.out).mono ?_); rintro e w' ⟨rfl, ⟨nd, rfl⟩⟩) | (go_at_call 71; (with_reducible refine (impl_within.calls a3 1 1000 tJ _ A13.out).mono ?_); rintro e w' ⟨rfl, ⟨nd, rfl⟩⟩))
     go_meet
     case rel => exact ⟨_, (!tJ), zz209, H', ⟨by first | omega | exact Nat.le_refl _⟩, ⟨by (with_reducible repeat (first | refine blk_drewN ?_ _ | refine blk_drew ?_ | refine blk_alloc ?_ _)); exact BKA.out⟩, ⟨by repeat (first | (with_reducible first | exact HB.out | apply below_alloc | apply pw_below_drewN | apply below_drew1 | refine below_set ?_ GEA.out) | exact HB.out)⟩⟩
    ·replace c12 := Bool.eq_false_iff.mpr c12; subst c12; have H1 : (impl_RoundedOrbit.j0 k l0 a2 a3 true a1_0 a1_1) = some (r1, r2) := by rw [if_neg (show ¬ (false = true) by decide)] at H; exact H
     clear H; have H := H1; clear H1; have H' := Aside0.mk H; clear H; go_wp2_with (first | ((with_reducible refine gate_callee (f := 70) rfl ?_); refine goesL_ (some 14) rfl rfl Try.func70 (by kernel_rfl) rfl #[.slice A0 l0.length c0] rfl zz140 ?_; (with_reducible refine (impl_isMap.calls k _ _ l0 true _ ?side1 ?side2 A7.out).mono ?_); (case side1 => repeat (first | exact (Kd.C_below HR0.out HB.out) | (with_reducible refine Kd.C_alloc ?_ _) | (with_reducible refine Kd.C_drewN ?_ _) | (with_reducible refine Kd.C_drew ?_))); (case side2 => exact HC0.out); rintro e w17 ⟨rfl, hb⟩; refine ⟨_, rfl, ?_⟩; replace BKA := blkA BKA hb; replace HB := Aside0.mk (below_step zz109 hb); (try clear hb); have hcz18_0 : w17.cell? ⟨gbA, 0, none⟩ = some (.int .i64 a1_0) := (blk_cell BKA.out 0).trans rfl; have hcz18_1 : w17.cell? ⟨gbA, 1, none⟩ = some (.int .i64 a1_1) := (blk_cell BKA.out 1).trans rfl; have hfz18_0 := blk_frozen BKA.out 0; have hfz18_1 := blk_frozen BKA.out 1) | (go_at_call 105; (with_reducible refine (impl_isUnit.calls k a1_0 a1_1 true _ A9.out).mono ?_); rintro e w19 ⟨rfl, hb⟩; replace BKA := blkA BKA hb; replace HB := Aside0.mk (below_step zz109 hb); (try clear hb)) | (go_at_call 71; (with_reducible refine (impl_within.calls a2 0 19 false _ A11.out).mono ?_); rintro e w' ⟨rfl, ⟨nd, rfl⟩⟩))
     go_meet
     case rel => exact ⟨_, (true), zz209, H', ⟨by first | omega | exact Nat.le_refl _⟩, ⟨by (with_reducible repeat (first | refine blk_drewN ?_ _ | refine blk_drew ?_ | refine blk_alloc ?_ _)); exact BKA.out⟩, ⟨by repeat (first | (with_reducible first | exact HB.out | apply below_alloc | apply pw_below_drewN | apply below_drew1 | refine below_set ?_ GEA.out) | exact HB.out)⟩⟩
   ·replace c10 := Bool.eq_false_iff.mpr c10; subst c10; have H1 : (impl_RoundedOrbit.j0 k l0 a2 a3 true a1_0 a1_1) = some (r1, r2) := by rw [if_neg (show ¬ (false = true) by decide)] at H; exact H
    clear H; have H := H1; clear H1; have H' := Aside0.mk H; clear H; go_wp2_with (first | ((with_reducible refine gate_callee (f := 70) rfl ?_); refine goesL_ (some 14) rfl rfl Try.func70 (by kernel_rfl) rfl #[.slice A0 l0.length c0] rfl zz140 ?_; (with_reducible refine (impl_isMap.calls k _ _ l0 true _ ?side1 ?side2 A7.out).mono ?_); (case side1 => repeat (first | exact (Kd.C_below HR0.out HB.out) | (with_reducible refine Kd.C_alloc ?_ _) | (with_reducible refine Kd.C_drewN ?_ _) | (with_reducible refine Kd.C_drew ?_))); (case side2 => exact HC0.out); rintro e w20 ⟨rfl, hb⟩; refine ⟨_, rfl, ?_⟩; replace BKA := blkA BKA hb; replace HB := Aside0.mk (below_step zz109 hb); (try clear hb); have hcz21_0 : w20.cell? ⟨gbA, 0, none⟩ = some (.int .i64 a1_0) := (blk_cell BKA.out 0).trans rfl; have hcz21_1 : w20.cell? ⟨gbA, 1, none⟩ = some (.int .i64 a1_1) := (blk_cell BKA.out 1).trans rfl; have hfz21_0 := blk_frozen BKA.out 0; have hfz21_1 := blk_frozen BKA.out 1) | (go_at_call 105; (with_reducible refine (impl_isUnit.calls k a1_0 a1_1 false _ A9.out).mono ?_); rintro e w22 ⟨rfl, hb⟩; replace BKA := blkA BKA hb; replace HB := Aside0.mk (below_step zz109 hb); (try clear hb)))
    go_meet
    case rel => exact ⟨_, (true), zz209, H', ⟨by first | omega | exact Nat.le_refl _⟩, ⟨by (with_reducible repeat (first | refine blk_drewN ?_ _ | refine blk_drew ?_ | refine blk_alloc ?_ _)); exact BKA.out⟩, ⟨by repeat (first | (with_reducible first | exact HB.out | apply below_alloc | apply pw_below_drewN | apply below_drew1 | refine below_set ?_ GEA.out) | exact HB.out)⟩⟩
  ·replace c8 := Bool.eq_false_iff.mpr c8; subst c8; have H1 : (impl_RoundedOrbit.j0 k l0 a2 a3 true a1_0 a1_1) = some (r1, r2) := by rw [if_neg (show ¬ (false = true) by decide)] at H; exact H
   clear H; have H := H1; clear H1; have H' := Aside0.mk H; clear H; go_wp2_with (first | ((with_reducible refine gate_callee (f := 70) rfl ?_); refine goesL_ (some 14) rfl rfl Try.func70 (by kernel_rfl) rfl #[.slice A0 l0.length c0] rfl zz140 ?_; (with_reducible refine (impl_isMap.calls k _ _ l0 false _ ?side1 ?side2 A7.out).mono ?_); (case side1 => repeat (first | exact (Kd.C_below HR0.out HB.out) | (with_reducible refine Kd.C_alloc ?_ _) | (with_reducible refine Kd.C_drewN ?_ _) | (with_reducible refine Kd.C_drew ?_))); (case side2 => exact HC0.out); rintro e w23 ⟨rfl, hb⟩; refine ⟨_, rfl, ?_⟩; replace BKA := blkA BKA hb; replace HB := Aside0.mk (below_step zz109 hb); (try clear hb)))
   go_meet
   case rel => exact ⟨_, (true), zz209, H', ⟨by first | omega | exact Nat.le_refl _⟩, ⟨by (with_reducible repeat (first | refine blk_drewN ?_ _ | refine blk_drew ?_ | refine blk_alloc ?_ _)); exact BKA.out⟩, ⟨by repeat (first | (with_reducible first | exact HB.out | apply below_alloc | apply pw_below_drewN | apply below_drew1 | refine below_set ?_ GEA.out) | exact HB.out)⟩⟩
 case rest =>
  clear HC5; try clear c1
  try clear p2
  try clear c4
  try clear c7
  try clear c8
  try clear c10
  try clear c12
  try clear hcz15_0
  try clear hcz15_1
  try clear hcz18_0
  try clear hcz18_1
  try clear hcz21_0
  try clear hcz21_1
  try clear hfz15_0
  try clear hfz15_1
  try clear hfz18_0
  try clear hfz18_1
  try clear hfz21_0
  try clear hfz21_1
  obtain ⟨kq, x30_4, rfl, HA, HJ4, BKA, HB⟩ := hcut; cases kq with
  | zero => exact absurd HA.out (by simp [impl_RoundedOrbit.j0])
  | succ kj4 =>
   have H := HA.out; clear HA; simp only [impl_RoundedOrbit.j0] at H; by_cases c24 : x30_4 = true
   ·subst c24; have H1 : (some (([] : List (S47)), false)) = some (r1, r2) := by rw [if_pos rfl] at H; exact H
    clear H; have H := H1; clear H1; simp only [Option.some.injEq, Prod.mk.injEq] at H; obtain ⟨rfl, rfl⟩ := H; go_wp2
    go_ret2
    exact ⟨_, by first | rfl | (simp [errW_none, errW_some] <;> rfl) | (simp [*, errW_none, errW_some] <;> rfl), by first | exact Kd.R_nil _ _ _ _ _ | exact Kd.N_nil _ _ _ _ _ | exact Kd.V_nil _ _ _ _ _ | exact Kd.Q_nil _ _ _ _ _ | exact Kd.S_nil _ _ _ _ _, by repeat (first | (with_reducible first | exact HB.out | apply below_alloc | apply pw_below_drewN | apply below_drew1 | refine below_set ?_ GEA.out) | exact HB.out)⟩
   ·replace c24 := Bool.eq_false_iff.mpr c24; subst c24; have H1 : (impl_RoundedOrbit.l0 kj4 l0 a3 (([(⟨a1_0, a1_1⟩ : S47)] : List (S47))) a2 0 a1_0 a1_1 false) = some (r1, r2) := by rw [if_neg (show ¬ (false = true) by decide)] at H; exact H
    clear H; have H := H1; clear H1; obtain ⟨yM, hyM⟩ : ∃ y_ : List (S47), y_ = (([(⟨a1_0, a1_1⟩ : S47)] : List (S47))) := ⟨_, rfl⟩; replace H : (impl_RoundedOrbit.l0 kj4 l0 a3 yM a2 0 a1_0 a1_1 false) = some (r1, r2) := by first | (rw [hyM]; with_reducible exact H) | (have H2_ := (Option.bind_some _ _).symm.trans H; rw [hyM]; with_reducible exact H2_) | (have H2_ := (Option.bind_some _ _).symm.trans H; with_reducible exact H2_) | with_reducible exact H | (rw [hyM]; exact H) | exact H
    have NyM := Aside0.mk hyM; clear hyM; have H' := Aside0.mk H; clear H; go_wp2_with (first | ((with_reducible refine gate_dst (N := 10) rfl ?_); refine box_event ?hg (N := 10) ?hd (cs := #[.bool false]) (t := 92) ?hr ?_; (case hd => rfl); (case hg => rfl); (case hr => first | (go_simp; done) | (go_simp; rfl)); intro gbB hg w25 hbox hb; have n0_ := blkA BKA hb; have n1_ := Aside0.mk (below_step zz109 hb); have n2_ := nltA BKA hg; have n3_ := ngtA BKA hg; have n4_ := Aside0.mk ((show IsS92 w w25 gbB false from ⟨hbox, (by rw [hg]; exact (below_size zz109))⟩)); clear BKA; clear HB; have BKA := n0_; have HB := n1_; have NBA_B := n2_; have NBB_A := n3_; have HIB := n4_; clear n0_ n1_ n2_ n3_ n4_; clear hb hbox hg; have hnb26 := NBA_B.out; have hnc26 := NBB_A.out; have hcz27_0 : w25.cell? ⟨gbA, 0, none⟩ = some (.int .i64 a1_0) := (blk_cell BKA.out 0).trans rfl; have hcz27_1 : w25.cell? ⟨gbA, 1, none⟩ = some (.int .i64 a1_1) := (blk_cell BKA.out 1).trans rfl; have hfz27_0 := blk_frozen BKA.out 0; have hfz27_1 := blk_frozen BKA.out 1) | ((with_reducible refine gate_dst (N := 32) rfl ?_); refine Kd.R_lit k47 _ 47 ?hg (N := 32) ?hd (xs := ([(⟨a1_0, a1_1⟩ : S47)] : List (S47))) (inner := [.int .i64 a1_0, .int .i64 a1_1]) (ok := fun _ => True) (okp := fun _ => True) ?hr ?hp (fun _ hk => hk) trivial (Below.refl _ _) (Nat.le_refl _) (by simp) ?_; (case hd => rfl); (case hg => rfl); (case hr => first | (go_simp; done) | (go_simp; rfl)); (case hp => exact (Reps.c2 (show Kd.M k47 _ _ _ (⟨a1_0, a1_1⟩ : S47) [.int .i64 a1_0, .int .i64 a1_1] from (k47_mkM _ _ _ (⟨a1_0, a1_1⟩ : S47) )) (Reps.none _ _))); intro vN w28 ho29 hb hg_ hnew_; clear hg_ hnew_; (first | rw [← NyM.out] at ho29 | (simp only [Int.reduceToNat] at ho29; rw [← NyM.out] at ho29)); have n0_ := Aside0.mk (Kd.R_lower (Kd.R_newB ho29 (g := gbA) (o := .cells #[.int .i64 a1_0, .int .i64 a1_1] 47 (0, 0)) zz167) (below_size zz67)); have n2_ := Aside0.mk (IsS92.below zz69 hb); clear HIB; have HOO := n0_; have HIB := n2_; clear n0_ n2_; replace BKA := blkA BKA hb; replace HB := Aside0.mk (below_step zz67 hb); clear hb ho29))
    go_loopg [11, 34] kj4 (fun kq v11 v34 w' => ∃ (x11_2 : List (S47)) (x34_2 : Int) (xF_2 : Int) (xE_2 : Int) (xP_2 : Bool), v34 = .int .i64 x34_2 ∧ Aside0 (impl_RoundedOrbit.l0 kq l0 a3 x11_2 a2 x34_2 xF_2 xE_2 xP_2 = some (r1, r2)) ∧ Aside0 (kq ≤ kj4) ∧ Aside0 (Kd.R k47 47 w' w.heap.size (fun k_ => k_ ≠ gbA) v11 x11_2) ∧ Aside0 (w'.heap[gbA]? = some (.cells #[.int .i64 xF_2, .int .i64 xE_2] 47 (0, 0))) ∧ Aside0 (IsS92 w w' gbB xP_2) ∧ Aside0 (Below w.heap.size w w'))
    case atStart => exact ⟨(yM), (0), (a1_0), (a1_1), (false), zz209, H', ⟨Nat.le_refl _⟩, ⟨by (with_reducible repeat (first | apply Kd.R_alloc | apply Kd.R_drewN | apply Kd.R_drew)); exact Kd.R_mono HOO.out (fun _ hk => hk.2)⟩, ⟨by (with_reducible repeat (first | refine blk_drewN ?_ _ | refine blk_drew ?_ | refine blk_alloc ?_ _)); exact BKA.out⟩, ⟨by repeat (first | (with_reducible first | exact HIB.out | apply IsS92.alloc | apply IsS92.drewN | apply IsS92.drew | apply IsS92.set_0 | apply IsS92.far (hne := NBB_A.out)) | exact HIB.out)⟩, ⟨by repeat (first | (with_reducible first | exact HB.out | apply below_alloc | apply pw_below_drewN | apply below_drew1 | refine below_set ?_ (IsS92.ge HIB.out) | refine below_set ?_ GEA.out) | exact HB.out)⟩⟩
    case round =>
     clear H'; try clear c1
     try clear c2
     try clear p2
     try clear c4
     try clear c7
     try clear c8
     try clear c10
     try clear c12
     try clear c24
     try clear c26
     try clear hcz15_0
     try clear hcz15_1
     try clear hcz18_0
     try clear hcz18_1
     try clear hcz21_0
     try clear hcz21_1
     try clear hcz27_0
     try clear hcz27_1
     try clear hfz15_0
     try clear hfz15_1
     try clear hfz18_0
     try clear hfz18_1
     try clear hfz21_0
     try clear hfz21_1
     try clear hfz27_0
     try clear hfz27_1
     try clear p2
     obtain ⟨x11_2, x34_2, xF_2, xE_2, xP_2, rfl, HA, HK2, HO_11, BKA, HIB, HB⟩ := hrel; cases gk with
     | zero => exact absurd HA.out (by simp [impl_RoundedOrbit.l0])
     | succ k2 =>
      have H := HA.out; clear HA; simp only [impl_RoundedOrbit.l0] at H; by_cases c30 : x34_2 < a2
      ·rw [if_pos c30] at H; have c30b0 : decide (x34_2 < a2) = true := decide_eq_true c30; clear c30; replace H := Option.bind_eq_some_iff.mp H; obtain ⟨⟨tQ, tR, tS⟩, AT, H⟩ := H; replace H : (if tS = true then (some (([] : List (S47)), false)) else ((impl_RoundDownTo.f k2 tQ tR a3).bind fun btU => ((impl_calc_keep.f tS btU.1 btU.2.1 btU.2.2).bind fun btD => (if x11_2.length < 8796093022208 then (impl_RoundedOrbit.l0 k2 l0 a3 (x11_2 ++ [(⟨btD.1, btD.2.1⟩ : S47)]) a2 (wrap64 (x34_2 + 1)) btD.1 btD.2.1 btD.2.2) else (none))))) = some (r1, r2) := H; have A31 := Aside0.mk AT; clear AT; by_cases c32 : tS = true
       ·subst c32; have H1 : (some (([] : List (S47)), false)) = some (r1, r2) := by rw [if_pos rfl] at H; exact H
        clear H; have H := H1; clear H1; simp only [Option.some.injEq, Prod.mk.injEq] at H; obtain ⟨rfl, rfl⟩ := H; have hnb33 := NBA_B.out; have hnc33 := NBB_A.out; have hcz34_0 : wr.cell? ⟨gbA, 0, none⟩ = some (.int .i64 xF_2) := (blk_cell BKA.out 0).trans rfl; have hcz34_1 : wr.cell? ⟨gbA, 1, none⟩ = some (.int .i64 xE_2) := (blk_cell BKA.out 1).trans rfl; have hfz34_0 := blk_frozen BKA.out 0; have hfz34_1 := blk_frozen BKA.out 1; go_wp2_with (first | ((with_reducible refine gate_callee (f := 106) rfl ?_); refine goesL_ (some 38) rfl rfl Try.func106 (by kernel_rfl) rfl #[.pointer (some ⟨gbB, 0, none⟩), .slice A0 l0.length c0, .agg #[.int .i64 xF_2, .int .i64 xE_2]] rfl zz140 ?_; (with_reducible refine (impl_calc_value.calls k2 gbB xP_2 _ _ l0 xF_2 xE_2 tQ tR true w _ ?side1 ?side2 ?side3 ?side4 A31.out).mono ?_); (case side1 => repeat (first | (with_reducible first | exact HIB.out | apply IsS92.alloc | apply IsS92.drewN | apply IsS92.drew | apply IsS92.set_0 | apply IsS92.far (hne := NBB_A.out)) | exact HIB.out)); (case side2 => repeat (first | (with_reducible first | exact HB.out | apply below_alloc | apply pw_below_drewN | apply below_drew1 | refine below_set ?_ (IsS92.ge HIB.out) | refine below_set ?_ GEA.out) | exact HB.out)); (case side3 => exact Kd.C_foot_came k79_heap HR0.out zz67 (IsS92.ge HIB.out)); (case side4 => exact HC0.out); rintro e w35 ⟨rfl, hi, hb, hk⟩; refine ⟨_, rfl, ?_⟩; have n0_ := Aside0.mk (Kd.R_mono (Kd.R_keep (IsS92.apart (show IsS92 w _ gbB xP_2 from by repeat (first | (with_reducible first | exact HIB.out | apply IsS92.alloc | apply IsS92.drewN | apply IsS92.drew | apply IsS92.set_0 | apply IsS92.far (hne := NBB_A.out)) | exact HIB.out)) zz194 (by decide)) hk (fun _ h => h.2)) (fun _ h => h.1)); have n1_ := Aside0.mk (KeepBut.blk hk (g' := gbA) (o := .cells #[.int .i64 xF_2, .int .i64 xE_2] 47 (0, 0)) zz167 NBA_B.out (by simp)); clear HO_11 BKA; have HO_11 := n0_; have BKA := n1_; clear n0_ n1_; replace HIB := Aside0.mk (hi); replace HB := Aside0.mk (hb); (try clear hb); (try clear hk); (try clear hi)) | ((with_reducible refine gate_dst (N := 12) rfl ?_); refine box_event ?hg (N := 12) ?hd (cs := #[.int .i64 0, .int .i64 0]) (t := 47) ?hr ?_; (case hd => rfl); (case hg => rfl); (case hr => first | (go_simp; done) | (go_simp; rfl)); intro gbC hg w36 hbox hb; have n0_ := Aside0.mk (Kd.R_below (Kd.R_elderB zz194 gbC (Nat.le_of_eq hg.symm)) hb); have n1_ := blkA BKA hb; have n2_ := Aside0.mk (IsS92.below zz69 hb); have n3_ := Aside0.mk (below_step zz67 hb); have n4_ := Aside0.mk (hbox); have n5_ := gwA (below_size zz67) hg; have n6_ := gwA (below_size zz67) hg; have n7_ := nltA BKA hg; have n8_ := ngtA BKA hg; have n9_ := Aside0.mk ((by rw [hg]; exact Nat.ne_of_lt (IsS92.lt (show IsS92 w _ gbB true from by repeat (first | (with_reducible first | exact HIB.out | apply IsS92.alloc | apply IsS92.drewN | apply IsS92.drew | apply IsS92.set_0 | apply IsS92.far (hne := NBB_A.out)) | exact HIB.out))) : gbB ≠ gbC)); have n10_ := Aside0.mk ((by rw [hg]; exact Nat.ne_of_gt (IsS92.lt (show IsS92 w _ gbB true from by repeat (first | (with_reducible first | exact HIB.out | apply IsS92.alloc | apply IsS92.drewN | apply IsS92.drew | apply IsS92.set_0 | apply IsS92.far (hne := NBB_A.out)) | exact HIB.out))) : gbC ≠ gbB)); clear HO_11; clear BKA; clear HIB; clear HB; have HO_11 := n0_; have BKA := n1_; have HIB := n2_; have HB := n3_; have BKC := n4_; have GWC := n5_; have GEC := n6_; have NBA_C := n7_; have NBC_A := n8_; have NBB_C := n9_; have NBC_B := n10_; clear n0_ n1_ n2_ n3_ n4_ n5_ n6_ n7_ n8_ n9_ n10_; clear hb hbox hg; have hnb37 := NBC_A.out; have hnc37 := NBA_C.out; have hnb38 := NBC_B.out; have hnc38 := NBB_C.out; have hcz39_0 : w36.cell? ⟨gbC, 0, none⟩ = some (.int .i64 0) := (blk_cell BKC.out 0).trans rfl; have hcz39_1 : w36.cell? ⟨gbC, 1, none⟩ = some (.int .i64 0) := (blk_cell BKC.out 1).trans rfl; have hfz39_0 := blk_frozen BKC.out 0; have hfz39_1 := blk_frozen BKC.out 1; obtain ⟨HGz40, hgz40⟩ := HIB.out; have hcz40_0 := cellS92_0 HGz40; have hfz40_0 := blk_frozen HGz40 0; clear HGz40 hgz40))
        go_ret2
        exact ⟨_, by first | rfl | (simp [errW_none, errW_some] <;> rfl) | (simp [*, errW_none, errW_some] <;> rfl), by first | exact Kd.R_nil _ _ _ _ _ | exact Kd.N_nil _ _ _ _ _ | exact Kd.V_nil _ _ _ _ _ | exact Kd.Q_nil _ _ _ _ _ | exact Kd.S_nil _ _ _ _ _, by repeat (first | (with_reducible first | exact HB.out | apply below_alloc | apply pw_below_drewN | apply below_drew1 | refine below_set ?_ (IsS92.ge HIB.out) | refine below_set ?_ GEA.out | refine below_set ?_ GEC.out) | exact HB.out)⟩
       ·replace c32 := Bool.eq_false_iff.mpr c32; subst c32; have H1 : ((impl_RoundDownTo.f k2 tQ tR a3).bind fun btU => ((impl_calc_keep.f false btU.1 btU.2.1 btU.2.2).bind fun btD => (if x11_2.length < 8796093022208 then (impl_RoundedOrbit.l0 k2 l0 a3 (x11_2 ++ [(⟨btD.1, btD.2.1⟩ : S47)]) a2 (wrap64 (x34_2 + 1)) btD.1 btD.2.1 btD.2.2) else (none)))) = some (r1, r2) := by rw [if_neg (show ¬ (false = true) by decide)] at H; exact H
        clear H; have H := H1; clear H1; replace H := Option.bind_eq_some_iff.mp H; obtain ⟨⟨tU, tV, tW⟩, AX, H⟩ := H; replace H : ((impl_calc_keep.f false tU tV tW).bind fun btD => (if x11_2.length < 8796093022208 then (impl_RoundedOrbit.l0 k2 l0 a3 (x11_2 ++ [(⟨btD.1, btD.2.1⟩ : S47)]) a2 (wrap64 (x34_2 + 1)) btD.1 btD.2.1 btD.2.2) else (none))) = some (r1, r2) := H; have A41 := Aside0.mk AX; clear AX; replace H := Option.bind_eq_some_iff.mp H; obtain ⟨⟨tD, tY, tZ⟩, AAA, H⟩ := H; replace H : (if x11_2.length < 8796093022208 then (impl_RoundedOrbit.l0 k2 l0 a3 (x11_2 ++ [(⟨tD, tY⟩ : S47)]) a2 (wrap64 (x34_2 + 1)) tD tY tZ) else (none)) = some (r1, r2) := H; have A42 := Aside0.mk AAA; clear AAA; by_cases c43 : x11_2.length < 8796093022208
        ·rw [if_pos c43] at H; have LMc43 := Aside0.mk c43; clear c43; obtain ⟨yAB, hyAB⟩ : ∃ y_ : List (S47), y_ = (x11_2 ++ [(⟨tD, tY⟩ : S47)]) := ⟨_, rfl⟩; replace H : (impl_RoundedOrbit.l0 k2 l0 a3 yAB a2 (wrap64 (x34_2 + 1)) tD tY tZ) = some (r1, r2) := by first | (rw [hyAB]; with_reducible exact H) | (have H2_ := (Option.bind_some _ _).symm.trans H; rw [hyAB]; with_reducible exact H2_) | (have H2_ := (Option.bind_some _ _).symm.trans H; with_reducible exact H2_) | with_reducible exact H | (rw [hyAB]; exact H) | exact H
         have NyAB := Aside0.mk hyAB; clear hyAB; have H' := Aside0.mk H; clear H; have hnb44 := NBA_B.out; have hnc44 := NBB_A.out; have hcz45_0 : wr.cell? ⟨gbA, 0, none⟩ = some (.int .i64 xF_2) := (blk_cell BKA.out 0).trans rfl; have hcz45_1 : wr.cell? ⟨gbA, 1, none⟩ = some (.int .i64 xE_2) := (blk_cell BKA.out 1).trans rfl; have hfz45_0 := blk_frozen BKA.out 0; have hfz45_1 := blk_frozen BKA.out 1; go_wp2_with (first | ((with_reducible refine gate_callee (f := 106) rfl ?_); refine goesL_ (some 38) rfl rfl Try.func106 (by kernel_rfl) rfl #[.pointer (some ⟨gbB, 0, none⟩), .slice A0 l0.length c0, .agg #[.int .i64 xF_2, .int .i64 xE_2]] rfl zz140 ?_; (with_reducible refine (impl_calc_value.calls k2 gbB xP_2 _ _ l0 xF_2 xE_2 tQ tR false w _ ?side1 ?side2 ?side3 ?side4 A31.out).mono ?_); (case side1 => repeat (first | (with_reducible first | exact HIB.out | apply IsS92.alloc | apply IsS92.drewN | apply IsS92.drew | apply IsS92.set_0 | apply IsS92.far (hne := NBB_A.out)) | exact HIB.out)); (case side2 => repeat (first | (with_reducible first | exact HB.out | apply below_alloc | apply pw_below_drewN | apply below_drew1 | refine below_set ?_ (IsS92.ge HIB.out) | refine below_set ?_ GEA.out) | exact HB.out)); (case side3 => exact Kd.C_foot_came k79_heap HR0.out zz67 (IsS92.ge HIB.out)); (case side4 => exact HC0.out); rintro e w46 ⟨rfl, hi, hb, hk⟩; refine ⟨_, rfl, ?_⟩; have n0_ := Aside0.mk (Kd.R_mono (Kd.R_keep (IsS92.apart (show IsS92 w _ gbB xP_2 from by repeat (first | (with_reducible first | exact HIB.out | apply IsS92.alloc | apply IsS92.drewN | apply IsS92.drew | apply IsS92.set_0 | apply IsS92.far (hne := NBB_A.out)) | exact HIB.out)) zz194 (by decide)) hk (fun _ h => h.2)) (fun _ h => h.1)); have n1_ := Aside0.mk (KeepBut.blk hk (g' := gbA) (o := .cells #[.int .i64 xF_2, .int .i64 xE_2] 47 (0, 0)) zz167 NBA_B.out (by simp)); clear HO_11 BKA; have HO_11 := n0_; have BKA := n1_; clear n0_ n1_; replace HIB := Aside0.mk (hi); replace HB := Aside0.mk (hb); (try clear hb); (try clear hk); (try clear hi)) | ((with_reducible refine gate_dst (N := 12) rfl ?_); refine box_event ?hg (N := 12) ?hd (cs := #[.int .i64 0, .int .i64 0]) (t := 47) ?hr ?_; (case hd => rfl); (case hg => rfl); (case hr => first | (go_simp; done) | (go_simp; rfl)); intro gbC hg w47 hbox hb; have n0_ := Aside0.mk (Kd.R_below (Kd.R_elderB zz194 gbC (Nat.le_of_eq hg.symm)) hb); have n1_ := blkA BKA hb; have n2_ := Aside0.mk (IsS92.below zz69 hb); have n3_ := Aside0.mk (below_step zz67 hb); have n4_ := Aside0.mk (hbox); have n5_ := gwA (below_size zz67) hg; have n6_ := gwA (below_size zz67) hg; have n7_ := nltA BKA hg; have n8_ := ngtA BKA hg; have n9_ := Aside0.mk ((by rw [hg]; exact Nat.ne_of_lt (IsS92.lt (show IsS92 w _ gbB false from by repeat (first | (with_reducible first | exact HIB.out | apply IsS92.alloc | apply IsS92.drewN | apply IsS92.drew | apply IsS92.set_0 | apply IsS92.far (hne := NBB_A.out)) | exact HIB.out))) : gbB ≠ gbC)); have n10_ := Aside0.mk ((by rw [hg]; exact Nat.ne_of_gt (IsS92.lt (show IsS92 w _ gbB false from by repeat (first | (with_reducible first | exact HIB.out | apply IsS92.alloc | apply IsS92.drewN | apply IsS92.drew | apply IsS92.set_0 | apply IsS92.far (hne := NBB_A.out)) | exact HIB.out))) : gbC ≠ gbB)); clear HO_11; clear BKA; clear HIB; clear HB; have HO_11 := n0_; have BKA := n1_; have HIB := n2_; have HB := n3_; have BKC := n4_; have GWC := n5_; have GEC := n6_; have NBA_C := n7_; have NBC_A := n8_; have NBB_C := n9_; have NBC_B := n10_; clear n0_ n1_ n2_ n3_ n4_ n5_ n6_ n7_ n8_ n9_ n10_; clear hb hbox hg; have hnb48 := NBC_A.out; have hnc48 := NBA_C.out; have hnb49 := NBC_B.out; have hnc49 := NBB_C.out; have hcz50_0 : w47.cell? ⟨gbC, 0, none⟩ = some (.int .i64 0) := (blk_cell BKC.out 0).trans rfl; have hcz50_1 : w47.cell? ⟨gbC, 1, none⟩ = some (.int .i64 0) := (blk_cell BKC.out 1).trans rfl; have hfz50_0 := blk_frozen BKC.out 0; have hfz50_1 := blk_frozen BKC.out 1; obtain ⟨HGz51, hgz51⟩ := HIB.out; have hcz51_0 := cellS92_0 HGz51; have hfz51_0 := blk_frozen HGz51 0; clear HGz51 hgz51) | ((with_reducible refine gate_callee (f := 107) rfl ?_); refine goesL_ (some 43) rfl rfl Try.func107 (by kernel_rfl) rfl #[.agg #[.int .i64 tQ, .int .i64 tR], .int .i64 a3] rfl zz140 ?_; (with_reducible refine (impl_RoundDownTo.calls k2 tQ tR a3 tU tV tW _ A41.out).mono ?_); rintro e w52 ⟨rfl, hb⟩; refine ⟨_, rfl, ?_⟩; have n0_ := Aside0.mk (Kd.R_below (by (with_reducible repeat (first | apply Kd.R_alloc | apply Kd.R_drewN | apply Kd.R_drew)); exact (Kd.R_mono (Kd.R_far (p := ⟨gbC, 1, none⟩) (Kd.R_far (p := ⟨gbC, 0, none⟩) (Kd.R_mono HO_11.out (fun k_ hk => (⟨hk, hk.2⟩ : _ ∧ k_ ≠ gbC))) (fun _ hk => hk.2) (.int .i64 tQ)) (fun _ hk => hk.2) (.int .i64 tR)) (fun _ h_ => h_.1))) hb); have n1_ := Aside0.mk (blk_below (g := gbA) (o := .cells #[.int .i64 xF_2, .int .i64 xE_2] 47 (0, 0)) (by (with_reducible repeat (first | refine blk_drewN ?_ _ | refine blk_drew ?_ | refine blk_alloc ?_ _)); refine blk_far ?_ NBA_C.out _; (with_reducible repeat (first | refine blk_drewN ?_ _ | refine blk_drew ?_ | refine blk_alloc ?_ _)); refine blk_far ?_ NBA_C.out _; (with_reducible repeat (first | refine blk_drewN ?_ _ | refine blk_drew ?_ | refine blk_alloc ?_ _)); exact BKA.out) hb); have n2_ := Aside0.mk (IsS92.below (show IsS92 w ((w47.setCell ⟨gbC, 0, none⟩ (.int .i64 tQ)).setCell ⟨gbC, 1, none⟩ (.int .i64 tR)) gbB false from by repeat (first | (with_reducible first | exact HIB.out | apply IsS92.alloc | apply IsS92.drewN | apply IsS92.drew | apply IsS92.set_0 | apply IsS92.far (hne := NBB_A.out) | apply IsS92.far (hne := NBB_C.out)) | exact HIB.out)) hb); have n3_ := Aside0.mk (blk_below (g := gbC) (o := .cells #[.int .i64 tQ, .int .i64 tR] 47 (0, 0)) (by (with_reducible repeat (first | refine blk_drewN ?_ _ | refine blk_drew ?_ | refine blk_alloc ?_ _)); refine blk_put (cs := #[.int .i64 tQ, .int .i64 0]) ?_ 1 _ rfl; (with_reducible repeat (first | refine blk_drewN ?_ _ | refine blk_drew ?_ | refine blk_alloc ?_ _)); refine blk_put (cs := #[.int .i64 0, .int .i64 0]) ?_ 0 _ rfl; (with_reducible repeat (first | refine blk_drewN ?_ _ | refine blk_drew ?_ | refine blk_alloc ?_ _)); exact BKC.out) hb); clear HO_11 BKA HIB BKC; have HO_11 := n0_; have BKA := n1_; have HIB := n2_; have BKC := n3_; clear n0_ n1_ n2_ n3_; replace HB := Aside0.mk (below_step zz50 hb); (try clear hb)) | ((with_reducible refine gate_callee (f := 90) rfl ?_); refine goesL_ (some 46) rfl rfl Try.func90 (by kernel_rfl) rfl #[.pointer (some ⟨gbB, 0, none⟩), .agg #[.int .i64 tU, .int .i64 tV], .bool tW] rfl zz140 ?_; (with_reducible refine (impl_calc_keep.calls gbB false tU tV tW tD tY tZ w _ ?side1 ?side2 A42.out).mono ?_); (case side1 => repeat (first | (with_reducible first | exact HIB.out | apply IsS92.alloc | apply IsS92.drewN | apply IsS92.drew | apply IsS92.set_0 | apply IsS92.far (hne := NBB_A.out) | apply IsS92.far (hne := NBB_C.out)) | exact HIB.out)); (case side2 => repeat (first | (with_reducible first | exact HB.out | apply below_alloc | apply pw_below_drewN | apply below_drew1 | refine below_set ?_ (IsS92.ge HIB.out) | refine below_set ?_ GEA.out | refine below_set ?_ GEC.out) | exact HB.out)); rintro e w53 ⟨rfl, hi, hb, hk⟩; refine ⟨_, rfl, ?_⟩; have n0_ := Aside0.mk (Kd.R_mono (Kd.R_keep (IsS92.apart (show IsS92 w _ gbB false from by repeat (first | (with_reducible first | exact HIB.out | apply IsS92.alloc | apply IsS92.drewN | apply IsS92.drew | apply IsS92.set_0 | apply IsS92.far (hne := NBB_A.out) | apply IsS92.far (hne := NBB_C.out)) | exact HIB.out)) zz194 (by decide)) hk (fun _ h => h.2)) (fun _ h => h.1)); have n1_ := Aside0.mk (KeepBut.blk hk (g' := gbA) (o := .cells #[.int .i64 xF_2, .int .i64 xE_2] 47 (0, 0)) zz167 NBA_B.out (by simp)); have n2_ := Aside0.mk (KeepBut.blk hk (g' := gbC) (o := .cells #[.int .i64 tQ, .int .i64 tR] 47 (0, 0)) (by (with_reducible repeat (first | refine blk_drewN ?_ _ | refine blk_drew ?_ | refine blk_alloc ?_ _)); exact BKC.out) NBC_B.out (by simp)); clear HO_11 BKA BKC; have HO_11 := n0_; have BKA := n1_; have BKC := n2_; clear n0_ n1_ n2_; replace HIB := Aside0.mk (hi); replace HB := Aside0.mk (hb); (try clear hb); (try clear hk); (try clear hi); have hcz54_0 : w53.cell? ⟨gbA, 0, none⟩ = some (.int .i64 xF_2) := (blk_cell BKA.out 0).trans rfl; have hcz54_1 : w53.cell? ⟨gbA, 1, none⟩ = some (.int .i64 xE_2) := (blk_cell BKA.out 1).trans rfl; have hfz54_0 := blk_frozen BKA.out 0; have hfz54_1 := blk_frozen BKA.out 1) | ((with_reducible refine gate_builtin (b := .append) (xs := #[.tmp 47, .tmp 49]) rfl ?_); at_builtin; refine Kd.R_append k47 (w0 := w) w.heap.size rfl (.tmp 47) (.tmp 49) 24 47 (.agg #[(.int .i64 0), (.int .i64 0)]) 16 rfl Try.underlying24 info47 rfl (by decide) (by omega) u11 x11_2 (⟨tD, tY⟩ : S47) [.int .i64 tD, .int .i64 tY] (fun k_ => k_ ≠ gbA ∧ k_ ≠ gbC) (fun _ => False) rfl (by first | (go_simp; done) | (go_simp; rfl)) ?aP (fun _ hk => hk.elim) ?aF ?aO ?aB ?aS ?aL ?_; (case aP => exact k47_mkM _ _ _ (⟨tD, tY⟩ : S47)); (case aB => exact zz50); (case aF => exact (fun k_ hk => ⟨Kd.freshB (g := gbA) (o := .cells #[.int .i64 tD, .int .i64 tY] 47 (0, 0)) zz11 k_ hk, Kd.freshB (g := gbC) (o := .cells #[.int .i64 tQ, .int .i64 tR] 47 (0, 0)) zz21 k_ hk⟩)); (case aO => exact (by (with_reducible repeat (first | apply Kd.R_alloc | apply Kd.R_drewN | apply Kd.R_drew)); exact Kd.R_mono (Kd.R_far (p := ⟨gbA, 1, none⟩) (Kd.R_far (p := ⟨gbA, 0, none⟩) (Kd.R_mono HO_11.out (fun k_ hk => (⟨hk, hk.1⟩ : _ ∧ k_ ≠ gbA))) (fun _ hk => hk.2) (.int .i64 tD)) (fun _ hk => hk.2) (.int .i64 tY)) (fun _ hk => ⟨hk.1.1, hk.1.2⟩))); (case aS => exact (below_size zz50)); (case aL => have := LMc43.out; omega); intro vAC w55 ho hb hg hat; rw [← NyAB.out] at ho; have n0_ := Aside0.mk (blk_grown (g := gbA) (o := .cells #[.int .i64 tD, .int .i64 tY] 47 (0, 0)) zz11 hg (Kd.R_away HO_11.out (fun _ hk => hk.1))); have n1_ := Aside0.mk (IsS92.grown (by repeat (first | (with_reducible first | exact HIB.out | apply IsS92.alloc | apply IsS92.drewN | apply IsS92.drew | apply IsS92.set_0 | apply IsS92.far (hne := NBB_A.out) | apply IsS92.far (hne := NBB_C.out)) | exact HIB.out)) hg (IsS92.own_ne HIB.out HO_11.out (by decide))); have n2_ := Aside0.mk (blk_grown (g := gbC) (o := .cells #[.int .i64 tQ, .int .i64 tR] 47 (0, 0)) zz21 hg (Kd.R_away HO_11.out (fun _ hk => hk.2))); have n4_ := Aside0.mk (ho); clear BKA HIB BKC HO_11; have BKA := n0_; have HIB := n1_; have BKC := n2_; have HOAD := n4_; clear n0_ n1_ n2_ n4_; replace HB := Aside0.mk (hb); clear ho hb hg hat))
         go_roundg k2
         case measure => have := HJ4.out; have := HK2.out; omega
         case rel => exact ⟨(yAB), (wrap64 (x34_2 + 1)), (tD), (tY), (tZ), zz209, H', ⟨by have := HJ4.out; have := HK2.out; omega⟩, ⟨by (with_reducible repeat (first | apply Kd.R_alloc | apply Kd.R_drewN | apply Kd.R_drew)); exact Kd.R_mono HOAD.out (fun _ hk => hk.1)⟩, ⟨by (with_reducible repeat (first | refine blk_drewN ?_ _ | refine blk_drew ?_ | refine blk_alloc ?_ _)); exact BKA.out⟩, ⟨by repeat (first | (with_reducible first | exact HIB.out | apply IsS92.alloc | apply IsS92.drewN | apply IsS92.drew | apply IsS92.set_0 | apply IsS92.far (hne := NBB_A.out) | apply IsS92.far (hne := NBB_C.out)) | exact HIB.out)⟩, ⟨by repeat (first | (with_reducible first | exact HB.out | apply below_alloc | apply pw_below_drewN | apply below_drew1 | refine below_set ?_ (IsS92.ge HIB.out) | refine below_set ?_ GEA.out | refine below_set ?_ GEC.out) | exact HB.out)⟩⟩
        ·rw [if_neg c43] at H; exact absurd H (by simp)
      ·rw [if_neg c30] at H; have c30b0 : decide (x34_2 < a2) = false := decide_eq_false c30; clear c30; simp only [Option.some.injEq, Prod.mk.injEq] at H; obtain ⟨rfl, rfl⟩ := H; go_wp2
       go_ret2
       exact ⟨_, by first | rfl | (simp [errW_none, errW_some] <;> rfl) | (simp [*, errW_none, errW_some] <;> rfl), by (with_reducible repeat (first | apply Kd.R_alloc | apply Kd.R_drewN | apply Kd.R_drew)); exact Kd.R_mono HO_11.out (fun _ hk => trivial), by repeat (first | (with_reducible first | exact HB.out | apply below_alloc | apply pw_below_drewN | apply below_drew1 | refine below_set ?_ (IsS92.ge HIB.out) | refine below_set ?_ GEA.out) | exact HB.out)⟩
end Go.Proofs.Ytgejkhbehoabdaa.Q
namespace Go.Proofs.Ytgejkhbehoabdaa.Q
open Go.RowKit Go.Proofs.YtgejkhbehoabdaaW.PrintWords Go.Proofs.YtgejkhbehoabdaaW.PrintLast Go.Proofs.YtgejkhbehoabdaaW.PrintMore
attribute [local go_sem] max2_int min2_int max_two min_two max_three min_three max_four min_four   -- for this text's walks alone
set_option linter.unusedVariables false
set_option linter.unusedSimpArgs false
mutual
def laws_FnExactRoundedOrbit.j0 : Nat → List (S87) → Int → Int → List (S47) → Bool → List (S79) → List (S47) → Bool → Bool → Int → Int → Option (Bool)
 | 0, _, _, _, _, _, _, _, _, _, _, _ => none
 | k + 1, x0, x2, x3, x10, x11, x12, x13, x14, x54, xA, xB => if x54 = true then (some false) else ((laws_toPointS.f k x0).bind fun tC => ((laws_eqPointS.f k x12 tC).bind fun tD => (if tD = true then ((laws_markPointS.f k x12 1).bind fun btE => (if btE.1 < 0 then (laws_FnExactRoundedOrbit.j1 k x0 x2 x3 x10 x11 x13 true xA xB) else ((laws_eqRatS.f k x13 x10).bind fun tF => (if tF = true then (laws_FnExactRoundedOrbit.j1 k x0 x2 x3 x10 x11 x13 (x14 != x11) xA xB) else (laws_FnExactRoundedOrbit.j1 k x0 x2 x3 x10 x11 x13 true xA xB))))) else (some false))))
def laws_FnExactRoundedOrbit.j1 : Nat → List (S87) → Int → Int → List (S47) → Bool → List (S47) → Bool → Int → Int → Option (Bool)
 | 0, _, _, _, _, _, _, _, _, _ => none
 | k + 1, x0, x2, x3, x10, x11, x13, x75, xA, xB => if x75 = true then (some false) else ((laws_markRatS.f k x13 1).bind fun btC => ((laws_heldRatS.f k btC.2 1).bind fun tD => (if tD < 0 then (some false) else (if tD = btC.1 then ((laws_toPointS.f k x0).bind fun tE => ((laws_toRat.f xA xB).bind fun btF => ((impl_RoundedOrbit.f k tE btF.1 btF.2 x2 x3).bind fun btG => ((laws_eqRatS.f k btG.1 x10).bind fun tH => (if tH = true then (laws_FnExactRoundedOrbit.j2 k btC.2 btC.1 (btG.2 != x11)) else (laws_FnExactRoundedOrbit.j2 k btC.2 btC.1 true)))))) else (some false)))))
def laws_FnExactRoundedOrbit.j2 : Nat → List (S47) → Int → Bool → Option (Bool)
 | 0, _, _, _ => none
 | k + 1, x13, x16, xA => if xA = true then (some false) else ((laws_heldRatS.f k x13 1).bind fun tB => (if tB < 0 then (some false) else (if tB = x16 then (some true) else (some false))))
end
def laws_FnExactRoundedOrbit.f (k : Nat) (l0 : List (S87)) (a1_0 : Int) (a1_1 : Int) (a2 : Int) (a3 : Int) : Option (Bool) := (laws_szPointS.f l0 1048576).bind fun tA => (if tA < 0 then (some true) else ((laws_toPointS.f k l0).bind fun tB => ((laws_toRat.f a1_0 a1_1).bind fun btC => ((spec_RoundedOrbit.f k tB btC.1 btC.2 a2 a3).bind fun btD => ((laws_toPointS.f k l0).bind fun tE => ((laws_toRat.f a1_0 a1_1).bind fun btF => ((impl_RoundedOrbit.f k tE btF.1 btF.2 a2 a3).bind fun btG => ((laws_eqRatS.f k btG.1 btD.1).bind fun tH => (if tH = true then (laws_FnExactRoundedOrbit.j0 k l0 a2 a3 btD.1 btD.2 tE btG.1 btG.2 (btG.2 != btD.2) a1_0 a1_1) else (laws_FnExactRoundedOrbit.j0 k l0 a2 a3 btD.1 btD.2 tE btG.1 btG.2 true a1_0 a1_1))))))))))
def laws_FnExactRoundedOrbit.T5 : Bool × List (List Nat × List Nat) := (true, [([], []), ([0], [0]), ([], []), ([2, 1], [2]), ([], []), ([], []), ([1, 3, 4, 5, 3], [1, 3, 4, 5]), ([6], [6]), ([7], [7]), ([7], [7]), ([8, 6, 0, 1, 2, 3, 4, 5, 6, 7, 8], [8]), ([9, 10, 0, 1, 2, 3, 4, 5, 6, 7, 8, 9, 10], [9])])
def laws_FnExactRoundedOrbit.B5 : List Nat := [0, 1, 0, 7, 0, 0, 63, 127, 255, 255, 511, 2047]
theorem laws_FnExactRoundedOrbit.tab5 : rtab .any (opsOf Try.f11 5) = laws_FnExactRoundedOrbit.T5 := by kernel_rfl
theorem laws_FnExactRoundedOrbit.bits5 : waitsOk laws_FnExactRoundedOrbit.T5.2 laws_FnExactRoundedOrbit.B5 = true := by kernel_rfl
def laws_FnExactRoundedOrbit.T24 : Bool × List (List Nat × List Nat) := (true, [([], []), ([0], [0]), ([], []), ([2, 1], [2]), ([], []), ([], []), ([1, 3, 4, 5, 3], [1, 3, 4, 5]), ([6], [6]), ([7], [7]), ([7], [7]), ([8, 6, 0, 1, 2, 3, 4, 5, 6, 7, 8], [8]), ([9, 10, 0, 1, 2, 3, 4, 5, 6, 7, 8, 9, 10], [9])])
def laws_FnExactRoundedOrbit.B24 : List Nat := [0, 1, 0, 7, 0, 0, 63, 127, 255, 255, 511, 2047]
theorem laws_FnExactRoundedOrbit.tab24 : rtab .any (opsOf Try.f11 24) = laws_FnExactRoundedOrbit.T24 := by kernel_rfl
theorem laws_FnExactRoundedOrbit.bits24 : waitsOk laws_FnExactRoundedOrbit.T24.2 laws_FnExactRoundedOrbit.B24 = true := by kernel_rfl
theorem zz196 {p : Prop} (h : p := by (with_reducible repeat (first | apply Kd.R_alloc | apply Kd.R_drewN | apply Kd.R_drew)); exact HO_13.out) : p := h
theorem zz195 {p : Prop} (h : p := by (with_reducible repeat (first | apply Kd.R_alloc | apply Kd.R_drewN | apply Kd.R_drew)); exact HO_12.out) : p := h
theorem zz189 {p : Prop} (h : p := by (with_reducible repeat (first | apply Kd.R_alloc | apply Kd.R_drewN | apply Kd.R_drew)); exact HOA.out) : p := h
theorem zz188 {p : Prop} (h : p := by (with_reducible repeat (first | apply Kd.R_alloc | apply Kd.R_drewN | apply Kd.R_drew)); exact HOB.out) : p := h
theorem zz187 {p : Prop} (h : p := by (with_reducible repeat (first | apply Kd.R_alloc | apply Kd.R_drewN | apply Kd.R_drew)); exact HOC.out) : p := h
theorem zz186 {p : Prop} (h : p := by (with_reducible repeat (first | apply Kd.R_alloc | apply Kd.R_drewN | apply Kd.R_drew)); exact HOD.out) : p := h
theorem zz185 {p : Prop} (h : p := by (with_reducible repeat (first | apply Kd.R_alloc | apply Kd.R_drewN | apply Kd.R_drew)); exact HOE.out) : p := h
theorem zz184 {p : Prop} (h : p := by (with_reducible repeat (first | apply Kd.R_alloc | apply Kd.R_drewN | apply Kd.R_drew)); exact HOF.out) : p := h
theorem zz183 {p : Prop} (h : p := by (with_reducible repeat (first | apply Kd.R_alloc | apply Kd.R_drewN | apply Kd.R_drew)); exact HOG.out) : p := h
theorem zz168 {p : Prop} (h : p := by (with_reducible repeat (first | refine blk_drewN ?_ _ | refine blk_drew ?_ | refine blk_alloc ?_ _)); exact BKH.out) : p := h
theorem zz110 {p : Prop} (h : p := by repeat (first | (with_reducible first | exact HB.out | apply below_alloc | apply pw_below_drewN | apply below_drew1 | refine below_set ?_ GEH.out) | exact HB.out)) : p := h
theorem zz59 {p : Prop} (h : p := by (try simp only [List.map_toArray, List.map_cons, List.map_nil]); first | done | (rw [show tI.length = tJ.length from (Kd.R_reads' HO_13.out).1.symm] <;> rfl) | rfl | (simp only [List.length_drop, List.length_take]; rfl)) : p := h
set_option maxHeartbeats 8000000 in
set_option maxRecDepth 100000 in
theorem laws_FnExactRoundedOrbit.calls (k : Nat) (A0 : Option Addr) (c0 : Nat) (l0 : List (S87)) (a1_0 : Int) (a1_1 : Int) (a2 : Int) (a3 : Int) (r : Bool) (w : World) (hr0 : Kd.C k87 w A0 l0.length l0) (hc0 : l0.length ≤ c0) (h : laws_FnExactRoundedOrbit.f k l0 a1_0 a1_1 a2 a3 = some r) :
  Calls Try.prog 11 #[.slice A0 l0.length c0, .agg #[.int .i64 a1_0, .int .i64 a1_1], .int .i64 a2, .int .i64 a3] w fun e w' => e = .returned (.bool r) ∧ Below w.heap.size w w' := by
 have hu43 := Try.underlying43; have HR0 := Aside0.mk hr0; have HC0 := Aside0.mk hc0; clear hr0 hc0; have HB := Aside0.mk (Below.refl w.heap.size w); have H : ((laws_szPointS.f l0 1048576).bind fun tK => (if tK < 0 then (some true) else ((laws_toPointS.f k l0).bind fun tL => ((laws_toRat.f a1_0 a1_1).bind fun btM => ((spec_RoundedOrbit.f k tL btM.1 btM.2 a2 a3).bind fun btN => ((laws_toPointS.f k l0).bind fun tO => ((laws_toRat.f a1_0 a1_1).bind fun btP => ((impl_RoundedOrbit.f k tO btP.1 btP.2 a2 a3).bind fun btJ => ((laws_eqRatS.f k btJ.1 btN.1).bind fun tQ => (if tQ = true then (laws_FnExactRoundedOrbit.j0 k l0 a2 a3 btN.1 btN.2 tO btJ.1 btJ.2 (btJ.2 != btN.2) a1_0 a1_1) else (laws_FnExactRoundedOrbit.j0 k l0 a2 a3 btN.1 btN.2 tO btJ.1 btJ.2 true a1_0 a1_1))))))))))) = some r := h; clear h; replace H := Option.bind_eq_some_iff.mp H; obtain ⟨tK, A50, H⟩ := H; replace H : (if tK < 0 then (some true) else ((laws_toPointS.f k l0).bind fun tL => ((laws_toRat.f a1_0 a1_1).bind fun btM => ((spec_RoundedOrbit.f k tL btM.1 btM.2 a2 a3).bind fun btN => ((laws_toPointS.f k l0).bind fun tO => ((laws_toRat.f a1_0 a1_1).bind fun btP => ((impl_RoundedOrbit.f k tO btP.1 btP.2 a2 a3).bind fun btJ => ((laws_eqRatS.f k btJ.1 btN.1).bind fun tQ => (if tQ = true then (laws_FnExactRoundedOrbit.j0 k l0 a2 a3 btN.1 btN.2 tO btJ.1 btJ.2 (btJ.2 != btN.2) a1_0 a1_1) else (laws_FnExactRoundedOrbit.j0 k l0 a2 a3 btN.1 btN.2 tO btJ.1 btJ.2 true a1_0 a1_1)))))))))) = some r := H; have A5 := Aside0.mk A50; clear A50; by_cases c6 : tK < 0
 ·rw [if_pos c6] at H; have c6b0 : decide (tK < 0) = true := decide_eq_true c6; clear c6; obtain rfl := Option.some.inj H; go_enter Try.func11, Try.ntmps11
  go_wp2_with (first | ((with_reducible refine gate_dst (N := 5) rfl ?_); refine box_event ?hg (N := 5) ?hd (cs := #[.int .i64 a1_0, .int .i64 a1_1]) (t := 43) ?hr ?_; (case hd => rfl); (case hg => rfl); (case hr => first | (go_simp; done) | (go_simp; rfl)); intro gbH hg w7 hbox hb; have n2_ := gwA (below_size zz141) hg; have n3_ := gwA (below_size zz141) hg; have GWH := n2_; have GEH := n3_; clear n2_ n3_; have BKH := Aside0.mk (hbox); replace HB := Aside0.mk (below_step zz141 hb); clear hb hbox hg) | ((with_reducible refine gate_callee (f := 30) rfl ?_); refine goesL_ (some 22) rfl rfl Try.func30 (by kernel_rfl) rfl #[.slice A0 l0.length c0, .int .i64 1048576] rfl zz140 ?_; (with_reducible refine (laws_szPointS.calls _ _ l0 1048576 tK _ ?side1 ?side2 A5.out).mono ?_); (case side1 => repeat (first | exact (Kd.C_below HR0.out HB.out) | (with_reducible refine Kd.C_alloc ?_ _) | (with_reducible refine Kd.C_drewN ?_ _) | (with_reducible refine Kd.C_drew ?_))); (case side2 => exact HC0.out); rintro e w' ⟨rfl, ⟨nd, rfl⟩⟩; refine ⟨_, rfl, ?_⟩))
  go_ret
  exact ⟨by first | rfl | (simp [errW_none, errW_some] <;> rfl) | (simp [*, errW_none, errW_some] <;> rfl), by repeat (first | (with_reducible first | exact HB.out | apply below_alloc | apply pw_below_drewN | apply below_drew1 | refine below_set ?_ GEH.out) | exact HB.out)⟩
 ·rw [if_neg c6] at H; have c6b0 : decide (tK < 0) = false := decide_eq_false c6; clear c6; replace H := Option.bind_eq_some_iff.mp H; obtain ⟨tL, A80, H⟩ := H; replace H : ((laws_toRat.f a1_0 a1_1).bind fun btM => ((spec_RoundedOrbit.f k tL btM.1 btM.2 a2 a3).bind fun btN => ((laws_toPointS.f k l0).bind fun tO => ((laws_toRat.f a1_0 a1_1).bind fun btP => ((impl_RoundedOrbit.f k tO btP.1 btP.2 a2 a3).bind fun btJ => ((laws_eqRatS.f k btJ.1 btN.1).bind fun tQ => (if tQ = true then (laws_FnExactRoundedOrbit.j0 k l0 a2 a3 btN.1 btN.2 tO btJ.1 btJ.2 (btJ.2 != btN.2) a1_0 a1_1) else (laws_FnExactRoundedOrbit.j0 k l0 a2 a3 btN.1 btN.2 tO btJ.1 btJ.2 true a1_0 a1_1)))))))) = some r := H; have A8 := Aside0.mk A80; clear A80; replace H := Option.bind_eq_some_iff.mp H; obtain ⟨⟨tM, tR⟩, A90, H⟩ := H; replace H : ((spec_RoundedOrbit.f k tL tM tR a2 a3).bind fun btN => ((laws_toPointS.f k l0).bind fun tO => ((laws_toRat.f a1_0 a1_1).bind fun btP => ((impl_RoundedOrbit.f k tO btP.1 btP.2 a2 a3).bind fun btJ => ((laws_eqRatS.f k btJ.1 btN.1).bind fun tQ => (if tQ = true then (laws_FnExactRoundedOrbit.j0 k l0 a2 a3 btN.1 btN.2 tO btJ.1 btJ.2 (btJ.2 != btN.2) a1_0 a1_1) else (laws_FnExactRoundedOrbit.j0 k l0 a2 a3 btN.1 btN.2 tO btJ.1 btJ.2 true a1_0 a1_1))))))) = some r := H; have A9 := Aside0.mk A90; clear A90; replace H := Option.bind_eq_some_iff.mp H; obtain ⟨⟨tN, tS⟩, AT, H⟩ := H; replace H : ((laws_toPointS.f k l0).bind fun tO => ((laws_toRat.f a1_0 a1_1).bind fun btP => ((impl_RoundedOrbit.f k tO btP.1 btP.2 a2 a3).bind fun btJ => ((laws_eqRatS.f k btJ.1 tN).bind fun tQ => (if tQ = true then (laws_FnExactRoundedOrbit.j0 k l0 a2 a3 tN tS tO btJ.1 btJ.2 (btJ.2 != tS) a1_0 a1_1) else (laws_FnExactRoundedOrbit.j0 k l0 a2 a3 tN tS tO btJ.1 btJ.2 true a1_0 a1_1)))))) = some r := H; have A10 := Aside0.mk AT; clear AT; replace H := Option.bind_eq_some_iff.mp H; obtain ⟨tO, AU, H⟩ := H; replace H : ((laws_toRat.f a1_0 a1_1).bind fun btP => ((impl_RoundedOrbit.f k tO btP.1 btP.2 a2 a3).bind fun btJ => ((laws_eqRatS.f k btJ.1 tN).bind fun tQ => (if tQ = true then (laws_FnExactRoundedOrbit.j0 k l0 a2 a3 tN tS tO btJ.1 btJ.2 (btJ.2 != tS) a1_0 a1_1) else (laws_FnExactRoundedOrbit.j0 k l0 a2 a3 tN tS tO btJ.1 btJ.2 true a1_0 a1_1))))) = some r := H; have A11 := Aside0.mk AU; clear AU; replace H := Option.bind_eq_some_iff.mp H; obtain ⟨⟨tP, tV⟩, AW, H⟩ := H; replace H : ((impl_RoundedOrbit.f k tO tP tV a2 a3).bind fun btJ => ((laws_eqRatS.f k btJ.1 tN).bind fun tQ => (if tQ = true then (laws_FnExactRoundedOrbit.j0 k l0 a2 a3 tN tS tO btJ.1 btJ.2 (btJ.2 != tS) a1_0 a1_1) else (laws_FnExactRoundedOrbit.j0 k l0 a2 a3 tN tS tO btJ.1 btJ.2 true a1_0 a1_1)))) = some r := H; have A12 := Aside0.mk AW; clear AW; replace H := Option.bind_eq_some_iff.mp H; obtain ⟨⟨tJ, tX⟩, AY, H⟩ := H; replace H : ((laws_eqRatS.f k tJ tN).bind fun tQ => (if tQ = true then (laws_FnExactRoundedOrbit.j0 k l0 a2 a3 tN tS tO tJ tX (tX != tS) a1_0 a1_1) else (laws_FnExactRoundedOrbit.j0 k l0 a2 a3 tN tS tO tJ tX true a1_0 a1_1))) = some r := H; have A13 := Aside0.mk AY; clear AY; have HC14 := Aside0.mk H; clear H; go_enter Try.func11, Try.ntmps11
  try go_wp2_with (first | ((with_reducible refine gate_dst (N := 5) rfl ?_); refine box_event ?hg (N := 5) ?hd (cs := #[.int .i64 a1_0, .int .i64 a1_1]) (t := 43) ?hr ?_; (case hd => rfl); (case hg => rfl); (case hr => first | (go_simp; done) | (go_simp; rfl)); intro gbH hg w15 hbox hb; have n2_ := gwA (below_size zz141) hg; have n3_ := gwA (below_size zz141) hg; have GWH := n2_; have GEH := n3_; clear n2_ n3_; have BKH := Aside0.mk (hbox); replace HB := Aside0.mk (below_step zz141 hb); clear hb hbox hg) | ((with_reducible refine gate_callee (f := 30) rfl ?_); refine goesL_ (some 22) rfl rfl Try.func30 (by kernel_rfl) rfl #[.slice A0 l0.length c0, .int .i64 1048576] rfl zz140 ?_; (with_reducible refine (laws_szPointS.calls _ _ l0 1048576 tK _ ?side1 ?side2 A5.out).mono ?_); (case side1 => repeat (first | exact (Kd.C_below HR0.out HB.out) | (with_reducible refine Kd.C_alloc ?_ _) | (with_reducible refine Kd.C_drewN ?_ _) | (with_reducible refine Kd.C_drew ?_))); (case side2 => exact HC0.out); rintro e w' ⟨rfl, ⟨nd, rfl⟩⟩; refine ⟨_, rfl, ?_⟩))
  (try (rw [drewN_self w15]; generalize hq_ : World.drewN w15 _ = w15; have n0_ : Aside0 (w15.heap[gbH]? = some (.cells #[.int .i64 a1_0, .int .i64 a1_1] 43 (0, 0))) := ⟨by rw [← hq_]; exact zz168⟩; have n1_ : Aside0 (Below w.heap.size w w15) := ⟨by rw [← hq_]; exact zz110⟩; clear BKH HB hq_; have BKH := n0_; have HB := n1_; clear n0_ n1_)); replace BKH := Aside0.mk (blk_drew BKH.out); replace HB := Aside0.mk (below_drew1 HB.out); refine start_ (n := 12) (S := fun w' => w'.cell? ⟨gbH, 0, none⟩ = some (.int .i64 a1_0) ∧ w'.cell? ⟨gbH, 1, none⟩ = some (.int .i64 a1_1)) (ds := []) #[fF, fF, fF, fF, fF, fF, fF, fF, fF, fF, fF, fF] (by kernel_rfl) rfl rfl ⟨(blk_cell BKH.out 0).trans rfl, (blk_cell BKH.out 1).trans rfl⟩ (fun hHeld => ?_); refine with_tabW laws_FnExactRoundedOrbit.tab5 laws_FnExactRoundedOrbit.bits5 (fun HT_ HW_ => ?_); generalize w15.drew = w16 at BKH HB hHeld ⊢; refine pureA 0 (some 26) #[tT, fF, fF, fF, fF, fF, fF, fF, fF, fF, fF, fF] HT_ ?_; refine pureA 4 (some 30) #[tT, fF, fF, fF, tT, fF, fF, fF, fF, fF, fF, fF] HT_ ?_; refine pureA 5 (some 31) #[tT, fF, fF, fF, tT, tT, fF, fF, fF, fF, fF, fF] HT_ ?_; refine takeA5 2 (some 28) #[tT, fF, tT, fF, tT, tT, fF, fF, fF, fF, fF, fF] HT_ HW_ hHeld ?_; refine one_ (i := 1) (N := some 27) #[tT, tT, tT, fF, tT, tT, fF, fF, fF, fF, fF, fF] rfl rfl (one_of HT_.out (by kernel_rfl)) (by decide) (fun K hK => ?_); refine goes_ Try.func32 (by kernel_rfl) rfl #[.slice A0 l0.length c0] (by rfl) rfl rfl zz140 ?_; with_reducible refine (laws_toPointS.calls k _ _ l0 tL _ ?side1 ?side2 A8.out).mono ?_
  (case side1 => repeat (first | exact (Kd.C_below HR0.out HB.out) | (with_reducible refine Kd.C_alloc ?_ _) | (with_reducible refine Kd.C_drewN ?_ _) | (with_reducible refine Kd.C_drew ?_))); (case side2 => exact HC0.out); rintro e w17 ⟨vZ, rfl, ho0, hb⟩; refine ⟨_, rfl, ?_⟩; have n0_ := Aside0.mk (Kd.R_lower ho0 (below_size zz110)); have HOG := n0_; clear n0_; replace BKH := blkA BKH hb; replace HB := Aside0.mk (below_step zz110 hb); (try clear hb); (try clear ho0); refine hK.out _ _ ⟨(blk_cell BKH.out 0).trans rfl, (blk_cell BKH.out 1).trans rfl⟩ (fun hHeld => ?_); clear hK K; refine normA (some 27) ?_; refine one_ (i := 3) (N := some 29) #[tT, tT, tT, tT, tT, tT, fF, fF, fF, fF, fF, fF] rfl rfl (one_of HT_.out (by kernel_rfl)) (by decide) (fun K hK => ?_); refine goes_ Try.func33 (by kernel_rfl) rfl #[.agg #[.int .i64 a1_0, .int .i64 a1_1]] (by rfl) rfl rfl zz140 ?_; with_reducible refine (laws_toRat.calls a1_0 a1_1 tM tR _ A9.out).mono ?_
  rintro e w18 ⟨rfl, hb⟩; refine ⟨_, rfl, ?_⟩; have n0_ := Aside0.mk (Kd.R_below zz183 hb); clear HOG; have HOG := n0_; clear n0_; replace BKH := blkA BKH hb; replace HB := Aside0.mk (below_step zz110 hb); (try clear hb); obtain ⟨Ao19, co19, eo19⟩ := Kd.R_slice HOG.out; (first | subst eo19 | (injection eo19 with f1_ f2_ f3_; have f4_ := f1_.symm; have f5_ := f3_.symm; clear f1_ f2_ f3_; subst f4_; subst f5_))
  refine hK.out _ _ ⟨(blk_cell BKH.out 0).trans rfl, (blk_cell BKH.out 1).trans rfl⟩ (fun hHeld => ?_); clear hK K; refine normA (some 29) ?_; refine one_ (i := 6) (N := some 32) #[tT, tT, tT, tT, tT, tT, tT, fF, fF, fF, fF, fF] rfl rfl (one_of HT_.out (by kernel_rfl)) (by decide) (fun K hK => ?_); refine goes_ Try.func47 (by kernel_rfl) rfl #[.slice Ao19 tL.length co19, .agg #[.int .i64 tM, .int .i64 tR], .int .i64 a2, .int .i64 a3] (by rfl) rfl rfl zz140 ?_; with_reducible refine (spec_RoundedOrbit.calls k _ _ tL tM tR a2 a3 tN tS _ ?side1 ?side2 A10.out).mono ?_
  (case side1 => repeat (first | exact (Kd.R_reads' HOG.out).2.2 | (with_reducible refine Kd.C_alloc ?_ _) | (with_reducible refine Kd.C_drewN ?_ _) | (with_reducible refine Kd.C_drew ?_))); (case side2 => exact (Kd.R_reads' HOG.out).2.1); rintro e w20 ⟨vAA, rfl, ho0, hb⟩; refine ⟨_, rfl, ?_⟩; have n0_ := Aside0.mk (Kd.R_below zz183 hb); have n1_ := Aside0.mk (Kd.R_lower ho0 (below_size zz110)); clear HOG; have HOG := n0_; have HOF := n1_; clear n0_ n1_; replace BKH := blkA BKH hb; replace HB := Aside0.mk (below_step zz110 hb); (try clear hb); (try clear ho0); refine hK.out _ _ ⟨(blk_cell BKH.out 0).trans rfl, (blk_cell BKH.out 1).trans rfl⟩ (fun hHeld => ?_); clear hK K; refine normA (some 32) ?_; refine pureA 7 (some 25) #[tT, tT, tT, tT, tT, tT, tT, tT, fF, fF, fF, fF] HT_ ?_; refine pureA 8 (some 33) #[tT, tT, tT, tT, tT, tT, tT, tT, tT, fF, fF, fF] HT_ ?_; refine pureA 9 (some 34) #[tT, tT, tT, tT, tT, tT, tT, tT, tT, tT, fF, fF] HT_ ?_; refine pureA 10 (some 10) #[tT, tT, tT, tT, tT, tT, tT, tT, tT, tT, tT, fF] HT_ ?_; refine pureA 11 (some 11) #[tT, tT, tT, tT, tT, tT, tT, tT, tT, tT, tT, tT] HT_ ?_; refine done_ (done_of HT_.out (by kernel_rfl)) ?_; go_upto_region 8 with (first | ((with_reducible refine gate_callee (f := 32) rfl ?_); refine goesL_ (some 36) rfl rfl Try.func32 (by kernel_rfl) rfl #[.slice A0 l0.length c0] rfl zz140 ?_; (with_reducible refine (laws_toPointS.calls k _ _ l0 tO _ ?side1 ?side2 A11.out).mono ?_); (case side1 => repeat (first | exact (Kd.C_below HR0.out HB.out) | (with_reducible refine Kd.C_alloc ?_ _) | (with_reducible refine Kd.C_drewN ?_ _) | (with_reducible refine Kd.C_drew ?_))); (case side2 => exact HC0.out); rintro e w21 ⟨vAB, rfl, ho0, hb⟩; refine ⟨_, rfl, ?_⟩; have n0_ := Aside0.mk (Kd.R_elder' zz183 (Kd.R_base ho0) hb); have n1_ := Aside0.mk (Kd.R_below zz184 hb); have n2_ := Aside0.mk (Kd.R_lower (Kd.R_new' ho0 (Kd.R_lt zz183)) (below_size zz110)); clear HOG HOF; have HOG := n0_; have HOF := n1_; have HOE := n2_; clear n0_ n1_ n2_; replace BKH := blkA BKH hb; replace HB := Aside0.mk (below_step zz110 hb); (try clear hb); (try clear ho0); have hcz22_0 : w21.cell? ⟨gbH, 0, none⟩ = some (.int .i64 a1_0) := (blk_cell BKH.out 0).trans rfl; have hcz22_1 : w21.cell? ⟨gbH, 1, none⟩ = some (.int .i64 a1_1) := (blk_cell BKH.out 1).trans rfl; have hfz22_0 := blk_frozen BKH.out 0; have hfz22_1 := blk_frozen BKH.out 1) | ((with_reducible refine gate_callee (f := 33) rfl ?_); refine goesL_ (some 40) rfl rfl Try.func33 (by kernel_rfl) rfl #[.agg #[.int .i64 a1_0, .int .i64 a1_1]] rfl zz140 ?_; (with_reducible refine (laws_toRat.calls a1_0 a1_1 tP tV _ A12.out).mono ?_); rintro e w23 ⟨rfl, hb⟩; refine ⟨_, rfl, ?_⟩; have n0_ := Aside0.mk (Kd.R_below zz183 hb); have n1_ := Aside0.mk (Kd.R_below zz184 hb); have n2_ := Aside0.mk (Kd.R_below zz185 hb); clear HOG HOF HOE; have HOG := n0_; have HOF := n1_; have HOE := n2_; clear n0_ n1_ n2_; replace BKH := blkA BKH hb; replace HB := Aside0.mk (below_step zz110 hb); (try clear hb); obtain ⟨Ao24, co24, eo24⟩ := Kd.R_slice HOE.out; subst eo24) | ((with_reducible refine gate_callee (f := 48) rfl ?_); refine goesL_ (some 43) rfl rfl Try.func48 (by kernel_rfl) rfl #[.slice Ao24 tO.length co24, .agg #[.int .i64 tP, .int .i64 tV], .int .i64 a2, .int .i64 a3] rfl zz140 ?_; (with_reducible refine (impl_RoundedOrbit.calls k _ _ tO tP tV a2 a3 tJ tX _ ?side1 ?side2 A13.out).mono ?_); (case side1 => repeat (first | exact (Kd.R_reads' HOE.out).2.2 | (with_reducible refine Kd.C_alloc ?_ _) | (with_reducible refine Kd.C_drewN ?_ _) | (with_reducible refine Kd.C_drew ?_))); (case side2 => exact (Kd.R_reads' HOE.out).2.1); rintro e w25 ⟨vAC, rfl, ho0, hb⟩; refine ⟨_, rfl, ?_⟩; have n0_ := Aside0.mk (Kd.R_below zz183 hb); have n1_ := Aside0.mk (Kd.R_elder' zz184 (Kd.R_base ho0) hb); have n2_ := Aside0.mk (Kd.R_below zz185 hb); have n3_ := Aside0.mk (Kd.R_lower (Kd.R_new' ho0 (Kd.R_lt zz184)) (below_size zz110)); clear HOG HOF HOE; have HOG := n0_; have HOF := n1_; have HOE := n2_; have HOD := n3_; clear n0_ n1_ n2_ n3_; replace BKH := blkA BKH hb; replace HB := Aside0.mk (below_step zz110 hb); (try clear hb); (try clear ho0)))
  (try simp only [Act.put, List.setIfInBounds_toArray, List.set_cons_zero, List.set_cons_succ]); go_cut [54] (fun v54 wc => ∃ (kq : Nat) (x54_13 : Bool), v54 = .bool x54_13 ∧ Aside0 (laws_FnExactRoundedOrbit.j0 kq l0 a2 a3 tN tS tO tJ tX x54_13 a1_0 a1_1 = some r) ∧ Aside0 (kq ≤ k) ∧ Aside0 (Kd.R k47 47 wc w.heap.size (fun k_ => some k_ ≠ (vAC : Value).ownBlock) vAA tN) ∧ Aside0 (Kd.R k79 79 wc w.heap.size (fun _ => True) (.slice Ao24 tO.length co24) tO) ∧ Aside0 (Kd.R k47 47 wc w.heap.size (fun k_ => some k_ ≠ (vAA : Value).ownBlock) vAC tJ) ∧ Aside0 (wc.heap[gbH]? = some (.cells #[.int .i64 a1_0, .int .i64 a1_1] 43 (0, 0))) ∧ Aside0 (Below w.heap.size w wc))
  case first =>
   have H := HC14.out; clear HC14; replace H := Option.bind_eq_some_iff.mp H; obtain ⟨tQ, AAD, H⟩ := H; replace H : (if tQ = true then (laws_FnExactRoundedOrbit.j0 k l0 a2 a3 tN tS tO tJ tX (tX != tS) a1_0 a1_1) else (laws_FnExactRoundedOrbit.j0 k l0 a2 a3 tN tS tO tJ tX true a1_0 a1_1)) = some r := H; have A26 := Aside0.mk AAD; clear AAD; by_cases c27 : tQ = true
   ·subst c27; have H1 : (laws_FnExactRoundedOrbit.j0 k l0 a2 a3 tN tS tO tJ tX (tX != tS) a1_0 a1_1) = some r := by rw [if_pos rfl] at H; exact H
    clear H; have H := H1; clear H1; have H' := Aside0.mk H; clear H; obtain ⟨Ao28, co28, eo28⟩ := Kd.R_slice HOD.out; subst eo28; obtain ⟨Ao29, co29, eo29⟩ := Kd.R_slice HOF.out; subst eo29; go_wp2_with (first | ((with_reducible refine gate_callee (f := 19) rfl ?_); refine goesL_ (some 48) rfl rfl Try.func19 (by kernel_rfl) rfl #[.slice Ao28 tJ.length co28, .slice Ao29 tN.length co29] rfl zz140 ?_; (with_reducible refine (laws_eqRatS.calls k _ _ tJ _ _ tN true _ ?side1 ?side2 ?side3 ?side4 A26.out).mono ?_); (case side1 => repeat (first | exact (Kd.R_reads' HOD.out).2.2 | (with_reducible refine Kd.C_alloc ?_ _) | (with_reducible refine Kd.C_drewN ?_ _) | (with_reducible refine Kd.C_drew ?_))); (case side2 => exact (Kd.R_reads' HOD.out).2.1); (case side3 => repeat (first | exact (Kd.R_reads' HOF.out).2.2 | (with_reducible refine Kd.C_alloc ?_ _) | (with_reducible refine Kd.C_drewN ?_ _) | (with_reducible refine Kd.C_drew ?_))); (case side4 => exact (Kd.R_reads' HOF.out).2.1); rintro e w30 ⟨rfl, hb⟩; refine ⟨_, rfl, ?_⟩; have n0_ := Aside0.mk (Kd.R_below zz183 hb); have n1_ := Aside0.mk (Kd.R_below zz184 hb); have n2_ := Aside0.mk (Kd.R_below zz185 hb); have n3_ := Aside0.mk (Kd.R_below zz186 hb); clear HOG HOF HOE HOD; have HOG := n0_; have HOF := n1_; have HOE := n2_; have HOD := n3_; clear n0_ n1_ n2_ n3_; replace BKH := blkA BKH hb; replace HB := Aside0.mk (below_step zz110 hb); (try clear hb)))
    go_meet
    case rel => exact ⟨_, ((tX != tS)), zz209, H', ⟨by first | omega | exact Nat.le_refl _⟩, ⟨by (with_reducible repeat (first | apply Kd.R_alloc | apply Kd.R_drewN | apply Kd.R_drew)); exact Kd.R_mono HOF.out (fun _ hk => hk.2)⟩, ⟨by (with_reducible repeat (first | apply Kd.R_alloc | apply Kd.R_drewN | apply Kd.R_drew)); exact Kd.R_mono HOE.out (fun _ hk => trivial)⟩, ⟨by (with_reducible repeat (first | apply Kd.R_alloc | apply Kd.R_drewN | apply Kd.R_drew)); exact Kd.R_mono HOD.out (fun _ hk => hk.2)⟩, ⟨by (with_reducible repeat (first | refine blk_drewN ?_ _ | refine blk_drew ?_ | refine blk_alloc ?_ _)); exact BKH.out⟩, ⟨by repeat (first | (with_reducible first | exact HB.out | apply below_alloc | apply pw_below_drewN | apply below_drew1 | refine below_set ?_ GEH.out) | exact HB.out)⟩⟩
   ·replace c27 := Bool.eq_false_iff.mpr c27; subst c27; have H1 : (laws_FnExactRoundedOrbit.j0 k l0 a2 a3 tN tS tO tJ tX true a1_0 a1_1) = some r := by rw [if_neg (show ¬ (false = true) by decide)] at H; exact H
    clear H; have H := H1; clear H1; have H' := Aside0.mk H; clear H; obtain ⟨Ao31, co31, eo31⟩ := Kd.R_slice HOD.out; subst eo31; obtain ⟨Ao32, co32, eo32⟩ := Kd.R_slice HOF.out; subst eo32; go_wp2_with (first | ((with_reducible refine gate_callee (f := 19) rfl ?_); refine goesL_ (some 48) rfl rfl Try.func19 (by kernel_rfl) rfl #[.slice Ao31 tJ.length co31, .slice Ao32 tN.length co32] rfl zz140 ?_; (with_reducible refine (laws_eqRatS.calls k _ _ tJ _ _ tN false _ ?side1 ?side2 ?side3 ?side4 A26.out).mono ?_); (case side1 => repeat (first | exact (Kd.R_reads' HOD.out).2.2 | (with_reducible refine Kd.C_alloc ?_ _) | (with_reducible refine Kd.C_drewN ?_ _) | (with_reducible refine Kd.C_drew ?_))); (case side2 => exact (Kd.R_reads' HOD.out).2.1); (case side3 => repeat (first | exact (Kd.R_reads' HOF.out).2.2 | (with_reducible refine Kd.C_alloc ?_ _) | (with_reducible refine Kd.C_drewN ?_ _) | (with_reducible refine Kd.C_drew ?_))); (case side4 => exact (Kd.R_reads' HOF.out).2.1); rintro e w33 ⟨rfl, hb⟩; refine ⟨_, rfl, ?_⟩; have n0_ := Aside0.mk (Kd.R_below zz183 hb); have n1_ := Aside0.mk (Kd.R_below zz184 hb); have n2_ := Aside0.mk (Kd.R_below zz185 hb); have n3_ := Aside0.mk (Kd.R_below zz186 hb); clear HOG HOF HOE HOD; have HOG := n0_; have HOF := n1_; have HOE := n2_; have HOD := n3_; clear n0_ n1_ n2_ n3_; replace BKH := blkA BKH hb; replace HB := Aside0.mk (below_step zz110 hb); (try clear hb)))
    go_meet
    case rel => exact ⟨_, (true), zz209, H', ⟨by first | omega | exact Nat.le_refl _⟩, ⟨by (with_reducible repeat (first | apply Kd.R_alloc | apply Kd.R_drewN | apply Kd.R_drew)); exact Kd.R_mono HOF.out (fun _ hk => hk.2)⟩, ⟨by (with_reducible repeat (first | apply Kd.R_alloc | apply Kd.R_drewN | apply Kd.R_drew)); exact Kd.R_mono HOE.out (fun _ hk => trivial)⟩, ⟨by (with_reducible repeat (first | apply Kd.R_alloc | apply Kd.R_drewN | apply Kd.R_drew)); exact Kd.R_mono HOD.out (fun _ hk => hk.2)⟩, ⟨by (with_reducible repeat (first | refine blk_drewN ?_ _ | refine blk_drew ?_ | refine blk_alloc ?_ _)); exact BKH.out⟩, ⟨by repeat (first | (with_reducible first | exact HB.out | apply below_alloc | apply pw_below_drewN | apply below_drew1 | refine below_set ?_ GEH.out) | exact HB.out)⟩⟩
  case rest =>
   clear HC14; try clear c1
   try clear c2
   try clear p2
   try clear c3
   try clear c4
   try clear c6
   try clear c6b0
   try clear c11
   try clear c19
   try clear c27
   try clear c30
   try clear c32
   try clear c33
   try clear hcz22_0
   try clear hcz22_1
   try clear hfz22_0
   try clear hfz22_1
   obtain ⟨kq, x54_13, rfl, HA, HJ13, HO_10, HO_12, HO_13, BKH, HB⟩ := hcut; cases kq with
   | zero => exact absurd HA.out (by simp [laws_FnExactRoundedOrbit.j0])
   | succ kj13 =>
    have H := HA.out; clear HA; simp only [laws_FnExactRoundedOrbit.j0] at H; by_cases c34 : x54_13 = true
    ·subst c34; have H1 : (some false) = some r := by rw [if_pos rfl] at H; exact H
     clear H; have H := H1; clear H1; obtain rfl := Option.some.inj H; go_wp2
     go_ret
     exact ⟨by first | rfl | (simp [errW_none, errW_some] <;> rfl) | (simp [*, errW_none, errW_some] <;> rfl), by repeat (first | (with_reducible first | exact HB.out | apply below_alloc | apply pw_below_drewN | apply below_drew1 | refine below_set ?_ GEH.out) | exact HB.out)⟩
    ·replace c34 := Bool.eq_false_iff.mpr c34; subst c34; have H1 : ((laws_toPointS.f kj13 l0).bind fun tAE => ((laws_eqPointS.f kj13 tO tAE).bind fun tAF => (if tAF = true then ((laws_markPointS.f kj13 tO 1).bind fun btAG => (if btAG.1 < 0 then (laws_FnExactRoundedOrbit.j1 kj13 l0 a2 a3 tN tS tJ true a1_0 a1_1) else ((laws_eqRatS.f kj13 tJ tN).bind fun tAH => (if tAH = true then (laws_FnExactRoundedOrbit.j1 kj13 l0 a2 a3 tN tS tJ (tX != tS) a1_0 a1_1) else (laws_FnExactRoundedOrbit.j1 kj13 l0 a2 a3 tN tS tJ true a1_0 a1_1))))) else (some false)))) = some r := by rw [if_neg (show ¬ (false = true) by decide)] at H; exact H
     clear H; have H := H1; clear H1; replace H := Option.bind_eq_some_iff.mp H; obtain ⟨tAE, AAI, H⟩ := H; replace H : ((laws_eqPointS.f kj13 tO tAE).bind fun tAF => (if tAF = true then ((laws_markPointS.f kj13 tO 1).bind fun btAG => (if btAG.1 < 0 then (laws_FnExactRoundedOrbit.j1 kj13 l0 a2 a3 tN tS tJ true a1_0 a1_1) else ((laws_eqRatS.f kj13 tJ tN).bind fun tAH => (if tAH = true then (laws_FnExactRoundedOrbit.j1 kj13 l0 a2 a3 tN tS tJ (tX != tS) a1_0 a1_1) else (laws_FnExactRoundedOrbit.j1 kj13 l0 a2 a3 tN tS tJ true a1_0 a1_1))))) else (some false))) = some r := H; have A35 := Aside0.mk AAI; clear AAI; replace H := Option.bind_eq_some_iff.mp H; obtain ⟨tAF, AAJ, H⟩ := H; replace H : (if tAF = true then ((laws_markPointS.f kj13 tO 1).bind fun btAG => (if btAG.1 < 0 then (laws_FnExactRoundedOrbit.j1 kj13 l0 a2 a3 tN tS tJ true a1_0 a1_1) else ((laws_eqRatS.f kj13 tJ tN).bind fun tAH => (if tAH = true then (laws_FnExactRoundedOrbit.j1 kj13 l0 a2 a3 tN tS tJ (tX != tS) a1_0 a1_1) else (laws_FnExactRoundedOrbit.j1 kj13 l0 a2 a3 tN tS tJ true a1_0 a1_1))))) else (some false)) = some r := H; have A36 := Aside0.mk AAJ; clear AAJ; by_cases c37 : tAF = true
     ·subst c37; have H1 : ((laws_markPointS.f kj13 tO 1).bind fun btAG => (if btAG.1 < 0 then (laws_FnExactRoundedOrbit.j1 kj13 l0 a2 a3 tN tS tJ true a1_0 a1_1) else ((laws_eqRatS.f kj13 tJ tN).bind fun tAH => (if tAH = true then (laws_FnExactRoundedOrbit.j1 kj13 l0 a2 a3 tN tS tJ (tX != tS) a1_0 a1_1) else (laws_FnExactRoundedOrbit.j1 kj13 l0 a2 a3 tN tS tJ true a1_0 a1_1))))) = some r := by rw [if_pos rfl] at H; exact H
      clear H; have H := H1; clear H1; replace H := Option.bind_eq_some_iff.mp H; obtain ⟨⟨tAG, tAK⟩, AAL, H⟩ := H; replace H : (if tAG < 0 then (laws_FnExactRoundedOrbit.j1 kj13 l0 a2 a3 tN tS tJ true a1_0 a1_1) else ((laws_eqRatS.f kj13 tJ tN).bind fun tAH => (if tAH = true then (laws_FnExactRoundedOrbit.j1 kj13 l0 a2 a3 tN tS tJ (tX != tS) a1_0 a1_1) else (laws_FnExactRoundedOrbit.j1 kj13 l0 a2 a3 tN tS tJ true a1_0 a1_1)))) = some r := H; have A38 := Aside0.mk AAL; clear AAL; have HC39 := Aside0.mk H; clear H; go_upto_region 14 with (first | ((with_reducible refine gate_callee (f := 32) rfl ?_); refine goesL_ (some 57) rfl rfl Try.func32 (by kernel_rfl) rfl #[.slice A0 l0.length c0] rfl zz140 ?_; (with_reducible refine (laws_toPointS.calls kj13 _ _ l0 tAE _ ?side1 ?side2 A35.out).mono ?_); (case side1 => repeat (first | exact (Kd.C_below HR0.out HB.out) | (with_reducible refine Kd.C_alloc ?_ _) | (with_reducible refine Kd.C_drewN ?_ _) | (with_reducible refine Kd.C_drew ?_))); (case side2 => exact HC0.out); rintro e w40 ⟨vAM, rfl, ho0, hb⟩; refine ⟨_, rfl, ?_⟩; have n0_ := Aside0.mk (Kd.R_below zz190 hb); have n1_ := Aside0.mk (Kd.R_elder' zz195 (Kd.R_base ho0) hb); have n2_ := Aside0.mk (Kd.R_below zz196 hb); have n3_ := Aside0.mk (Kd.R_lower (Kd.R_new' ho0 (Kd.R_lt zz195)) (below_size zz110)); clear HO_10 HO_12 HO_13; have HO_10 := n0_; have HO_12 := n1_; have HO_13 := n2_; have HOC := n3_; clear n0_ n1_ n2_ n3_; replace BKH := blkA BKH hb; replace HB := Aside0.mk (below_step zz110 hb); (try clear hb); (try clear ho0); obtain ⟨Ao41, co41, eo41⟩ := Kd.R_slice HOC.out; subst eo41) | ((with_reducible refine gate_callee (f := 25) rfl ?_); refine goesL_ (some 58) rfl rfl Try.func25 (by kernel_rfl) rfl #[.slice Ao24 tO.length co24, .slice Ao41 tAE.length co41] rfl zz140 ?_; (with_reducible refine (laws_eqPointS.calls kj13 _ _ tO _ _ tAE true _ ?side1 ?side2 ?side3 ?side4 A36.out).mono ?_); (case side1 => repeat (first | exact (Kd.R_reads' HO_12.out).2.2 | (with_reducible refine Kd.C_alloc ?_ _) | (with_reducible refine Kd.C_drewN ?_ _) | (with_reducible refine Kd.C_drew ?_))); (case side2 => exact (Kd.R_reads' HO_12.out).2.1); (case side3 => repeat (first | exact (Kd.R_reads' HOC.out).2.2 | (with_reducible refine Kd.C_alloc ?_ _) | (with_reducible refine Kd.C_drewN ?_ _) | (with_reducible refine Kd.C_drew ?_))); (case side4 => exact (Kd.R_reads' HOC.out).2.1); rintro e w42 ⟨rfl, hb⟩; refine ⟨_, rfl, ?_⟩; have n0_ := Aside0.mk (Kd.R_below zz190 hb); have n1_ := Aside0.mk (Kd.R_below zz195 hb); have n2_ := Aside0.mk (Kd.R_below zz196 hb); have n3_ := Aside0.mk (Kd.R_below zz187 hb); clear HO_10 HO_12 HO_13 HOC; have HO_10 := n0_; have HO_12 := n1_; have HO_13 := n2_; have HOC := n3_; clear n0_ n1_ n2_ n3_; replace BKH := blkA BKH hb; replace HB := Aside0.mk (below_step zz110 hb); (try clear hb)) | ((with_reducible refine gate_callee (f := 28) rfl ?_); refine goesL_ (some 62) rfl rfl Try.func28 (by kernel_rfl) rfl #[.slice Ao24 tO.length co24, .int .i64 1] rfl zz140 ?_; (with_reducible refine (laws_markPointS.calls kj13 (fun k_ => some k_ = (.slice Ao24 tO.length co24 : Value).ownBlock) (.slice Ao24 tO.length co24) tO 1 tAG tAK w _ ?side1 ?side2 A38.out).mono ?_); (case side1 => repeat (first | (with_reducible first | exact HB.out | apply below_alloc | apply pw_below_drewN | apply below_drew1 | refine below_set ?_ GEH.out) | exact HB.out)); (case side2 => exact Kd.R_tight rfl HO_12.out); rintro e w43 ⟨rfl, hy0, hb, hkp⟩; refine ⟨_, rfl, ?_⟩; have n0_ := Aside0.mk (Kd.R_mono (ok' := fun k_ => some k_ ≠ (vAC : Value).ownBlock) (Kd.R_keptB ((Kd.R_apart' HO_10.out (Kd.R_typed HO_12.out) (by decide))) hkp (fun k_ hk_ hs_ => (hk_.2) hs_)) (fun k_ hk_ => hk_.1.1)); have n1_ := Aside0.mk (Kd.R_reok rfl hy0 (fun k_ e_ => HO_12.out.1 k_ e_)); have n2_ := Aside0.mk (Kd.R_mono (ok' := fun k_ => some k_ ≠ (vAA : Value).ownBlock) (Kd.R_keptB ((Kd.R_apart' HO_13.out (Kd.R_typed HO_12.out) (by decide))) hkp (fun k_ hk_ hs_ => (hk_.2) hs_)) (fun k_ hk_ => hk_.1.1)); have n3_ := Aside0.mk (blk_kept zz168 hkp (fun hs_ => (fun e_ => (Kd.R_ne HO_12.out BKH.out (by decide)) e_) hs_)); have n4_ := Aside0.mk (Kd.R_mono (ok' := fun k_ => some k_ ≠ (.slice Ao24 tO.length co24 : Value).ownBlock) (Kd.R_keptB (HOC.out) hkp (fun k_ hk_ hs_ => (hk_.2) hs_)) (fun k_ hk_ => hk_.1.2)); clear HO_10 HO_12 HO_13 BKH HOC; have HO_10 := n0_; have HO_12 := n1_; have HO_13 := n2_; have BKH := n3_; have HOC := n4_; clear n0_ n1_ n2_ n3_ n4_; replace HB := Aside0.mk (hb); (try clear hb); (try clear hkp); (try clear hy0)))
      (try simp only [Act.put, List.setIfInBounds_toArray, List.set_cons_zero, List.set_cons_succ]); go_cut [75] (fun v75 wc => ∃ (kq : Nat) (x75_38 : Bool), v75 = .bool x75_38 ∧ Aside0 (laws_FnExactRoundedOrbit.j1 kq l0 a2 a3 tN tS tJ x75_38 a1_0 a1_1 = some r) ∧ Aside0 (kq ≤ kj13) ∧ Aside0 (Kd.R k47 47 wc w.heap.size (fun k_ => some k_ ≠ (vAC : Value).ownBlock) vAA tN) ∧ Aside0 (Kd.R k47 47 wc w.heap.size (fun k_ => some k_ ≠ (vAA : Value).ownBlock) vAC tJ) ∧ Aside0 (wc.heap[gbH]? = some (.cells #[.int .i64 a1_0, .int .i64 a1_1] 43 (0, 0))) ∧ Aside0 (Below w.heap.size w wc))
      case first =>
       have H := HC39.out; clear HC39; by_cases c44 : tAG < 0
       ·rw [if_pos c44] at H; have c44b0 : decide (tAG < 0) = true := decide_eq_true c44; clear c44; (first | rw [c44b0] | (simp only [i64_w, i32_w]; rw [c44b0]) | skip)
        have H' := Aside0.mk H; clear H; go_wp2
        go_meet
        case rel => exact ⟨_, (true), zz209, H', ⟨by have := HJ13.out; first | omega | exact Nat.le_refl _⟩, ⟨by (with_reducible repeat (first | apply Kd.R_alloc | apply Kd.R_drewN | apply Kd.R_drew)); exact HO_10.out⟩, ⟨by (with_reducible repeat (first | apply Kd.R_alloc | apply Kd.R_drewN | apply Kd.R_drew)); exact HO_13.out⟩, ⟨by (with_reducible repeat (first | refine blk_drewN ?_ _ | refine blk_drew ?_ | refine blk_alloc ?_ _)); exact BKH.out⟩, ⟨by repeat (first | (with_reducible first | exact HB.out | apply below_alloc | apply pw_below_drewN | apply below_drew1 | refine below_set ?_ GEH.out) | exact HB.out)⟩⟩
       ·rw [if_neg c44] at H; have c44b0 : decide (tAG < 0) = false := decide_eq_false c44; clear c44; (first | rw [c44b0] | (simp only [i64_w, i32_w]; rw [c44b0]) | skip)
        replace H := Option.bind_eq_some_iff.mp H; obtain ⟨tAH, AAN, H⟩ := H; replace H : (if tAH = true then (laws_FnExactRoundedOrbit.j1 kj13 l0 a2 a3 tN tS tJ (tX != tS) a1_0 a1_1) else (laws_FnExactRoundedOrbit.j1 kj13 l0 a2 a3 tN tS tJ true a1_0 a1_1)) = some r := H; have A45 := Aside0.mk AAN; clear AAN; by_cases c46 : tAH = true
        ·subst c46; have H1 : (laws_FnExactRoundedOrbit.j1 kj13 l0 a2 a3 tN tS tJ (tX != tS) a1_0 a1_1) = some r := by rw [if_pos rfl] at H; exact H
         clear H; have H := H1; clear H1; have H' := Aside0.mk H; clear H; obtain ⟨Ao47, co47, eo47⟩ := Kd.R_slice HO_13.out; subst eo47; obtain ⟨Ao48, co48, eo48⟩ := Kd.R_slice HO_10.out; subst eo48; go_wp2_with (first | (go_at_call 19; (with_reducible refine (laws_eqRatS.calls kj13 _ _ tJ _ _ tN true _ ?side1 ?side2 ?side3 ?side4 A45.out).mono ?_); (case side1 => repeat (first | exact (Kd.R_reads' HO_13.out).2.2 | (with_reducible refine Kd.C_alloc ?_ _) | (with_reducible refine Kd.C_drewN ?_ _) | (with_reducible refine Kd.C_drew ?_))); (case side2 => exact (Kd.R_reads' HO_13.out).2.1); (case side3 => repeat (first | exact (Kd.R_reads' HO_10.out).2.2 | (with_reducible refine Kd.C_alloc ?_ _) | (with_reducible refine Kd.C_drewN ?_ _) | (with_reducible refine Kd.C_drew ?_))); (case side4 => exact (Kd.R_reads' HO_10.out).2.1); rintro e w49 ⟨rfl, hb⟩; have n0_ := Aside0.mk (Kd.R_below zz190 hb); have n1_ := Aside0.mk (Kd.R_below zz195 hb); have n2_ := Aside0.mk (Kd.R_below zz196 hb); have n3_ := Aside0.mk (Kd.R_below zz187 hb); clear HO_10 HO_12 HO_13 HOC; have HO_10 := n0_; have HO_12 := n1_; have HO_13 := n2_; have HOC := n3_; clear n0_ n1_ n2_ n3_; replace BKH := blkA BKH hb; replace HB := Aside0.mk (below_step zz110 hb); (try clear hb)))
         go_meet
         case rel => exact ⟨_, ((tX != tS)), zz209, H', ⟨by have := HJ13.out; first | omega | exact Nat.le_refl _⟩, ⟨by (with_reducible repeat (first | apply Kd.R_alloc | apply Kd.R_drewN | apply Kd.R_drew)); exact HO_10.out⟩, ⟨by (with_reducible repeat (first | apply Kd.R_alloc | apply Kd.R_drewN | apply Kd.R_drew)); exact HO_13.out⟩, ⟨by (with_reducible repeat (first | refine blk_drewN ?_ _ | refine blk_drew ?_ | refine blk_alloc ?_ _)); exact BKH.out⟩, ⟨by repeat (first | (with_reducible first | exact HB.out | apply below_alloc | apply pw_below_drewN | apply below_drew1 | refine below_set ?_ GEH.out) | exact HB.out)⟩⟩
        ·replace c46 := Bool.eq_false_iff.mpr c46; subst c46; have H1 : (laws_FnExactRoundedOrbit.j1 kj13 l0 a2 a3 tN tS tJ true a1_0 a1_1) = some r := by rw [if_neg (show ¬ (false = true) by decide)] at H; exact H
         clear H; have H := H1; clear H1; have H' := Aside0.mk H; clear H; obtain ⟨Ao50, co50, eo50⟩ := Kd.R_slice HO_13.out; subst eo50; obtain ⟨Ao51, co51, eo51⟩ := Kd.R_slice HO_10.out; subst eo51; go_wp2_with (first | (go_at_call 19; (with_reducible refine (laws_eqRatS.calls kj13 _ _ tJ _ _ tN false _ ?side1 ?side2 ?side3 ?side4 A45.out).mono ?_); (case side1 => repeat (first | exact (Kd.R_reads' HO_13.out).2.2 | (with_reducible refine Kd.C_alloc ?_ _) | (with_reducible refine Kd.C_drewN ?_ _) | (with_reducible refine Kd.C_drew ?_))); (case side2 => exact (Kd.R_reads' HO_13.out).2.1); (case side3 => repeat (first | exact (Kd.R_reads' HO_10.out).2.2 | (with_reducible refine Kd.C_alloc ?_ _) | (with_reducible refine Kd.C_drewN ?_ _) | (with_reducible refine Kd.C_drew ?_))); (case side4 => exact (Kd.R_reads' HO_10.out).2.1); rintro e w52 ⟨rfl, hb⟩; have n0_ := Aside0.mk (Kd.R_below zz190 hb); have n1_ := Aside0.mk (Kd.R_below zz195 hb); have n2_ := Aside0.mk (Kd.R_below zz196 hb); have n3_ := Aside0.mk (Kd.R_below zz187 hb); clear HO_10 HO_12 HO_13 HOC; have HO_10 := n0_; have HO_12 := n1_; have HO_13 := n2_; have HOC := n3_; clear n0_ n1_ n2_ n3_; replace BKH := blkA BKH hb; replace HB := Aside0.mk (below_step zz110 hb); (try clear hb)))
         go_meet
         case rel => exact ⟨_, (true), zz209, H', ⟨by have := HJ13.out; first | omega | exact Nat.le_refl _⟩, ⟨by (with_reducible repeat (first | apply Kd.R_alloc | apply Kd.R_drewN | apply Kd.R_drew)); exact HO_10.out⟩, ⟨by (with_reducible repeat (first | apply Kd.R_alloc | apply Kd.R_drewN | apply Kd.R_drew)); exact HO_13.out⟩, ⟨by (with_reducible repeat (first | refine blk_drewN ?_ _ | refine blk_drew ?_ | refine blk_alloc ?_ _)); exact BKH.out⟩, ⟨by repeat (first | (with_reducible first | exact HB.out | apply below_alloc | apply pw_below_drewN | apply below_drew1 | refine below_set ?_ GEH.out) | exact HB.out)⟩⟩
      case rest =>
       clear HC39; try clear c1
       try clear c2
       try clear p2
       try clear c3
       try clear c4
       try clear c6
       try clear c6b0
       try clear c11
       try clear c19
       try clear c25
       try clear c27
       try clear c28
       try clear c30
       try clear c32
       try clear c33
       try clear c34
       try clear c37
       try clear c44
       try clear c44b0
       try clear c46
       try clear c47
       try clear c48
       try clear hcz22_0
       try clear hcz22_1
       try clear hfz22_0
       try clear hfz22_1
       try clear p2
       obtain ⟨kq, x75_38, rfl, HA, HJ38, HO_10, HO_13, BKH, HB⟩ := hcut; cases kq with
       | zero => exact absurd HA.out (by simp [laws_FnExactRoundedOrbit.j1])
       | succ kj38 =>
        have H := HA.out; clear HA; simp only [laws_FnExactRoundedOrbit.j1] at H; by_cases c53 : x75_38 = true
        ·subst c53; have H1 : (some false) = some r := by rw [if_pos rfl] at H; exact H
         clear H; have H := H1; clear H1; obtain rfl := Option.some.inj H; go_wp2
         go_ret
         exact ⟨by first | rfl | (simp [errW_none, errW_some] <;> rfl) | (simp [*, errW_none, errW_some] <;> rfl), by repeat (first | (with_reducible first | exact HB.out | apply below_alloc | apply pw_below_drewN | apply below_drew1 | refine below_set ?_ GEH.out) | exact HB.out)⟩
        ·replace c53 := Bool.eq_false_iff.mpr c53; subst c53; have H1 : ((laws_markRatS.f kj38 tJ 1).bind fun btAO => ((laws_heldRatS.f kj38 btAO.2 1).bind fun tAP => (if tAP < 0 then (some false) else (if tAP = btAO.1 then ((laws_toPointS.f kj38 l0).bind fun tAQ => ((laws_toRat.f a1_0 a1_1).bind fun btAR => ((impl_RoundedOrbit.f kj38 tAQ btAR.1 btAR.2 a2 a3).bind fun btAS => ((laws_eqRatS.f kj38 btAS.1 tN).bind fun tAT => (if tAT = true then (laws_FnExactRoundedOrbit.j2 kj38 btAO.2 btAO.1 (btAS.2 != tS)) else (laws_FnExactRoundedOrbit.j2 kj38 btAO.2 btAO.1 true)))))) else (some false))))) = some r := by rw [if_neg (show ¬ (false = true) by decide)] at H; exact H
         clear H; have H := H1; clear H1; replace H := Option.bind_eq_some_iff.mp H; obtain ⟨⟨tAO, tI⟩, AAU, H⟩ := H; replace H : ((laws_heldRatS.f kj38 tI 1).bind fun tAP => (if tAP < 0 then (some false) else (if tAP = tAO then ((laws_toPointS.f kj38 l0).bind fun tAQ => ((laws_toRat.f a1_0 a1_1).bind fun btAR => ((impl_RoundedOrbit.f kj38 tAQ btAR.1 btAR.2 a2 a3).bind fun btAS => ((laws_eqRatS.f kj38 btAS.1 tN).bind fun tAT => (if tAT = true then (laws_FnExactRoundedOrbit.j2 kj38 tI tAO (btAS.2 != tS)) else (laws_FnExactRoundedOrbit.j2 kj38 tI tAO true)))))) else (some false)))) = some r := H; have A54 := Aside0.mk AAU; clear AAU; replace H := Option.bind_eq_some_iff.mp H; obtain ⟨tAP, AAV, H⟩ := H; replace H : (if tAP < 0 then (some false) else (if tAP = tAO then ((laws_toPointS.f kj38 l0).bind fun tAQ => ((laws_toRat.f a1_0 a1_1).bind fun btAR => ((impl_RoundedOrbit.f kj38 tAQ btAR.1 btAR.2 a2 a3).bind fun btAS => ((laws_eqRatS.f kj38 btAS.1 tN).bind fun tAT => (if tAT = true then (laws_FnExactRoundedOrbit.j2 kj38 tI tAO (btAS.2 != tS)) else (laws_FnExactRoundedOrbit.j2 kj38 tI tAO true)))))) else (some false))) = some r := H; have A55 := Aside0.mk AAV; clear AAV; by_cases c56 : tAP < 0
         ·rw [if_pos c56] at H; have c56b0 : decide (tAP < 0) = true := decide_eq_true c56; clear c56; obtain rfl := Option.some.inj H; obtain ⟨Ao57, co57, eo57⟩ := Kd.R_slice HO_13.out; subst eo57; go_wp2_with (first | ((with_reducible refine gate_callee (f := 20) rfl ?_); refine goesL_ (some 78) rfl rfl Try.func20 (by kernel_rfl) rfl #[.slice Ao57 tJ.length co57, .int .i64 1] rfl zz140 ?_; (with_reducible refine (laws_markRatS.calls kj38 (fun k_ => some k_ = (.slice Ao57 tJ.length co57 : Value).ownBlock) (.slice Ao57 tJ.length co57) tJ 1 tAO tI w _ ?side1 ?side2 A54.out).mono ?_); (case side1 => repeat (first | (with_reducible first | exact HB.out | apply below_alloc | apply pw_below_drewN | apply below_drew1 | refine below_set ?_ GEH.out) | exact HB.out)); (case side2 => exact Kd.R_tight rfl HO_13.out); rintro e w58 ⟨rfl, hy0, hb, hkp⟩; refine ⟨_, rfl, ?_⟩; have n0_ := Aside0.mk (Kd.R_mono (ok' := fun k_ => some k_ ≠ (.slice Ao57 tJ.length co57 : Value).ownBlock) (Kd.R_keptB (HO_10.out) hkp (fun k_ hk_ hs_ => (hk_) hs_)) (fun k_ hk_ => hk_.1)); have n1_ := Aside0.mk (Kd.R_reok rfl hy0 (fun k_ e_ => HO_13.out.1 k_ e_)); have n2_ := Aside0.mk (blk_kept zz168 hkp (fun hs_ => (fun e_ => (Kd.R_ne HO_13.out BKH.out (by decide)) e_) hs_)); clear HO_10 HO_13 BKH; have HO_10 := n0_; have HO_13 := n1_; have BKH := n2_; clear n0_ n1_ n2_; replace HB := Aside0.mk (hb); (try clear hb); (try clear hkp); (try clear hy0)) | ((with_reducible refine gate_callee (f := 21) rfl ?_); refine goesL_ (some 81) rfl rfl Try.func21 (by kernel_rfl) rfl #[.slice Ao57 tI.length co57, .int .i64 1] rfl zz59 ?_; (with_reducible refine (laws_heldRatS.calls kj38 _ _ tI 1 tAP _ ?side1 ?side2 A55.out).mono ?_); (case side1 => repeat (first | exact (Kd.R_reads' HO_13.out).2.2 | (with_reducible refine Kd.C_alloc ?_ _) | (with_reducible refine Kd.C_drewN ?_ _) | (with_reducible refine Kd.C_drew ?_))); (case side2 => rw [show tI.length = tJ.length from (Kd.R_reads' HO_13.out).1.symm]; exact (Kd.R_reads' HO_13.out).2.1); rintro e w' ⟨rfl, ⟨nd, rfl⟩⟩; refine ⟨_, rfl, ?_⟩))
          go_ret
          exact ⟨by first | rfl | (simp [errW_none, errW_some] <;> rfl) | (simp [*, errW_none, errW_some] <;> rfl), by repeat (first | (with_reducible first | exact HB.out | apply below_alloc | apply pw_below_drewN | apply below_drew1 | refine below_set ?_ GEH.out) | exact HB.out)⟩
         ·rw [if_neg c56] at H; have c56b0 : decide (tAP < 0) = false := decide_eq_false c56; clear c56; by_cases c59 : tAP = tAO
          ·rw [if_pos c59] at H; have c59b0 : (tAP == tAO) = true := beq_iff_eq.mpr c59; have c59b1 : (tAP != tAO) = false := bne_eq_false_iff_eq.mpr c59; clear c59; replace H := Option.bind_eq_some_iff.mp H; obtain ⟨tAQ, AAW, H⟩ := H; replace H : ((laws_toRat.f a1_0 a1_1).bind fun btAR => ((impl_RoundedOrbit.f kj38 tAQ btAR.1 btAR.2 a2 a3).bind fun btAS => ((laws_eqRatS.f kj38 btAS.1 tN).bind fun tAT => (if tAT = true then (laws_FnExactRoundedOrbit.j2 kj38 tI tAO (btAS.2 != tS)) else (laws_FnExactRoundedOrbit.j2 kj38 tI tAO true))))) = some r := H; have A60 := Aside0.mk AAW; clear AAW; replace H := Option.bind_eq_some_iff.mp H; obtain ⟨⟨tAR, tAX⟩, AAY, H⟩ := H; replace H : ((impl_RoundedOrbit.f kj38 tAQ tAR tAX a2 a3).bind fun btAS => ((laws_eqRatS.f kj38 btAS.1 tN).bind fun tAT => (if tAT = true then (laws_FnExactRoundedOrbit.j2 kj38 tI tAO (btAS.2 != tS)) else (laws_FnExactRoundedOrbit.j2 kj38 tI tAO true)))) = some r := H; have A61 := Aside0.mk AAY; clear AAY; replace H := Option.bind_eq_some_iff.mp H; obtain ⟨⟨tAS, tAZ⟩, ABA, H⟩ := H; replace H : ((laws_eqRatS.f kj38 tAS tN).bind fun tAT => (if tAT = true then (laws_FnExactRoundedOrbit.j2 kj38 tI tAO (tAZ != tS)) else (laws_FnExactRoundedOrbit.j2 kj38 tI tAO true))) = some r := H; have A62 := Aside0.mk ABA; clear ABA; have HC63 := Aside0.mk H; clear H; obtain ⟨Ao64, co64, eo64⟩ := Kd.R_slice HO_13.out; subst eo64; try go_wp2_with (first | ((with_reducible refine gate_callee (f := 20) rfl ?_); refine goesL_ (some 78) rfl rfl Try.func20 (by kernel_rfl) rfl #[.slice Ao64 tJ.length co64, .int .i64 1] rfl zz140 ?_; (with_reducible refine (laws_markRatS.calls kj38 (fun k_ => some k_ = (.slice Ao64 tJ.length co64 : Value).ownBlock) (.slice Ao64 tJ.length co64) tJ 1 tAO tI w _ ?side1 ?side2 A54.out).mono ?_); (case side1 => repeat (first | (with_reducible first | exact HB.out | apply below_alloc | apply pw_below_drewN | apply below_drew1 | refine below_set ?_ GEH.out) | exact HB.out)); (case side2 => exact Kd.R_tight rfl HO_13.out); rintro e w65 ⟨rfl, hy0, hb, hkp⟩; refine ⟨_, rfl, ?_⟩; have n0_ := Aside0.mk (Kd.R_mono (ok' := fun k_ => some k_ ≠ (.slice Ao64 tJ.length co64 : Value).ownBlock) (Kd.R_keptB (HO_10.out) hkp (fun k_ hk_ hs_ => (hk_) hs_)) (fun k_ hk_ => hk_.1)); have n1_ := Aside0.mk (Kd.R_reok rfl hy0 (fun k_ e_ => HO_13.out.1 k_ e_)); have n2_ := Aside0.mk (blk_kept zz168 hkp (fun hs_ => (fun e_ => (Kd.R_ne HO_13.out BKH.out (by decide)) e_) hs_)); clear HO_10 HO_13 BKH; have HO_10 := n0_; have HO_13 := n1_; have BKH := n2_; clear n0_ n1_ n2_; replace HB := Aside0.mk (hb); (try clear hb); (try clear hkp); (try clear hy0)) | ((with_reducible refine gate_callee (f := 21) rfl ?_); refine goesL_ (some 81) rfl rfl Try.func21 (by kernel_rfl) rfl #[.slice Ao64 tI.length co64, .int .i64 1] rfl zz59 ?_; (with_reducible refine (laws_heldRatS.calls kj38 _ _ tI 1 tAP _ ?side1 ?side2 A55.out).mono ?_); (case side1 => repeat (first | exact (Kd.R_reads' HO_13.out).2.2 | (with_reducible refine Kd.C_alloc ?_ _) | (with_reducible refine Kd.C_drewN ?_ _) | (with_reducible refine Kd.C_drew ?_))); (case side2 => rw [show tI.length = tJ.length from (Kd.R_reads' HO_13.out).1.symm]; exact (Kd.R_reads' HO_13.out).2.1); rintro e w' ⟨rfl, ⟨nd, rfl⟩⟩; refine ⟨_, rfl, ?_⟩))
           (try (rw [drewN_self w65]; generalize hq_ : World.drewN w65 _ = w65; have n0_ : Aside0 (Kd.R k47 47 w65 w.heap.size (fun k_ => some k_ ≠ (.slice Ao64 tJ.length co64 : Value).ownBlock) vAA tN) := ⟨by rw [← hq_]; exact zz190⟩; have n1_ : Aside0 (Kd.R k47 47 w65 w.heap.size (fun k_ => some k_ ≠ (vAA : Value).ownBlock) (.slice Ao64 tJ.length co64) tI) := ⟨by rw [← hq_]; exact zz196⟩; have n2_ : Aside0 (w65.heap[gbH]? = some (.cells #[.int .i64 a1_0, .int .i64 a1_1] 43 (0, 0))) := ⟨by rw [← hq_]; exact zz168⟩; have n3_ : Aside0 (Below w.heap.size w w65) := ⟨by rw [← hq_]; exact zz110⟩; clear HO_10 HO_13 BKH HB hq_; have HO_10 := n0_; have HO_13 := n1_; have BKH := n2_; have HB := n3_; clear n0_ n1_ n2_ n3_)); have n0_ := Aside0.mk (Kd.R_drew HO_10.out); have n1_ := Aside0.mk (Kd.R_drew HO_13.out); clear HO_10 HO_13; have HO_10 := n0_; have HO_13 := n1_; clear n0_ n1_; replace BKH := Aside0.mk (blk_drew BKH.out); replace HB := Aside0.mk (below_drew1 HB.out); refine start_ (n := 12) (S := fun w' => w'.cell? ⟨gbH, 0, none⟩ = some (.int .i64 a1_0) ∧ w'.cell? ⟨gbH, 1, none⟩ = some (.int .i64 a1_1)) (ds := []) #[fF, fF, fF, fF, fF, fF, fF, fF, fF, fF, fF, fF] (by kernel_rfl) rfl rfl ⟨(blk_cell BKH.out 0).trans rfl, (blk_cell BKH.out 1).trans rfl⟩ (fun hHeld => ?_); refine with_tabW laws_FnExactRoundedOrbit.tab24 laws_FnExactRoundedOrbit.bits24 (fun HT_ HW_ => ?_); generalize w65.drew = w66 at HO_10 HO_13 BKH HB hHeld ⊢; refine pureA 0 (some 88) #[tT, fF, fF, fF, fF, fF, fF, fF, fF, fF, fF, fF] HT_ ?_; refine pureA 4 (some 92) #[tT, fF, fF, fF, tT, fF, fF, fF, fF, fF, fF, fF] HT_ ?_; refine pureA 5 (some 93) #[tT, fF, fF, fF, tT, tT, fF, fF, fF, fF, fF, fF] HT_ ?_; refine takeA5 2 (some 90) #[tT, fF, tT, fF, tT, tT, fF, fF, fF, fF, fF, fF] HT_ HW_ hHeld ?_; refine one_ (i := 1) (N := some 89) #[tT, tT, tT, fF, tT, tT, fF, fF, fF, fF, fF, fF] rfl rfl (one_of HT_.out (by kernel_rfl)) (by decide) (fun K hK => ?_); refine goes_ Try.func32 (by kernel_rfl) rfl #[.slice A0 l0.length c0] (by rfl) rfl rfl zz140 ?_; with_reducible refine (laws_toPointS.calls kj38 _ _ l0 tAQ _ ?side1 ?side2 A60.out).mono ?_
           (case side1 => repeat (first | exact (Kd.C_below HR0.out HB.out) | (with_reducible refine Kd.C_alloc ?_ _) | (with_reducible refine Kd.C_drewN ?_ _) | (with_reducible refine Kd.C_drew ?_))); (case side2 => exact HC0.out); rintro e w67 ⟨vBB, rfl, ho0, hb⟩; refine ⟨_, rfl, ?_⟩; have n0_ := Aside0.mk (Kd.R_below zz190 hb); have n1_ := Aside0.mk (Kd.R_below zz196 hb); have n2_ := Aside0.mk (Kd.R_lower ho0 (below_size zz110)); clear HO_10 HO_13; have HO_10 := n0_; have HO_13 := n1_; have HOB := n2_; clear n0_ n1_ n2_; replace BKH := blkA BKH hb; replace HB := Aside0.mk (below_step zz110 hb); (try clear hb); (try clear ho0); refine hK.out _ _ ⟨(blk_cell BKH.out 0).trans rfl, (blk_cell BKH.out 1).trans rfl⟩ (fun hHeld => ?_); clear hK K; refine normA (some 89) ?_; refine one_ (i := 3) (N := some 91) #[tT, tT, tT, tT, tT, tT, fF, fF, fF, fF, fF, fF] rfl rfl (one_of HT_.out (by kernel_rfl)) (by decide) (fun K hK => ?_); refine goes_ Try.func33 (by kernel_rfl) rfl #[.agg #[.int .i64 a1_0, .int .i64 a1_1]] (by rfl) rfl rfl zz140 ?_; with_reducible refine (laws_toRat.calls a1_0 a1_1 tAR tAX _ A61.out).mono ?_
           rintro e w68 ⟨rfl, hb⟩; refine ⟨_, rfl, ?_⟩; have n0_ := Aside0.mk (Kd.R_below zz190 hb); have n1_ := Aside0.mk (Kd.R_below zz196 hb); have n2_ := Aside0.mk (Kd.R_below zz188 hb); clear HO_10 HO_13 HOB; have HO_10 := n0_; have HO_13 := n1_; have HOB := n2_; clear n0_ n1_ n2_; replace BKH := blkA BKH hb; replace HB := Aside0.mk (below_step zz110 hb); (try clear hb); obtain ⟨Ao69, co69, eo69⟩ := Kd.R_slice HOB.out; (first | subst eo69 | (injection eo69 with f1_ f2_ f3_; have f4_ := f1_.symm; have f5_ := f3_.symm; clear f1_ f2_ f3_; subst f4_; subst f5_))
           refine hK.out _ _ ⟨(blk_cell BKH.out 0).trans rfl, (blk_cell BKH.out 1).trans rfl⟩ (fun hHeld => ?_); clear hK K; refine normA (some 91) ?_; refine one_ (i := 6) (N := some 94) #[tT, tT, tT, tT, tT, tT, tT, fF, fF, fF, fF, fF] rfl rfl (one_of HT_.out (by kernel_rfl)) (by decide) (fun K hK => ?_); refine goes_ Try.func48 (by kernel_rfl) rfl #[.slice Ao69 tAQ.length co69, .agg #[.int .i64 tAR, .int .i64 tAX], .int .i64 a2, .int .i64 a3] (by rfl) rfl rfl zz140 ?_; with_reducible refine (impl_RoundedOrbit.calls kj38 _ _ tAQ tAR tAX a2 a3 tAS tAZ _ ?side1 ?side2 A62.out).mono ?_
           (case side1 => repeat (first | exact (Kd.R_reads' HOB.out).2.2 | (with_reducible refine Kd.C_alloc ?_ _) | (with_reducible refine Kd.C_drewN ?_ _) | (with_reducible refine Kd.C_drew ?_))); (case side2 => exact (Kd.R_reads' HOB.out).2.1); rintro e w70 ⟨vBC, rfl, ho0, hb⟩; refine ⟨_, rfl, ?_⟩; have n0_ := Aside0.mk (Kd.R_elder' zz190 (Kd.R_base ho0) hb); have n1_ := Aside0.mk (Kd.R_elder' zz196 (Kd.R_base ho0) hb); have n2_ := Aside0.mk (Kd.R_below zz188 hb); have n3_ := Aside0.mk (Kd.R_lower (Kd.R_new' (Kd.R_new' ho0 (Kd.R_lt zz190)) (Kd.R_lt zz196)) (below_size zz110)); clear HO_10 HO_13 HOB; have HO_10 := n0_; have HO_13 := n1_; have HOB := n2_; have HOA := n3_; clear n0_ n1_ n2_ n3_; replace BKH := blkA BKH hb; replace HB := Aside0.mk (below_step zz110 hb); (try clear hb); (try clear ho0); refine hK.out _ _ ⟨(blk_cell BKH.out 0).trans rfl, (blk_cell BKH.out 1).trans rfl⟩ (fun hHeld => ?_); clear hK K; refine normA (some 94) ?_; refine pureA 7 (some 87) #[tT, tT, tT, tT, tT, tT, tT, tT, fF, fF, fF, fF] HT_ ?_; refine pureA 8 (some 95) #[tT, tT, tT, tT, tT, tT, tT, tT, tT, fF, fF, fF] HT_ ?_; refine pureA 9 (some 96) #[tT, tT, tT, tT, tT, tT, tT, tT, tT, tT, fF, fF] HT_ ?_; refine pureA 10 (some 18) #[tT, tT, tT, tT, tT, tT, tT, tT, tT, tT, tT, fF] HT_ ?_; refine pureA 11 (some 19) #[tT, tT, tT, tT, tT, tT, tT, tT, tT, tT, tT, tT] HT_ ?_; refine done_ (done_of HT_.out (by kernel_rfl)) ?_; go_upto_region 25 with (fail)
           go_cut [105] (fun vBD wc => ∃ (kq : Nat) (xBD_62 : Bool), vBD = .bool xBD_62 ∧ Aside0 (laws_FnExactRoundedOrbit.j2 kq tI tAO xBD_62 = some r) ∧ Aside0 (kq ≤ kj38) ∧ Aside0 (Kd.R k47 47 wc w.heap.size (fun _ => True) (.slice Ao64 tJ.length co64) tI) ∧ Aside0 (wc.heap[gbH]? = some (.cells #[.int .i64 a1_0, .int .i64 a1_1] 43 (0, 0))) ∧ Aside0 (Below w.heap.size w wc))
           case first =>
            have H := HC63.out; clear HC63; replace H := Option.bind_eq_some_iff.mp H; obtain ⟨tAT, ABE, H⟩ := H; replace H : (if tAT = true then (laws_FnExactRoundedOrbit.j2 kj38 tI tAO (tAZ != tS)) else (laws_FnExactRoundedOrbit.j2 kj38 tI tAO true)) = some r := H; have A71 := Aside0.mk ABE; clear ABE; by_cases c72 : tAT = true
            ·subst c72; have H1 : (laws_FnExactRoundedOrbit.j2 kj38 tI tAO (tAZ != tS)) = some r := by rw [if_pos rfl] at H; exact H
             clear H; have H := H1; clear H1; have H' := Aside0.mk H; clear H; obtain ⟨Ao73, co73, eo73⟩ := Kd.R_slice HOA.out; subst eo73; obtain ⟨Ao74, co74, eo74⟩ := Kd.R_slice HO_10.out; subst eo74; go_wp2_with (first | ((with_reducible refine gate_callee (f := 19) rfl ?_); refine goesL_ (some 99) rfl rfl Try.func19 (by kernel_rfl) rfl #[.slice Ao73 tAS.length co73, .slice Ao74 tN.length co74] rfl zz140 ?_; (with_reducible refine (laws_eqRatS.calls kj38 _ _ tAS _ _ tN true _ ?side1 ?side2 ?side3 ?side4 A71.out).mono ?_); (case side1 => repeat (first | exact (Kd.R_reads' HOA.out).2.2 | (with_reducible refine Kd.C_alloc ?_ _) | (with_reducible refine Kd.C_drewN ?_ _) | (with_reducible refine Kd.C_drew ?_))); (case side2 => exact (Kd.R_reads' HOA.out).2.1); (case side3 => repeat (first | exact (Kd.R_reads' HO_10.out).2.2 | (with_reducible refine Kd.C_alloc ?_ _) | (with_reducible refine Kd.C_drewN ?_ _) | (with_reducible refine Kd.C_drew ?_))); (case side4 => exact (Kd.R_reads' HO_10.out).2.1); rintro e w75 ⟨rfl, hb⟩; refine ⟨_, rfl, ?_⟩; have n0_ := Aside0.mk (Kd.R_below zz190 hb); have n1_ := Aside0.mk (Kd.R_below zz196 hb); have n2_ := Aside0.mk (Kd.R_below zz188 hb); have n3_ := Aside0.mk (Kd.R_below zz189 hb); clear HO_10 HO_13 HOB HOA; have HO_10 := n0_; have HO_13 := n1_; have HOB := n2_; have HOA := n3_; clear n0_ n1_ n2_ n3_; replace BKH := blkA BKH hb; replace HB := Aside0.mk (below_step zz110 hb); (try clear hb)))
             go_meet
             case rel => exact ⟨_, ((tAZ != tS)), zz209, H', ⟨by have := HJ13.out; have := HJ38.out; first | omega | exact Nat.le_refl _⟩, ⟨by (with_reducible repeat (first | apply Kd.R_alloc | apply Kd.R_drewN | apply Kd.R_drew)); exact Kd.R_mono HO_13.out (fun _ hk => trivial)⟩, ⟨by (with_reducible repeat (first | refine blk_drewN ?_ _ | refine blk_drew ?_ | refine blk_alloc ?_ _)); exact BKH.out⟩, ⟨by repeat (first | (with_reducible first | exact HB.out | apply below_alloc | apply pw_below_drewN | apply below_drew1 | refine below_set ?_ GEH.out) | exact HB.out)⟩⟩
            ·replace c72 := Bool.eq_false_iff.mpr c72; subst c72; have H1 : (laws_FnExactRoundedOrbit.j2 kj38 tI tAO true) = some r := by rw [if_neg (show ¬ (false = true) by decide)] at H; exact H
             clear H; have H := H1; clear H1; have H' := Aside0.mk H; clear H; obtain ⟨Ao76, co76, eo76⟩ := Kd.R_slice HOA.out; subst eo76; obtain ⟨Ao77, co77, eo77⟩ := Kd.R_slice HO_10.out; subst eo77; go_wp2_with (first | ((with_reducible refine gate_callee (f := 19) rfl ?_); refine goesL_ (some 99) rfl rfl Try.func19 (by kernel_rfl) rfl #[.slice Ao76 tAS.length co76, .slice Ao77 tN.length co77] rfl zz140 ?_; (with_reducible refine (laws_eqRatS.calls kj38 _ _ tAS _ _ tN false _ ?side1 ?side2 ?side3 ?side4 A71.out).mono ?_); (case side1 => repeat (first | exact (Kd.R_reads' HOA.out).2.2 | (with_reducible refine Kd.C_alloc ?_ _) | (with_reducible refine Kd.C_drewN ?_ _) | (with_reducible refine Kd.C_drew ?_))); (case side2 => exact (Kd.R_reads' HOA.out).2.1); (case side3 => repeat (first | exact (Kd.R_reads' HO_10.out).2.2 | (with_reducible refine Kd.C_alloc ?_ _) | (with_reducible refine Kd.C_drewN ?_ _) | (with_reducible refine Kd.C_drew ?_))); (case side4 => exact (Kd.R_reads' HO_10.out).2.1); rintro e w78 ⟨rfl, hb⟩; refine ⟨_, rfl, ?_⟩; have n0_ := Aside0.mk (Kd.R_below zz190 hb); have n1_ := Aside0.mk (Kd.R_below zz196 hb); have n2_ := Aside0.mk (Kd.R_below zz188 hb); have n3_ := Aside0.mk (Kd.R_below zz189 hb); clear HO_10 HO_13 HOB HOA; have HO_10 := n0_; have HO_13 := n1_; have HOB := n2_; have HOA := n3_; clear n0_ n1_ n2_ n3_; replace BKH := blkA BKH hb; replace HB := Aside0.mk (below_step zz110 hb); (try clear hb)))
             go_meet
             case rel => exact ⟨_, (true), zz209, H', ⟨by have := HJ13.out; have := HJ38.out; first | omega | exact Nat.le_refl _⟩, ⟨by (with_reducible repeat (first | apply Kd.R_alloc | apply Kd.R_drewN | apply Kd.R_drew)); exact Kd.R_mono HO_13.out (fun _ hk => trivial)⟩, ⟨by (with_reducible repeat (first | refine blk_drewN ?_ _ | refine blk_drew ?_ | refine blk_alloc ?_ _)); exact BKH.out⟩, ⟨by repeat (first | (with_reducible first | exact HB.out | apply below_alloc | apply pw_below_drewN | apply below_drew1 | refine below_set ?_ GEH.out) | exact HB.out)⟩⟩
           case rest =>
            clear HC63; try clear c1
            try clear c2
            try clear p2
            try clear c3
            try clear c4
            try clear c5
            try clear c6
            try clear c6b0
            try clear c7
            try clear c11
            try clear c19
            try clear c20
            try clear c21
            try clear c25
            try clear c27
            try clear c28
            try clear c30
            try clear c32
            try clear c33
            try clear c34
            try clear c37
            try clear c44
            try clear c44b0
            try clear c46
            try clear c47
            try clear c48
            try clear c53
            try clear c56
            try clear c56b0
            try clear c59
            try clear c59b0
            try clear c59b1
            try clear c72
            try clear hcz22_0
            try clear hcz22_1
            try clear hfz22_0
            try clear hfz22_1
            try clear p2
            obtain ⟨kq, xBD_62, rfl, HA, HJ62, HO_13, BKH, HB⟩ := hcut; have hl13_62 := (Kd.R_reads' HO_13.out).1; rw [hl13_62] at HO_13; (try simp only [hl13_62]); (try simp only [hl13_62] at BKH); cases kq with
            | zero => exact absurd HA.out (by simp [laws_FnExactRoundedOrbit.j2])
            | succ kj62 =>
             have H := HA.out; clear HA; simp only [laws_FnExactRoundedOrbit.j2] at H; by_cases c79 : xBD_62 = true
             ·subst c79; have H1 : (some false) = some r := by rw [if_pos rfl] at H; exact H
              clear H; have H := H1; clear H1; obtain rfl := Option.some.inj H; go_wp2
              go_ret
              exact ⟨by first | rfl | (simp [errW_none, errW_some] <;> rfl) | (simp [*, errW_none, errW_some] <;> rfl), by repeat (first | (with_reducible first | exact HB.out | apply below_alloc | apply pw_below_drewN | apply below_drew1 | refine below_set ?_ GEH.out) | exact HB.out)⟩
             ·replace c79 := Bool.eq_false_iff.mpr c79; subst c79; have H1 : ((laws_heldRatS.f kj62 tI 1).bind fun tBF => (if tBF < 0 then (some false) else (if tBF = tAO then (some true) else (some false)))) = some r := by rw [if_neg (show ¬ (false = true) by decide)] at H; exact H
              clear H; have H := H1; clear H1; replace H := Option.bind_eq_some_iff.mp H; obtain ⟨tBF, ABG, H⟩ := H; replace H : (if tBF < 0 then (some false) else (if tBF = tAO then (some true) else (some false))) = some r := H; have A80 := Aside0.mk ABG; clear ABG; by_cases c81 : tBF < 0
              ·rw [if_pos c81] at H; have c81b0 : decide (tBF < 0) = true := decide_eq_true c81; clear c81; obtain rfl := Option.some.inj H; go_wp2_with (first | ((with_reducible refine gate_callee (f := 21) rfl ?_); refine goesL_ (some 108) rfl rfl Try.func21 (by kernel_rfl) rfl #[.slice Ao64 tI.length co64, .int .i64 1] rfl zz140 ?_; (with_reducible refine (laws_heldRatS.calls kj62 _ _ tI 1 tBF _ ?side1 ?side2 A80.out).mono ?_); (case side1 => repeat (first | exact (Kd.R_reads' HO_13.out).2.2 | (with_reducible refine Kd.C_alloc ?_ _) | (with_reducible refine Kd.C_drewN ?_ _) | (with_reducible refine Kd.C_drew ?_))); (case side2 => exact (Kd.R_reads' HO_13.out).2.1); rintro e w' ⟨rfl, ⟨nd, rfl⟩⟩; refine ⟨_, rfl, ?_⟩))
               go_ret
               exact ⟨by first | rfl | (simp [errW_none, errW_some] <;> rfl) | (simp [*, errW_none, errW_some] <;> rfl), by repeat (first | (with_reducible first | exact HB.out | apply below_alloc | apply pw_below_drewN | apply below_drew1 | refine below_set ?_ GEH.out) | exact HB.out)⟩
              ·rw [if_neg c81] at H; have c81b0 : decide (tBF < 0) = false := decide_eq_false c81; clear c81; by_cases c82 : tBF = tAO
               ·rw [if_pos c82] at H; have c82b0 : (tBF == tAO) = true := beq_iff_eq.mpr c82; have c82b1 : (tBF != tAO) = false := bne_eq_false_iff_eq.mpr c82; clear c82; obtain rfl := Option.some.inj H; go_wp2_with (first | ((with_reducible refine gate_callee (f := 21) rfl ?_); refine goesL_ (some 108) rfl rfl Try.func21 (by kernel_rfl) rfl #[.slice Ao64 tI.length co64, .int .i64 1] rfl zz140 ?_; (with_reducible refine (laws_heldRatS.calls kj62 _ _ tI 1 tBF _ ?side1 ?side2 A80.out).mono ?_); (case side1 => repeat (first | exact (Kd.R_reads' HO_13.out).2.2 | (with_reducible refine Kd.C_alloc ?_ _) | (with_reducible refine Kd.C_drewN ?_ _) | (with_reducible refine Kd.C_drew ?_))); (case side2 => exact (Kd.R_reads' HO_13.out).2.1); rintro e w' ⟨rfl, ⟨nd, rfl⟩⟩; refine ⟨_, rfl, ?_⟩))
                go_ret
                exact ⟨by first | rfl | (simp [errW_none, errW_some] <;> rfl) | (simp [*, errW_none, errW_some] <;> rfl), by repeat (first | (with_reducible first | exact HB.out | apply below_alloc | apply pw_below_drewN | apply below_drew1 | refine below_set ?_ GEH.out) | exact HB.out)⟩
               ·rw [if_neg c82] at H; have c82b0 : (tBF == tAO) = false := beq_eq_false_iff_ne.mpr c82; have c82b1 : (tBF != tAO) = true := bne_iff_ne.mpr c82; obtain rfl := Option.some.inj H; go_wp2_with (first | ((with_reducible refine gate_callee (f := 21) rfl ?_); refine goesL_ (some 108) rfl rfl Try.func21 (by kernel_rfl) rfl #[.slice Ao64 tI.length co64, .int .i64 1] rfl zz140 ?_; (with_reducible refine (laws_heldRatS.calls kj62 _ _ tI 1 tBF _ ?side1 ?side2 A80.out).mono ?_); (case side1 => repeat (first | exact (Kd.R_reads' HO_13.out).2.2 | (with_reducible refine Kd.C_alloc ?_ _) | (with_reducible refine Kd.C_drewN ?_ _) | (with_reducible refine Kd.C_drew ?_))); (case side2 => exact (Kd.R_reads' HO_13.out).2.1); rintro e w' ⟨rfl, ⟨nd, rfl⟩⟩; refine ⟨_, rfl, ?_⟩))
                go_ret
                exact ⟨by first | rfl | (simp [errW_none, errW_some] <;> rfl) | (simp [*, errW_none, errW_some] <;> rfl), by repeat (first | (with_reducible first | exact HB.out | apply below_alloc | apply pw_below_drewN | apply below_drew1 | refine below_set ?_ GEH.out) | exact HB.out)⟩
          ·rw [if_neg c59] at H; have c59b0 : (tAP == tAO) = false := beq_eq_false_iff_ne.mpr c59; have c59b1 : (tAP != tAO) = true := bne_iff_ne.mpr c59; obtain rfl := Option.some.inj H; obtain ⟨Ao83, co83, eo83⟩ := Kd.R_slice HO_13.out; subst eo83; go_wp2_with (first | ((with_reducible refine gate_callee (f := 20) rfl ?_); refine goesL_ (some 78) rfl rfl Try.func20 (by kernel_rfl) rfl #[.slice Ao83 tJ.length co83, .int .i64 1] rfl zz140 ?_; (with_reducible refine (laws_markRatS.calls kj38 (fun k_ => some k_ = (.slice Ao83 tJ.length co83 : Value).ownBlock) (.slice Ao83 tJ.length co83) tJ 1 tAO tI w _ ?side1 ?side2 A54.out).mono ?_); (case side1 => repeat (first | (with_reducible first | exact HB.out | apply below_alloc | apply pw_below_drewN | apply below_drew1 | refine below_set ?_ GEH.out) | exact HB.out)); (case side2 => exact Kd.R_tight rfl HO_13.out); rintro e w84 ⟨rfl, hy0, hb, hkp⟩; refine ⟨_, rfl, ?_⟩; have n0_ := Aside0.mk (Kd.R_mono (ok' := fun k_ => some k_ ≠ (.slice Ao83 tJ.length co83 : Value).ownBlock) (Kd.R_keptB (HO_10.out) hkp (fun k_ hk_ hs_ => (hk_) hs_)) (fun k_ hk_ => hk_.1)); have n1_ := Aside0.mk (Kd.R_reok rfl hy0 (fun k_ e_ => HO_13.out.1 k_ e_)); have n2_ := Aside0.mk (blk_kept zz168 hkp (fun hs_ => (fun e_ => (Kd.R_ne HO_13.out BKH.out (by decide)) e_) hs_)); clear HO_10 HO_13 BKH; have HO_10 := n0_; have HO_13 := n1_; have BKH := n2_; clear n0_ n1_ n2_; replace HB := Aside0.mk (hb); (try clear hb); (try clear hkp); (try clear hy0)) | ((with_reducible refine gate_callee (f := 21) rfl ?_); refine goesL_ (some 81) rfl rfl Try.func21 (by kernel_rfl) rfl #[.slice Ao83 tI.length co83, .int .i64 1] rfl zz59 ?_; (with_reducible refine (laws_heldRatS.calls kj38 _ _ tI 1 tAP _ ?side1 ?side2 A55.out).mono ?_); (case side1 => repeat (first | exact (Kd.R_reads' HO_13.out).2.2 | (with_reducible refine Kd.C_alloc ?_ _) | (with_reducible refine Kd.C_drewN ?_ _) | (with_reducible refine Kd.C_drew ?_))); (case side2 => rw [show tI.length = tJ.length from (Kd.R_reads' HO_13.out).1.symm]; exact (Kd.R_reads' HO_13.out).2.1); rintro e w' ⟨rfl, ⟨nd, rfl⟩⟩; refine ⟨_, rfl, ?_⟩))
           go_ret
           exact ⟨by first | rfl | (simp [errW_none, errW_some] <;> rfl) | (simp [*, errW_none, errW_some] <;> rfl), by repeat (first | (with_reducible first | exact HB.out | apply below_alloc | apply pw_below_drewN | apply below_drew1 | refine below_set ?_ GEH.out) | exact HB.out)⟩
     ·replace c37 := Bool.eq_false_iff.mpr c37; subst c37; have H1 : (some false) = some r := by rw [if_neg (show ¬ (false = true) by decide)] at H; exact H
      clear H; have H := H1; clear H1; obtain rfl := Option.some.inj H; go_wp2_with (first | ((with_reducible refine gate_callee (f := 32) rfl ?_); refine goesL_ (some 57) rfl rfl Try.func32 (by kernel_rfl) rfl #[.slice A0 l0.length c0] rfl zz140 ?_; (with_reducible refine (laws_toPointS.calls kj13 _ _ l0 tAE _ ?side1 ?side2 A35.out).mono ?_); (case side1 => repeat (first | exact (Kd.C_below HR0.out HB.out) | (with_reducible refine Kd.C_alloc ?_ _) | (with_reducible refine Kd.C_drewN ?_ _) | (with_reducible refine Kd.C_drew ?_))); (case side2 => exact HC0.out); rintro e w85 ⟨vAM, rfl, ho0, hb⟩; refine ⟨_, rfl, ?_⟩; have n0_ := Aside0.mk (Kd.R_below zz190 hb); have n1_ := Aside0.mk (Kd.R_elder' zz195 (Kd.R_base ho0) hb); have n2_ := Aside0.mk (Kd.R_below zz196 hb); have n3_ := Aside0.mk (Kd.R_lower (Kd.R_new' ho0 (Kd.R_lt zz195)) (below_size zz110)); clear HO_10 HO_12 HO_13; have HO_10 := n0_; have HO_12 := n1_; have HO_13 := n2_; have HOC := n3_; clear n0_ n1_ n2_ n3_; replace BKH := blkA BKH hb; replace HB := Aside0.mk (below_step zz110 hb); (try clear hb); (try clear ho0); obtain ⟨Ao86, co86, eo86⟩ := Kd.R_slice HOC.out; subst eo86) | ((with_reducible refine gate_callee (f := 25) rfl ?_); refine goesL_ (some 58) rfl rfl Try.func25 (by kernel_rfl) rfl #[.slice Ao24 tO.length co24, .slice Ao86 tAE.length co86] rfl zz140 ?_; (with_reducible refine (laws_eqPointS.calls kj13 _ _ tO _ _ tAE false _ ?side1 ?side2 ?side3 ?side4 A36.out).mono ?_); (case side1 => repeat (first | exact (Kd.R_reads' HO_12.out).2.2 | (with_reducible refine Kd.C_alloc ?_ _) | (with_reducible refine Kd.C_drewN ?_ _) | (with_reducible refine Kd.C_drew ?_))); (case side2 => exact (Kd.R_reads' HO_12.out).2.1); (case side3 => repeat (first | exact (Kd.R_reads' HOC.out).2.2 | (with_reducible refine Kd.C_alloc ?_ _) | (with_reducible refine Kd.C_drewN ?_ _) | (with_reducible refine Kd.C_drew ?_))); (case side4 => exact (Kd.R_reads' HOC.out).2.1); rintro e w87 ⟨rfl, hb⟩; refine ⟨_, rfl, ?_⟩; have n0_ := Aside0.mk (Kd.R_below zz190 hb); have n1_ := Aside0.mk (Kd.R_below zz195 hb); have n2_ := Aside0.mk (Kd.R_below zz196 hb); have n3_ := Aside0.mk (Kd.R_below zz187 hb); clear HO_10 HO_12 HO_13 HOC; have HO_10 := n0_; have HO_12 := n1_; have HO_13 := n2_; have HOC := n3_; clear n0_ n1_ n2_ n3_; replace BKH := blkA BKH hb; replace HB := Aside0.mk (below_step zz110 hb); (try clear hb)))
      go_ret
      exact ⟨by first | rfl | (simp [errW_none, errW_some] <;> rfl) | (simp [*, errW_none, errW_some] <;> rfl), by repeat (first | (with_reducible first | exact HB.out | apply below_alloc | apply pw_below_drewN | apply below_drew1 | refine below_set ?_ GEH.out) | exact HB.out)⟩
def laws_FnExactRoundedOrbit.Pure : Prop := ∀ (l0 : List (S87)) (a1_0 : Int) (a1_1 : Int) (a2 : Int) (a3 : Int), l0.length ≤ maxLen → (∀ x ∈ l0, (((Lit.int .i64 x.f0.f0).wf = true ∧ (Lit.int .i64 x.f0.f1).wf = true) ∧ ((Lit.int .i64 x.f1.f0).wf = true ∧ (Lit.int .i64 x.f1.f1).wf = true))) → (Lit.int .i64 a1_0).wf = true → (Lit.int .i64 a1_1).wf = true → (Lit.int .i64 a2).wf = true → (Lit.int .i64 a3).wf = true → ∃ k, laws_FnExactRoundedOrbit.f k l0 a1_0 a1_1 a2 a3 = some true
end Go.Proofs.Ytgejkhbehoabdaa.Q
set_option linter.unusedVariables false
set_option linter.unusedSimpArgs false
namespace Go.Proofs.Ytgejkhbehoabdaa.Pu
open Go.RowKit Go.Proofs.Ytgejkhbehoabdaa.Q Go.Proofs.YtgejkhbehoabdaaW.PrintWords Go.Proofs.YtgejkhbehoabdaaW.PrintLast Go.Proofs.YtgejkhbehoabdaaW.PrintMore
theorem wr (x : Int) (h : -9223372036854775808 ≤ x ∧ x ≤ 9223372036854775807) : wrap64 x = x := by unfold wrap64; omega
theorem drop_getD {α : Type} (l : List α) (i : Nat) (d : α) (h : i < l.length) : l.drop i = l.getD i d :: l.drop (i + 1) := by
  rw [List.drop_eq_getElem_cons h, List.getD_eq_getElem?_getD, List.getElem?_eq_getElem h]
  rfl
theorem getD_setG {α : Type} (l : List α) (i j : Nat) (v d : α) (hi : i < l.length) : (l.set i v).getD j d = if i = j then v else l.getD j d := by
  simp only [List.getD_eq_getElem?_getD, List.getElem?_set]
  by_cases e : i = j
  · subst e; simp [hi]
  · simp [e]
theorem ext_getDG {α : Type} (d : α) (a b : List α) (hl : a.length = b.length) (h : ∀ j, j < a.length → a.getD j d = b.getD j d) : a = b := by
  apply List.ext_getElem hl
  intro j h1 h2
  have := h j h1
  simpa [List.getD_eq_getElem?_getD, h1, h2] using this
theorem half_lt (b r n : Nat) (hb : b < 2 ^ (n + 1)) (hr : r < b) (h0 : 0 < r) : b % r < 2 ^ n := by
  have h1 : b % r < r := Nat.mod_lt _ h0
  have h2 := Nat.div_add_mod b r
  have h3 : 1 ≤ b / r := (Nat.one_le_div_iff h0).2 (Nat.le_of_lt hr)
  have h4 : r * 1 ≤ r * (b / r) := Nat.mul_le_mul_left r h3
  have h5 : 2 ^ (n + 1) = 2 * 2 ^ n := by rw [Nat.pow_succ]; omega
  omega
theorem gcd_l : ∀ (n k a b : Nat), b < 2 ^ n → 2 * n + 1 < k → impl_greatestDivisor.l0 k (a : Int) (b : Int) = some ((Nat.gcd a b : Nat) : Int) := by
  intro n
  induction n with
  | zero =>
    intro k a b hb hk
    obtain ⟨k, rfl⟩ : ∃ m, k = m + 1 := ⟨k - 1, by omega⟩
    have : b = 0 := by simpa using hb
    subst this
    simp [impl_greatestDivisor.l0]
  | succ n ih =>
    intro k a b hb hk
    obtain ⟨k, rfl⟩ : ∃ m, k = m + 2 := ⟨k - 2, by omega⟩
    simp only [impl_greatestDivisor.l0]
    by_cases h0 : b = 0
    · subst h0; simp
    · rw [if_neg (by omega), ← Int.ofNat_tmod]
      by_cases h1 : a % b = 0
      · rw [h1, if_pos (by rfl), Nat.gcd_comm, Nat.gcd_rec, h1, Nat.gcd_zero_left]
      · rw [if_neg (by omega), ← Int.ofNat_tmod, ih k _ _ (half_lt b (a % b) n hb (Nat.mod_lt _ (by omega)) (by omega)) (by omega)]
        congr 2
        rw [Nat.gcd_comm a b, Nat.gcd_rec b a, Nat.gcd_rec (a % b) b, Nat.gcd_comm]
theorem raCommon_l : ∀ (n k a b : Nat), b < 2 ^ n → 2 * n + 1 < k → spec_raCommon.l0 k (a : Int) (b : Int) = some ((Nat.gcd a b : Nat) : Int) := by
  intro n
  induction n with
  | zero =>
    intro k a b hb hk
    obtain ⟨k, rfl⟩ : ∃ m, k = m + 1 := ⟨k - 1, by omega⟩
    have : b = 0 := by simpa using hb
    subst this
    simp [spec_raCommon.l0]
  | succ n ih =>
    intro k a b hb hk
    obtain ⟨k, rfl⟩ : ∃ m, k = m + 2 := ⟨k - 2, by omega⟩
    simp only [spec_raCommon.l0]
    by_cases h0 : b = 0
    · subst h0; simp
    · rw [if_pos (by omega), if_neg (by omega), ← Int.ofNat_tmod]
      by_cases h1 : a % b = 0
      · rw [h1, if_neg (by simp), Nat.gcd_comm, Nat.gcd_rec, h1, Nat.gcd_zero_left]
      · rw [if_pos (by omega), if_neg (by omega), ← Int.ofNat_tmod, ih k _ _ (half_lt b (a % b) n hb (Nat.mod_lt _ (by omega)) (by omega)) (by omega)]
        congr 2
        rw [Nat.gcd_comm a b, Nat.gcd_rec b a, Nat.gcd_rec (a % b) b, Nat.gcd_comm]
theorem abs_eq (a : Int) (h : -9223372036854775807 ≤ a ∧ a ≤ 9223372036854775807) : impl_abs.f a = some (a.natAbs : Int) := by
  unfold impl_abs.f
  split
  · rw [wr _ (by omega)]; congr 1; omega
  · congr 1; omega
theorem l1Abs_eq (a : Int) (h : -9223372036854775807 ≤ a ∧ a ≤ 9223372036854775807) : spec_l1Abs.f a = some (a.natAbs : Int) := by
  unfold spec_l1Abs.f spec_l1Most.f
  rw [wr _ (by omega)]
  split
  · simp only [Option.bind_some]; congr 1; omega
  · simp only [Option.bind_some]; congr 1; omega
theorem gcd_eq (a b : Int) (ha : -9223372036854775807 ≤ a ∧ a ≤ 9223372036854775807) (hb : -9223372036854775807 ≤ b ∧ b ≤ 9223372036854775807) (k : Nat) (hk : 200 ≤ k) : impl_greatestDivisor.f k a b = some ((Int.gcd a b : Nat) : Int) := by
  unfold impl_greatestDivisor.f
  rw [abs_eq a ha, abs_eq b hb]
  simp only [Option.bind_some]
  rw [gcd_l 64 k _ _ (by omega) (by omega)]
  rfl
def OkR (n d : Int) : Prop := 1 ≤ d ∧ d ≤ 1000000000 ∧ -1000000000 ≤ n ∧ n ≤ 1000000000 ∧ Int.gcd n d = 1
instance (n d : Int) : Decidable (OkR n d) := by unfold OkR; infer_instance
theorem isRat_eq (n d : Int) (k : Nat) (hk : 200 ≤ k) : impl_isRat.f k n d = some (decide (OkR n d)) := by
  unfold impl_isRat.f impl_within.f OkR
  by_cases h1 : 1 ≤ d
  · rw [if_pos h1]
    simp only [Option.bind_some]
    by_cases h2 : d ≤ 1000000000
    · rw [if_pos (by simpa using h2)]
      by_cases h3 : -1000000000 ≤ n
      · rw [if_pos h3]
        simp only [Option.bind_some]
        by_cases h4 : n ≤ 1000000000
        · rw [if_pos (by simpa using h4), gcd_eq n d (by omega) (by omega) k hk]
          simp only [Option.bind_some]
          congr 1
          simp only [h1, h2, h3, h4, true_and]
          rw [Bool.eq_iff_iff]
          simp only [beq_iff_eq, decide_eq_true_eq]
          omega
        · rw [if_neg (by simpa using h4)]; simp [h4]
      · rw [if_neg h3]; simp [h3]
    · rw [if_neg (by simpa using h2)]; simp [h2]
  · rw [if_neg h1]; simp [h1]
theorem raGood_eq (n d : Int) (k : Nat) (hk : 200 ≤ k) : spec_raGood.f k n d = some (decide (OkR n d)) := by
  unfold spec_raGood.f spec_l1In.f OkR
  by_cases h1 : 1 ≤ d
  · rw [if_pos h1]
    simp only [Option.bind_some]
    by_cases h2 : d ≤ 1000000000
    · rw [if_pos (by simpa using h2)]
      by_cases h3 : -1000000000 ≤ n
      · rw [if_pos h3]
        simp only [Option.bind_some]
        by_cases h4 : n ≤ 1000000000
        · rw [if_pos (by simpa using h4), l1Abs_eq n (by omega)]
          simp only [Option.bind_some]
          unfold spec_raCommon.f
          have := raCommon_l 64 k n.natAbs d.natAbs (by omega) (by omega)
          rw [show (d.natAbs : Int) = d by omega] at this
          rw [this]
          simp only [Option.bind_some]
          congr 1
          simp only [h1, h2, h3, h4, true_and]
          rw [Bool.eq_iff_iff, Int.gcd_eq_natAbs_gcd_natAbs]
          simp only [beq_iff_eq, decide_eq_true_eq]
          omega
        · rw [if_neg (by simpa using h4)]; simp [h4]
      · rw [if_neg h3]; simp [h3]
    · rw [if_neg (by simpa using h2)]; simp [h2]
  · rw [if_neg h1]; simp [h1]
def sg (n d : Int) : Int := if d < 0 then -(Int.gcd n d : Int) else (Int.gcd n d : Int)
def mk (n d : Int) : Int × Int × Bool := if OkR (n.tdiv (sg n d)) (d.tdiv (sg n d)) then (n.tdiv (sg n d), d.tdiv (sg n d), true) else (0, 0, false)
theorem tdiv_bd (n q : Int) (h : -9223372036854775807 ≤ n ∧ n ≤ 9223372036854775807) : -9223372036854775808 ≤ n.tdiv q ∧ n.tdiv q ≤ 9223372036854775807 := by
  have h1 := Int.natAbs_tdiv n q
  have h2 : n.natAbs.div q.natAbs ≤ n.natAbs := Nat.div_le_self _ _
  omega
theorem gcd_pos (n d : Int) (hd : d ≠ 0) : 0 < Int.gcd n d := by
  rw [Int.gcd_eq_natAbs_gcd_natAbs]
  exact Nat.gcd_pos_of_pos_right _ (by omega)
theorem gcd_le (n d : Int) (hd : d ≠ 0) : Int.gcd n d ≤ d.natAbs := by
  rw [Int.gcd_eq_natAbs_gcd_natAbs]
  exact Nat.gcd_le_right _ (by omega)
theorem lowest_eq (n d : Int) (hd : d ≠ 0) (hn : -9223372036854775807 ≤ n ∧ n ≤ 9223372036854775807) (hd2 : -9223372036854775807 ≤ d ∧ d ≤ 9223372036854775807) (k : Nat) (hk : 200 ≤ k) : impl_lowest.f k n d = some (mk n d) := by
  unfold impl_lowest.f mk
  have h1 := gcd_pos n d hd
  have h2 := gcd_le n d hd
  rw [gcd_eq n d hn hd2 k hk]
  simp only [Option.bind_some]
  unfold sg
  split
  · rw [wr (-(Int.gcd n d : Int)) (by omega), if_neg (by omega), wr _ (tdiv_bd _ _ hn), wr _ (tdiv_bd _ _ hd2), isRat_eq _ _ k hk]
    simp only [Option.bind_some, decide_eq_true_eq]
    split <;> rfl
  · rw [if_neg (by omega), wr _ (tdiv_bd _ _ hn), wr _ (tdiv_bd _ _ hd2), isRat_eq _ _ k hk]
    simp only [Option.bind_some, decide_eq_true_eq]
    split <;> rfl
theorem raMake_eq (n d : Int) (hd : d ≠ 0) (hn : -9223372036854775807 ≤ n ∧ n ≤ 9223372036854775807) (hd2 : -9223372036854775807 ≤ d ∧ d ≤ 9223372036854775807) (k : Nat) (hk : 200 ≤ k) : spec_raMake.f k n d = some (mk n d) := by
  unfold spec_raMake.f mk
  have h1 := gcd_pos n d hd
  have h2 := gcd_le n d hd
  rw [if_neg hd, l1Abs_eq n hn, l1Abs_eq d hd2]
  simp only [Option.bind_some]
  unfold spec_raCommon.f
  rw [raCommon_l 64 k _ _ (by omega) (by omega)]
  simp only [Option.bind_some]
  rw [← Int.gcd_eq_natAbs_gcd_natAbs]
  unfold sg
  split
  · rw [wr (-(Int.gcd n d : Int)) (by omega), if_neg (by omega), wr _ (tdiv_bd _ _ hn), wr _ (tdiv_bd _ _ hd2), raGood_eq _ _ k hk]
    simp only [Option.bind_some, decide_eq_true_eq]
    split <;> rfl
  · rw [if_neg (by omega), wr _ (tdiv_bd _ _ hn), wr _ (tdiv_bd _ _ hd2), raGood_eq _ _ k hk]
    simp only [Option.bind_some, decide_eq_true_eq]
    split <;> rfl
theorem raMake_zero (n : Int) (k : Nat) : spec_raMake.f k n 0 = some (0, 0, false) := by
  unfold spec_raMake.f
  rw [if_pos rfl]
theorem mk_ok (n d : Int) (h : (mk n d).2.2 = true) : OkR (mk n d).1 (mk n d).2.1 := by
  unfold mk at h ⊢
  split
  · rename_i h1; exact h1
  · rename_i h1; rw [if_neg h1] at h; cases h
theorem mk_bad (n d : Int) (h : (mk n d).2.2 = false) : mk n d = (0, 0, false) := by
  unfold mk at h ⊢
  split
  · rename_i h1; rw [if_pos h1] at h; cases h
  · rfl
theorem natAbs_div_le (n q : Int) : (n.tdiv q).natAbs ≤ n.natAbs := by
  rw [Int.natAbs_tdiv]
  exact Nat.div_le_self _ _
theorem mk_small (n d : Int) (hd : d ≠ 0) (hn : n.natAbs ≤ 1000000000) (hd2 : d.natAbs ≤ 1000000000) : OkR (n.tdiv (sg n d)) (d.tdiv (sg n d)) ∧ (n.tdiv (sg n d)).natAbs ≤ n.natAbs ∧ (d.tdiv (sg n d)).natAbs ≤ d.natAbs ∧ mk n d = (n.tdiv (sg n d), d.tdiv (sg n d), true) := by
  have hg := gcd_pos n d hd
  have e1 : (Int.gcd n d : Int) ∣ n := Int.gcd_dvd_left n d
  have e2 : (Int.gcd n d : Int) ∣ d := Int.gcd_dvd_right n d
  have h1 := natAbs_div_le n (sg n d)
  have h2 := natAbs_div_le d (sg n d)
  have hgo := Int.gcd_ediv_gcd_ediv_gcd hg
  have ok : OkR (n.tdiv (sg n d)) (d.tdiv (sg n d)) := by
    have hpos : 1 ≤ d.tdiv (sg n d) ∧ Int.gcd (n.tdiv (sg n d)) (d.tdiv (sg n d)) = 1 := by
      unfold sg
      split
      · rename_i hneg
        rw [Int.tdiv_neg, Int.tdiv_neg, Int.gcd_neg, Int.neg_gcd, Int.tdiv_eq_ediv_of_dvd e1, Int.tdiv_eq_ediv_of_dvd e2]
        refine ⟨?_, hgo⟩
        obtain ⟨c, hc⟩ := e2
        have : d / (Int.gcd n d : Int) = c := by
          conv => lhs; lhs; rw [hc]
          exact Int.mul_ediv_cancel_left c (by omega)
        rw [this]
        have : c < 0 := by
          rcases Int.lt_or_le c 0 with h | h
          · exact h
          · have := Int.mul_nonneg (show (0 : Int) ≤ (Int.gcd n d : Int) by omega) h
            omega
        omega
      · rename_i hpos
        rw [Int.tdiv_eq_ediv_of_dvd e1, Int.tdiv_eq_ediv_of_dvd e2]
        refine ⟨?_, hgo⟩
        obtain ⟨c, hc⟩ := e2
        have : d / (Int.gcd n d : Int) = c := by
          conv => lhs; lhs; rw [hc]
          exact Int.mul_ediv_cancel_left c (by omega)
        rw [this]
        rcases Int.lt_or_le 0 c with h | h
        · omega
        · have := Int.mul_le_mul_of_nonneg_left h (show (0 : Int) ≤ (Int.gcd n d : Int) by omega)
          rw [Int.mul_zero] at this
          omega
    exact ⟨hpos.1, by omega, by omega, by omega, hpos.2⟩
  exact ⟨ok, h1, h2, by unfold mk; rw [if_pos ok]⟩
end Go.Proofs.Ytgejkhbehoabdaa.Pu
set_option linter.unusedVariables false
set_option linter.unusedSimpArgs false
namespace Go.Proofs.Ytgejkhbehoabdaa.Pu
open Go.RowKit Go.Proofs.Ytgejkhbehoabdaa.Q Go.Proofs.YtgejkhbehoabdaaW.PrintWords Go.Proofs.YtgejkhbehoabdaaW.PrintLast Go.Proofs.YtgejkhbehoabdaaW.PrintMore
theorem rdRat (l : List S47) (i : Nat) : rd_T47 l (i : Int) = l.getD i z47 := by simp [rd_T47]
theorem eqRat_self (x : S47) : laws_eqRat.f x.f0 x.f1 x.f0 x.f1 = some true := by
  simp [laws_eqRat.f, laws_eqRat.f]
theorem eqRatS_l (a : List S47) (hb : a.length ≤ 9000000000000000000) : ∀ (d k : Nat) (i : Nat), i + d = a.length → d < k → laws_eqRatS.l0 k a a (i : Int) = some true := by
  intro d
  induction d with
  | zero =>
    intro k i hi hk
    obtain ⟨k, rfl⟩ : ∃ m, k = m + 1 := ⟨k - 1, by omega⟩
    simp only [laws_eqRatS.l0]
    rw [if_neg (by omega)]
  | succ d ih =>
    intro k i hi hk
    obtain ⟨k, rfl⟩ : ∃ m, k = m + 1 := ⟨k - 1, by omega⟩
    simp only [laws_eqRatS.l0, eqRat_self, Option.bind_some]
    rw [if_pos (by omega), if_pos (by omega), if_pos (by omega), wr _ (by omega)]
    exact ih k (i + 1) (by omega) (by omega)
theorem eqRatS_self (a : List S47) (hb : a.length ≤ 9000000000000000000) (k : Nat) (hk : a.length < k) : laws_eqRatS.f k a a = some true := by
  unfold laws_eqRatS.f
  rw [if_pos rfl]
  exact eqRatS_l a hb a.length k 0 (by omega) hk
def mRat (q : Int) : S47 := ⟨q, q + 1⟩
def marksRat (q : Int) (n : Nat) : List S47 := (List.range n).map fun (j : Nat) => mRat (q + 2 * (j : Int))
theorem marksRat_length (q : Int) (n : Nat) : (marksRat q n).length = n := by simp [marksRat]
theorem marksRat_getD (q : Int) (n j : Nat) (h : j < n) : (marksRat q n).getD j z47 = mRat (q + 2 * (j : Int)) := by
  simp [marksRat, List.getD_eq_getElem?_getD, h]
theorem markRatS_l (n : Nat) (q : Int) (hq : -4000000000000000 ≤ q ∧ q ≤ 4000000000000000) (hb : n ≤ 4000000000000000) : ∀ (d k : Nat) (x : List S47) (i : Nat), i + d = n → x.length = n → (∀ j, j < i → x.getD j z47 = mRat (q + 2 * (j : Int))) → d < k → laws_markRatS.l0 k x (q + 2 * (i : Int)) (i : Int) = some (q + 2 * (n : Int), marksRat q n) := by
  intro d
  induction d with
  | zero =>
    intro k x i hi hl hj hk
    obtain ⟨k, rfl⟩ : ∃ m, k = m + 1 := ⟨k - 1, by omega⟩
    simp only [laws_markRatS.l0]
    rw [if_neg (by omega), ext_getDG z47 x (marksRat q n) (by rw [marksRat_length, hl]) (fun j h => by rw [hj j (by omega), marksRat_getD _ _ _ (by omega)])]
    rw [show i = n by omega]
  | succ d ih =>
    intro k x i hi hl hj hk
    obtain ⟨k, rfl⟩ : ∃ m, k = m + 1 := ⟨k - 1, by omega⟩
    simp only [laws_markRatS.l0, Option.bind_some, Int.toNat_natCast]
    rw [if_pos (by omega), if_pos (by omega)]
    repeat rw [wr _ (by omega)]
    have := ih k (x.set i (mRat (q + 2 * (i : Int)))) (i + 1) (by omega) (by simpa using hl) (fun j h => by
      rw [getD_setG _ _ _ _ _ (by omega)]
      split
      · rename_i e; rw [e]
      · exact hj j (by omega)) (by omega)
    rw [show q + 2 * ((i + 1 : Nat) : Int) = q + 2 * (i : Int) + 1 + 1 by omega] at this
    rw [← this]
    congr 1
    simp only [rdRat, List.set_set, getD_setG _ _ _ _ _ (show i < x.length by omega), List.length_set, if_true]
    try rfl
theorem markRatS (l : List S47) (q : Int) (hq : -4000000000000000 ≤ q ∧ q ≤ 4000000000000000) (hb : l.length ≤ 4000000000000000) (k : Nat) (hk : l.length < k) : laws_markRatS.f k l q = some (q + 2 * (l.length : Int), marksRat q l.length) := by
  unfold laws_markRatS.f
  have := markRatS_l l.length q hq hb l.length k l 0 (by omega) rfl (fun j h => by omega) hk
  simpa using this
theorem heldRatS_l (n : Nat) (q : Int) (hq : -4000000000000000 ≤ q ∧ q ≤ 4000000000000000) (hb : n ≤ 4000000000000000) : ∀ (d k : Nat) (i : Nat), i + d = n → d < k → laws_heldRatS.l0 k (marksRat q n) (q + 2 * (i : Int)) (i : Int) = some (q + 2 * (n : Int)) := by
  intro d
  induction d with
  | zero =>
    intro k i hi hk
    obtain ⟨k, rfl⟩ : ∃ m, k = m + 1 := ⟨k - 1, by omega⟩
    simp only [laws_heldRatS.l0, marksRat_length]
    rw [if_neg (by omega), show i = n by omega]
  | succ d ih =>
    intro k i hi hk
    obtain ⟨k, rfl⟩ : ∃ m, k = m + 1 := ⟨k - 1, by omega⟩
    simp only [laws_heldRatS.l0, marksRat_length, rdRat, marksRat_getD _ _ _ (show i < n by omega), mRat]
    rw [if_pos (by omega), if_pos (by omega)]
    simp only [if_true]
    repeat rw [wr _ (by omega)]
    have := ih k (i + 1) (by omega) (by omega)
    rw [show q + 2 * ((i + 1 : Nat) : Int) = q + 2 * (i : Int) + 1 + 1 by omega] at this
    simp only [if_true]
    exact this
theorem heldRatS (n : Nat) (q : Int) (hq : -4000000000000000 ≤ q ∧ q ≤ 4000000000000000) (hb : n ≤ 4000000000000000) (k : Nat) (hk : n < k) : laws_heldRatS.f k (marksRat q n) q = some (q + 2 * (n : Int)) := by
  unfold laws_heldRatS.f
  have := heldRatS_l n q hq hb n k 0 (by omega) hk
  simpa using this
end Go.Proofs.Ytgejkhbehoabdaa.Pu
set_option linter.unusedVariables false
set_option linter.unusedSimpArgs false
namespace Go.Proofs.Ytgejkhbehoabdaa.Pu
open Go.RowKit Go.Proofs.Ytgejkhbehoabdaa.Q Go.Proofs.YtgejkhbehoabdaaW.PrintWords Go.Proofs.YtgejkhbehoabdaaW.PrintLast Go.Proofs.YtgejkhbehoabdaaW.PrintMore
theorem rdPoint (l : List S79) (i : Nat) : rd_T79 l (i : Int) = l.getD i z79 := by simp [rd_T79]
theorem rdlPoint (l : List S87) (i : Nat) : rd_T87 l (i : Int) = l.getD i z87 := by simp [rd_T87]
def cvPoint (x : S87) : S79 := ⟨⟨x.f0.f0, x.f0.f1⟩, ⟨x.f1.f0, x.f1.f1⟩⟩
theorem cvPoint_getD (l : List S87) (i : Nat) (h : i < l.length) : (l.map cvPoint).getD i z79 = cvPoint (l.getD i z87) := by
  simp [List.getD_eq_getElem?_getD, h]
theorem toPointS_l (x0 : List S87) (hb : x0.length ≤ 9000000000000000000) : ∀ (d k : Nat) (x3 : List S79) (i : Nat), i + d = x0.length → x3.length = x0.length → (∀ j, j < i → x3.getD j z79 = cvPoint (x0.getD j z87)) → d < k → laws_toPointS.l0 k x0 x3 (i : Int) = some (x0.map cvPoint) := by
  intro d
  induction d with
  | zero =>
    intro k x3 i hi hl hj hk
    obtain ⟨k, rfl⟩ : ∃ m, k = m + 1 := ⟨k - 1, by omega⟩
    simp only [laws_toPointS.l0]
    rw [if_neg (by omega), ext_getDG z79 x3 (x0.map cvPoint) (by simpa using hl) (fun j h => by rw [hj j (by omega), cvPoint_getD _ _ (by omega)])]
  | succ d ih =>
    intro k x3 i hi hl hj hk
    obtain ⟨k, rfl⟩ : ∃ m, k = m + 1 := ⟨k - 1, by omega⟩
    simp only [laws_toPointS.l0, laws_toPoint.f, laws_toRat.f, Option.bind_some]
    rw [if_pos (by omega), if_pos (by omega), if_pos (by omega), wr _ (by omega), Int.toNat_natCast, rdlPoint]
    refine ih k _ (i + 1) (by omega) (by simpa using hl) (fun j h => ?_) (by omega)
    rw [getD_setG _ _ _ _ _ (by omega)]
    split
    · rename_i e; rw [← e]; rfl
    · exact hj j (by omega)
theorem toPointS (l : List S87) (hb : l.length ≤ 1048576) (k : Nat) (hk : l.length < k) : laws_toPointS.f k l = some (l.map cvPoint) := by
  unfold laws_toPointS.f
  rw [if_pos (by omega), if_pos (by omega)]
  exact toPointS_l l (by omega) l.length k _ 0 (by omega) (by simp) (fun j h => by omega) hk
theorem eqPoint_self (x : S79) : laws_eqPoint.f x.f0.f0 x.f0.f1 x.f1.f0 x.f1.f1 x.f0.f0 x.f0.f1 x.f1.f0 x.f1.f1 = some true := by
  simp [laws_eqPoint.f, laws_eqRat.f]
theorem eqPointS_l (a : List S79) (hb : a.length ≤ 9000000000000000000) : ∀ (d k : Nat) (i : Nat), i + d = a.length → d < k → laws_eqPointS.l0 k a a (i : Int) = some true := by
  intro d
  induction d with
  | zero =>
    intro k i hi hk
    obtain ⟨k, rfl⟩ : ∃ m, k = m + 1 := ⟨k - 1, by omega⟩
    simp only [laws_eqPointS.l0]
    rw [if_neg (by omega)]
  | succ d ih =>
    intro k i hi hk
    obtain ⟨k, rfl⟩ : ∃ m, k = m + 1 := ⟨k - 1, by omega⟩
    simp only [laws_eqPointS.l0, eqPoint_self, Option.bind_some]
    rw [if_pos (by omega), if_pos (by omega), if_pos (by omega), wr _ (by omega)]
    exact ih k (i + 1) (by omega) (by omega)
theorem eqPointS_self (a : List S79) (hb : a.length ≤ 9000000000000000000) (k : Nat) (hk : a.length < k) : laws_eqPointS.f k a a = some true := by
  unfold laws_eqPointS.f
  rw [if_pos rfl]
  exact eqPointS_l a hb a.length k 0 (by omega) hk
def mPoint (q : Int) : S79 := ⟨⟨q, q + 1⟩, ⟨q + 1 + 1, q + 1 + 1 + 1⟩⟩
def marksPoint (q : Int) (n : Nat) : List S79 := (List.range n).map fun (j : Nat) => mPoint (q + 4 * (j : Int))
theorem marksPoint_length (q : Int) (n : Nat) : (marksPoint q n).length = n := by simp [marksPoint]
theorem marksPoint_getD (q : Int) (n j : Nat) (h : j < n) : (marksPoint q n).getD j z79 = mPoint (q + 4 * (j : Int)) := by
  simp [marksPoint, List.getD_eq_getElem?_getD, h]
theorem markPointS_l (n : Nat) (q : Int) (hq : -4000000000000000 ≤ q ∧ q ≤ 4000000000000000) (hb : n ≤ 4000000000000000) : ∀ (d k : Nat) (x : List S79) (i : Nat), i + d = n → x.length = n → (∀ j, j < i → x.getD j z79 = mPoint (q + 4 * (j : Int))) → d < k → laws_markPointS.l0 k x (q + 4 * (i : Int)) (i : Int) = some (q + 4 * (n : Int), marksPoint q n) := by
  intro d
  induction d with
  | zero =>
    intro k x i hi hl hj hk
    obtain ⟨k, rfl⟩ : ∃ m, k = m + 1 := ⟨k - 1, by omega⟩
    simp only [laws_markPointS.l0]
    rw [if_neg (by omega), ext_getDG z79 x (marksPoint q n) (by rw [marksPoint_length, hl]) (fun j h => by rw [hj j (by omega), marksPoint_getD _ _ _ (by omega)])]
    rw [show i = n by omega]
  | succ d ih =>
    intro k x i hi hl hj hk
    obtain ⟨k, rfl⟩ : ∃ m, k = m + 1 := ⟨k - 1, by omega⟩
    simp only [laws_markPointS.l0, Option.bind_some, Int.toNat_natCast]
    rw [if_pos (by omega), if_pos (by omega)]
    repeat rw [wr _ (by omega)]
    have := ih k (x.set i (mPoint (q + 4 * (i : Int)))) (i + 1) (by omega) (by simpa using hl) (fun j h => by
      rw [getD_setG _ _ _ _ _ (by omega)]
      split
      · rename_i e; rw [e]
      · exact hj j (by omega)) (by omega)
    rw [show q + 4 * ((i + 1 : Nat) : Int) = q + 4 * (i : Int) + 1 + 1 + 1 + 1 by omega] at this
    rw [← this]
    congr 1
    simp only [rdPoint, List.set_set, getD_setG _ _ _ _ _ (show i < x.length by omega), List.length_set, if_true]
    try rfl
theorem markPointS (l : List S79) (q : Int) (hq : -4000000000000000 ≤ q ∧ q ≤ 4000000000000000) (hb : l.length ≤ 4000000000000000) (k : Nat) (hk : l.length < k) : laws_markPointS.f k l q = some (q + 4 * (l.length : Int), marksPoint q l.length) := by
  unfold laws_markPointS.f
  have := markPointS_l l.length q hq hb l.length k l 0 (by omega) rfl (fun j h => by omega) hk
  simpa using this
end Go.Proofs.Ytgejkhbehoabdaa.Pu
set_option linter.unusedVariables false
set_option linter.unusedSimpArgs false
namespace Go.Proofs.Ytgejkhbehoabdaa.Pu
open Go.RowKit Go.Proofs.Ytgejkhbehoabdaa.Q Go.Proofs.YtgejkhbehoabdaaW.PrintWords Go.Proofs.YtgejkhbehoabdaaW.PrintLast Go.Proofs.YtgejkhbehoabdaaW.PrintMore
theorem mul_bd (x y : Int) (B C : Nat) (hx : x.natAbs ≤ B) (hy : y.natAbs ≤ C) : (x * y).natAbs ≤ B * C := by
  rw [Int.natAbs_mul]
  exact Nat.mul_le_mul hx hy
def Bd (n d : Int) : Prop := n.natAbs ≤ 1000000000 ∧ d.natAbs ≤ 1000000000
theorem OkR.bd {n d : Int} (h : OkR n d) : Bd n d := by
  obtain ⟨h1, h2, h3, h4, _⟩ := h
  exact ⟨by omega, by omega⟩
theorem cross_bd {a b c d : Int} (h1 : Bd a b) (h2 : Bd c d) : (a * d).natAbs ≤ 1000000000000000000 ∧ (c * b).natAbs ≤ 1000000000000000000 ∧ (b * d).natAbs ≤ 1000000000000000000 ∧ (a * c).natAbs ≤ 1000000000000000000 :=
  ⟨mul_bd a d _ _ h1.1 h2.2, mul_bd c b _ _ h2.1 h1.2, mul_bd b d _ _ h1.2 h2.2, mul_bd a c _ _ h1.1 h2.1⟩
theorem less_eq {a b c d : Int} (h1 : Bd a b) (h2 : Bd c d) : impl_less.f a b c d = some (decide (a * d < c * b)) := by
  obtain ⟨m1, m2, _⟩ := cross_bd h1 h2
  unfold impl_less.f impl_compare.f
  generalize a * d = p at *
  generalize c * b = q at *
  rw [wr p (by omega), wr q (by omega)]
  by_cases h : p < q
  · rw [if_pos h]; simp [h]
  · rw [if_neg h]
    by_cases h3 : p > q
    · rw [if_pos h3]; simp [h]
    · rw [if_neg h3]; simp [h]
theorem raCmp_eq {a b c d : Int} (h1 : Bd a b) (h2 : Bd c d) : ∃ t, spec_raCmp.f a b c d = some t ∧ (t < 0 ↔ a * d < c * b) ∧ (t = 0 ↔ a * d = c * b) := by
  obtain ⟨m1, m2, _⟩ := cross_bd h1 h2
  unfold spec_raCmp.f spec_l1Sign.f
  generalize a * d = p at *
  generalize c * b = q at *
  rw [wr p (by omega), wr q (by omega), wr (p - q) (by omega)]
  by_cases h : p - q > 0
  · rw [if_pos h]
    exact ⟨1, rfl, by omega, by omega⟩
  · rw [if_neg h]
    by_cases h3 : p - q < 0
    · rw [if_pos h3]
      exact ⟨-1, rfl, by omega, by omega⟩
    · rw [if_neg h3]
      exact ⟨0, rfl, by omega, by omega⟩
def OkU (n d : Int) : Prop := OkR n d ∧ 0 ≤ n ∧ n ≤ d
instance (n d : Int) : Decidable (OkU n d) := by unfold OkU; infer_instance
def Co (n d : Int) : Prop := OkU n d ∧ d ≤ 100
instance (n d : Int) : Decidable (Co n d) := by unfold Co; infer_instance
theorem isUnit_eq (n d : Int) (k : Nat) (hk : 200 ≤ k) : impl_isUnit.f k n d = some (decide (OkU n d)) := by
  unfold impl_isUnit.f OkU
  rw [isRat_eq n d k hk]
  simp only [Option.bind_some, decide_eq_true_eq]
  by_cases h : OkR n d
  · rw [if_pos h]
    by_cases h2 : n ≥ 0
    · rw [if_pos h2]; simp [h, h2]
    · rw [if_neg h2]; simp [h2]
  · rw [if_neg h]; simp [h]
theorem raUnit_eq (n d : Int) (k : Nat) (hk : 200 ≤ k) : spec_raUnit.f k n d = some (decide (OkU n d)) := by
  unfold spec_raUnit.f spec_l1In.f OkU
  rw [raGood_eq n d k hk]
  simp only [Option.bind_some, decide_eq_true_eq]
  by_cases h : OkR n d
  · rw [if_pos h]
    by_cases h2 : n ≥ 0
    · rw [if_pos h2]; simp [h, h2]
    · rw [if_neg h2]; simp [h2]
  · rw [if_neg h]; simp [h]
theorem isCoord_eq (n d : Int) (k : Nat) (hk : 200 ≤ k) : impl_isCoord.f k n d = some (decide (Co n d)) := by
  unfold impl_isCoord.f Co
  rw [isUnit_eq n d k hk]
  simp only [Option.bind_some, decide_eq_true_eq]
  by_cases h : OkU n d
  · rw [if_pos h]; simp [h]
  · rw [if_neg h]; simp [h]
theorem imCoord_eq (n d : Int) (k : Nat) (hk : 200 ≤ k) : spec_imCoord.f k n d = some (decide (Co n d)) := by
  unfold spec_imCoord.f Co
  rw [raUnit_eq n d k hk]
  simp only [Option.bind_some, decide_eq_true_eq]
  by_cases h : OkU n d
  · rw [if_pos h]; simp [h]
  · rw [if_neg h]; simp [h]
abbrev Ra := S47
abbrev Pt := S79
def nr (l : List Ra) (i : Nat) : Ra := l.getD i z47
def np (l : List Pt) (i : Nat) : Pt := l.getD i z79
theorem rd_nr (l : List Ra) (i : Nat) : rd_T47 l (i : Int) = nr l i := rdRat l i
theorem rd_np (l : List Pt) (i : Nat) : rd_T79 l (i : Int) = np l i := rdPoint l i
theorem rd_np0 (l : List Pt) : rd_T79 l 0 = np l 0 := rdPoint l 0
theorem nr_mem (l : List Ra) (i : Nat) (h : i < l.length) : nr l i ∈ l := getD_mem l i _ h
theorem np_mem (l : List Pt) (i : Nat) (h : i < l.length) : np l i ∈ l := getD_mem l i _ h
theorem mem_np (l : List Pt) (x : Pt) (h : x ∈ l) : ∃ i, i < l.length ∧ np l i = x := by
  obtain ⟨i, hi, e⟩ := List.mem_iff_getElem.1 h
  exact ⟨i, hi, by simp [np, List.getD_eq_getElem?_getD, hi, e]⟩
def Lt (a b : Ra) : Prop := a.f0 * b.f1 < b.f0 * a.f1
instance (a b : Ra) : Decidable (Lt a b) := by unfold Lt; infer_instance
def BdR (a : Ra) : Prop := Bd a.f0 a.f1
theorem rising_l (l : List Ra) (hl : l.length ≤ 1048576) (hb : ∀ x ∈ l, BdR x) : ∀ (d k i : Nat), 1 ≤ i → i + d = l.length ∨ d = 0 ∧ l.length ≤ i ∧ i ≤ 1048577 → d < k →
    ∃ b, impl_isRising.l0 k l (i : Int) = some b ∧ (b = true ↔ ∀ j, i ≤ j → j < l.length → Lt (nr l (j - 1)) (nr l j)) := by
  intro d
  induction d with
  | zero =>
    intro k i h1 hi hk
    obtain ⟨k, rfl⟩ : ∃ m, k = m + 1 := ⟨k - 1, by omega⟩
    simp only [impl_isRising.l0]
    rw [if_neg (by omega)]
    exact ⟨true, rfl, by simp; intro j _ _; omega⟩
  | succ d ih =>
    intro k i h1 hi hk
    obtain ⟨k, rfl⟩ : ∃ m, k = m + 1 := ⟨k - 1, by omega⟩
    simp only [impl_isRising.l0]
    rw [wr (_ - 1) (by omega), wr (_ + 1) (by omega), if_pos (by omega), if_pos (by omega), if_pos (by omega), if_pos (by omega),
      show (i : Int) - 1 = ((i - 1 : Nat) : Int) by omega, show (i : Int) + 1 = ((i + 1 : Nat) : Int) by omega, rd_nr, rd_nr, less_eq (hb _ (nr_mem l _ (by omega))) (hb _ (nr_mem l _ (by omega)))]
    simp only [Option.bind_some, decide_eq_true_eq]
    by_cases h : Lt (nr l (i - 1)) (nr l i)
    · rw [if_pos (show (nr l (i - 1)).f0 * (nr l i).f1 < (nr l i).f0 * (nr l (i - 1)).f1 from h)]
      obtain ⟨b, e, hb2⟩ := ih k (i + 1) (by omega) (by omega) (by omega)
      refine ⟨b, e, hb2.trans ⟨fun hh j hj hl2 => ?_, fun hh j hj hl2 => hh j (by omega) hl2⟩⟩
      by_cases ej : j = i
      · subst ej; exact h
      · exact hh j (by omega) hl2
    · rw [if_neg (show ¬ (nr l (i - 1)).f0 * (nr l i).f1 < (nr l i).f0 * (nr l (i - 1)).f1 from h)]
      exact ⟨false, rfl, by simp; exact ⟨i, Nat.le_refl _, by omega, h⟩⟩
def Rising (l : List Ra) : Prop := ∀ j, 1 ≤ j → j < l.length → Lt (nr l (j - 1)) (nr l j)
theorem rising_eq (l : List Ra) (hl : l.length ≤ 1048576) (hb : ∀ x ∈ l, BdR x) (k : Nat) (hk : l.length < k) : ∃ b, impl_isRising.f k l = some b ∧ (b = true ↔ Rising l) := by
  unfold impl_isRising.f
  exact rising_l l hl hb (l.length - 1) k 1 (by omega) (by omega) (by omega)
theorem xsOf_l (l : List Pt) (hl : l.length ≤ 1048576) : ∀ (d k i : Nat) (out : List Ra), i + d = l.length → out.length ≤ i → d < k → impl_xsOf.l0 k out l (l.length : Int) (i : Int) = some (out ++ (l.drop i).map fun p => p.f0) := by
  intro d
  induction d with
  | zero =>
    intro k i out hi ho hk
    obtain ⟨k, rfl⟩ : ∃ m, k = m + 1 := ⟨k - 1, by omega⟩
    simp only [impl_xsOf.l0]
    rw [if_neg (by omega), List.drop_of_length_le (by omega)]
    simp
  | succ d ih =>
    intro k i out hi ho hk
    obtain ⟨k, rfl⟩ : ∃ m, k = m + 1 := ⟨k - 1, by omega⟩
    simp only [impl_xsOf.l0]
    rw [wr (_ + 1) (by omega), if_pos (by omega), if_pos (by omega), if_pos (by omega), if_pos (by omega), show (i : Int) + 1 = ((i + 1 : Nat) : Int) by omega, rd_np, ih k (i + 1) _ (by omega) (by simp; omega) (by omega),
      drop_getD l i z79 (by omega)]
    simp [np]
theorem xsOf_eq (l : List Pt) (hl : l.length ≤ 1048576) (k : Nat) (hk : l.length < k) : impl_xsOf.f k l = some (l.map fun p => p.f0) := by
  unfold impl_xsOf.f
  have := xsOf_l l hl l.length k 0 [] (by omega) (by simp) hk
  simpa using this
theorem nr_xs (l : List Pt) (i : Nat) (h : i < l.length) : nr (l.map fun p => p.f0) i = (np l i).f0 := by
  simp [nr, np, List.getD_eq_getElem?_getD, h]
def CoP (p : Pt) : Prop := Co p.f0.f0 p.f0.f1 ∧ Co p.f1.f0 p.f1.f1
instance (p : Pt) : Decidable (CoP p) := by unfold CoP; infer_instance
structure IsMap (l : List Pt) : Prop where
  two : 2 ≤ l.length
  most : l.length ≤ 12
  co : ∀ i, i < l.length → CoP (np l i)
  up : ∀ i, 1 ≤ i → i < l.length → Lt (np l (i - 1)).f0 (np l i).f0
  first : (np l 0).f0 = ⟨0, 1⟩
  last : (np l (l.length - 1)).f0 = ⟨1, 1⟩
theorem CoP.bx {p : Pt} (h : CoP p) : BdR p.f0 := h.1.1.1.bd
theorem CoP.by {p : Pt} (h : CoP p) : BdR p.f1 := h.2.1.1.bd
theorem rat_ext {a : Ra} {n d : Int} (h0 : a.f0 = n) (h1 : a.f1 = d) : a = ⟨n, d⟩ := by cases a; simp_all
theorem isMap_eq (l : List Pt) (hl : l.length ≤ 1048576) (k : Nat) (hk : 1000 ≤ k) : ∃ b, impl_isMap.f k l = some b ∧ (b = true ↔ IsMap l) := by
  unfold impl_isMap.f impl_within.f
  obtain ⟨k, rfl⟩ : ∃ m, k = m + 1 := ⟨k - 1, by omega⟩
  by_cases h2 : (2 : Int) ≤ (l.length : Int)
  · rw [if_pos h2]
    simp only [Option.bind_some]
    by_cases h12 : (l.length : Int) ≤ 12
    · rw [if_pos (by simpa using h12)]
      have hc : ContainsFunc_impl_isMap_1.f (k + 1) l = some (l.any fun p => !decide (CoP p)) := by
        unfold ContainsFunc_impl_isMap_1.f
        apply anyS_of
        intro x _
        unfold impl_isMap_1.f
        rw [isCoord_eq _ _ _ (by omega), isCoord_eq _ _ _ (by omega)]
        simp only [Option.bind_some, decide_eq_true_eq]
        by_cases h : Co x.f0.f0 x.f0.f1
        · rw [if_pos h]; simp [CoP, h]
        · rw [if_neg h]; simp [CoP, h]
      rw [hc]
      simp only [Option.bind_some, impl_isMap.j0]
      by_cases ha : (l.any fun p => !decide (CoP p)) = true
      · rw [if_pos ha]
        refine ⟨false, rfl, ⟨fun h => (by cases h), fun hm => ?_⟩⟩
        obtain ⟨x, hx, hn⟩ := List.any_eq_true.1 ha
        obtain ⟨i, hi, e⟩ := mem_np l x hx
        have := hm.co i hi
        rw [e] at this
        simp [this] at hn
      · rw [if_neg ha]
        have hco : ∀ x ∈ l, CoP x := fun x hx => by
          have : ¬ ((!decide (CoP x)) = true) := fun hh => ha (List.any_eq_true.2 ⟨x, hx, hh⟩)
          simpa using this
        rw [if_pos (by omega)]
        unfold impl_zero.f impl_oneRat.f
        simp only [Option.bind_some]
        rw [wr (_ - 1) (by omega), rd_np0, show (l.length : Int) - 1 = ((l.length - 1 : Nat) : Int) by omega, rd_np]
        by_cases hf : ((np l 0).f0.f0 == 0 && (np l 0).f0.f1 == 1) = true
        · rw [if_pos hf, if_pos (by omega), if_pos (by omega)]
          have hf' : (np l 0).f0 = ⟨0, 1⟩ := by
            simp only [Bool.and_eq_true, beq_iff_eq] at hf
            exact rat_ext hf.1 hf.2
          by_cases hg : ((np l (l.length - 1)).f0.f0 == 1 && (np l (l.length - 1)).f0.f1 == 1) = true
          · rw [if_pos hg]
            have hg' : (np l (l.length - 1)).f0 = ⟨1, 1⟩ := by
              simp only [Bool.and_eq_true, beq_iff_eq] at hg
              exact rat_ext hg.1 hg.2
            rw [xsOf_eq l (by omega) _ (by omega)]
            simp only [Option.bind_some]
            obtain ⟨b, e, hb⟩ := rising_eq (l.map fun p => p.f0) (by simp; omega) (fun x hx => by
              obtain ⟨p, hp, rfl⟩ := List.mem_map.1 hx
              exact (hco p hp).bx) k (by simp; omega)
            rw [e]
            refine ⟨b, rfl, hb.trans ⟨fun hr => ⟨by omega, by omega, fun i hi => hco _ (np_mem l i hi), fun i h1 hi => ?_, hf', hg'⟩, fun hm j h1 hj => ?_⟩⟩
            · have := hr i h1 (by simpa using hi)
              rwa [nr_xs _ _ (by omega), nr_xs _ _ hi] at this
            · rw [nr_xs _ _ (by simp at hj; omega), nr_xs _ _ (by simpa using hj)]
              exact hm.up j h1 (by simpa using hj)
          · rw [if_neg hg]
            exact ⟨false, rfl, by simp; intro hm; exact hg (by rw [hm.last]; rfl)⟩
        · rw [if_neg hf]
          exact ⟨false, rfl, by simp; intro hm; exact hf (by rw [hm.first]; rfl)⟩
    · rw [if_neg (by simpa using h12)]
      simp only [impl_isMap.j0, if_true]
      exact ⟨false, rfl, by simp; intro hm; have := hm.most; omega⟩
  · rw [if_neg h2]
    simp only [Option.bind_some, impl_isMap.j0, if_true]
    exact ⟨false, rfl, by simp; intro hm; have := hm.two; omega⟩
theorem imGood_l (l : List Pt) (h2 : 2 ≤ l.length) (h12 : l.length ≤ 12) : ∀ (d k i : Nat), i + d = l.length → (∀ j, j < i → CoP (np l j)) → (∀ j, 1 ≤ j → j < i → Lt (np l (j - 1)).f0 (np l j).f0) → 500 + d < k →
    ∃ b, spec_imGood.l0 k l l (l.length : Int) (i : Int) = some b ∧ (b = true ↔ IsMap l) := by
  intro d
  induction d with
  | zero =>
    intro k i hi hco hup hk
    obtain ⟨k, rfl⟩ : ∃ m, k = m + 1 := ⟨k - 1, by omega⟩
    simp only [spec_imGood.l0, spec_raInt.f, Option.bind_some]
    rw [if_neg (by omega), if_pos (by omega), rd_np0, wr (_ - 1) (by omega), show (l.length : Int) - 1 = ((l.length - 1 : Nat) : Int) by omega, rd_np]
    obtain ⟨t, e, _, h0⟩ := raCmp_eq (hco 0 (by omega)).bx (show Bd 0 1 by unfold Bd; omega)
    obtain ⟨t2, e2, _, h02⟩ := raCmp_eq (hco (l.length - 1) (by omega)).bx (show Bd 1 1 by unfold Bd; omega)
    rw [e, e2]
    simp only [Option.bind_some]
    have c0 := (hco 0 (by omega)).1.1
    have c1 := (hco (l.length - 1) (by omega)).1.1
    by_cases ht : t = 0
    · rw [if_pos ht, if_pos (by omega), if_pos (by omega)]
      refine ⟨_, rfl, ?_⟩
      have hz := h0.1 ht
      have hz0 : (np l 0).f0.f0 = 0 := by omega
      have hf' : (np l 0).f0 = ⟨0, 1⟩ := by
        refine rat_ext hz0 ?_
        have hg := c0.1.2.2.2.2
        have hp := c0.1.1
        rw [hz0, Int.gcd_zero_left] at hg
        omega
      simp only [beq_iff_eq]
      rw [h02]
      constructor
      · intro hh
        have hz1 : (np l (l.length - 1)).f0.f0 = (np l (l.length - 1)).f0.f1 := by omega
        have hg' : (np l (l.length - 1)).f0 = ⟨1, 1⟩ := by
          have hg := c1.1.2.2.2.2
          have hp := c1.1.1
          rw [hz1, Int.gcd_self] at hg
          exact rat_ext (by omega) (by omega)
        exact ⟨by omega, by omega, fun j hj => hco j (by omega), fun j h1 hj => hup j h1 (by omega), hf', hg'⟩
      · intro hm
        rw [hm.last]
    · rw [if_neg ht]
      refine ⟨false, rfl, ⟨fun h => (by cases h), fun hm => absurd (h0.2 (by rw [hm.first])) ht⟩⟩
  | succ d ih =>
    intro k i hi hco hup hk
    obtain ⟨k, rfl⟩ : ∃ m, k = m + 1 := ⟨k - 1, by omega⟩
    simp only [spec_imGood.l0]
    rw [if_pos (by omega), if_pos (by omega), if_pos (by omega), rd_np, imCoord_eq _ _ k (by omega), imCoord_eq _ _ k (by omega)]
    simp only [Option.bind_some, decide_eq_true_eq]
    by_cases hx : Co (np l i).f0.f0 (np l i).f0.f1
    · rw [if_pos hx]
      by_cases hy : Co (np l i).f1.f0 (np l i).f1.f1
      · rw [if_pos hy, wr (_ + 1) (by omega), show (i : Int) + 1 = ((i + 1 : Nat) : Int) by omega]
        have hci : CoP (np l i) := ⟨hx, hy⟩
        have hco' : ∀ j, j < i + 1 → CoP (np l j) := fun j hj => by
          by_cases ej : j = i
          · subst ej; exact hci
          · exact hco j (by omega)
        by_cases h0 : (i : Int) > 0
        · rw [if_pos h0, wr (_ - 1) (by omega), if_pos (by omega), if_pos (by omega), show (i : Int) - 1 = ((i - 1 : Nat) : Int) by omega, rd_np]
          obtain ⟨t, e, hlt, _⟩ := raCmp_eq (hco (i - 1) (by omega)).bx hci.bx
          rw [e]
          simp only [Option.bind_some]
          by_cases ht : t ≥ 0
          · rw [if_pos ht]
            refine ⟨false, rfl, ⟨fun h => (by cases h), fun hm => ?_⟩⟩
            have := hm.up i (by omega) (by omega)
            have := hlt.2 this
            omega
          · rw [if_neg ht]
            refine ih k (i + 1) (by omega) hco' (fun j h1 hj => ?_) (by omega)
            by_cases ej : j = i
            · subst ej; exact hlt.1 (by omega)
            · exact hup j h1 (by omega)
        · rw [if_neg h0]
          exact ih k (i + 1) (by omega) hco' (fun j h1 hj => by omega) (by omega)
      · rw [if_neg hy]
        exact ⟨false, rfl, by simp; intro hm; exact hy (hm.co i (by omega)).2⟩
    · rw [if_neg hx]
      exact ⟨false, rfl, by simp; intro hm; exact hx (hm.co i (by omega)).1⟩
theorem imGood_eq (l : List Pt) (hl : l.length ≤ 1048576) (k : Nat) (hk : 1000 ≤ k) : ∃ b, spec_imGood.f k l = some b ∧ (b = true ↔ IsMap l) := by
  unfold spec_imGood.f spec_l1In.f
  by_cases h2 : (l.length : Int) ≥ 2
  · rw [if_pos h2]
    simp only [Option.bind_some]
    by_cases h12 : (l.length : Int) ≤ 12
    · rw [if_pos (by simpa using h12)]
      exact imGood_l l (by omega) (by omega) l.length k 0 (by omega) (fun j hj => by omega) (fun j _ hj => by omega) (by omega)
    · rw [if_neg (by simpa using h12)]
      exact ⟨false, rfl, by simp; intro hm; have := hm.most; omega⟩
  · rw [if_neg h2]
    simp only [Option.bind_some]
    exact ⟨false, rfl, by simp; intro hm; have := hm.two; omega⟩
open Classical in
noncomputable def mapB (l : List Pt) : Bool := decide (IsMap l)
theorem mapB_iff (l : List Pt) : mapB l = true ↔ IsMap l := by unfold mapB; simp
theorem isMapB (l : List Pt) (hl : l.length ≤ 1048576) (k : Nat) (hk : 1000 ≤ k) : impl_isMap.f k l = some (mapB l) := by
  obtain ⟨b, e, h⟩ := isMap_eq l hl k hk
  rw [e]
  congr 1
  rw [Bool.eq_iff_iff, h, mapB_iff]
theorem imGoodB (l : List Pt) (hl : l.length ≤ 1048576) (k : Nat) (hk : 1000 ≤ k) : spec_imGood.f k l = some (mapB l) := by
  obtain ⟨b, e, h⟩ := imGood_eq l hl k hk
  rw [e]
  congr 1
  rw [Bool.eq_iff_iff, h, mapB_iff]
end Go.Proofs.Ytgejkhbehoabdaa.Pu
set_option linter.unusedVariables false
set_option linter.unusedSimpArgs false
namespace Go.Proofs.Ytgejkhbehoabdaa.Pu
open Go.RowKit Go.Proofs.Ytgejkhbehoabdaa.Q Go.Proofs.YtgejkhbehoabdaaW.PrintWords Go.Proofs.YtgejkhbehoabdaaW.PrintLast Go.Proofs.YtgejkhbehoabdaaW.PrintMore
abbrev Tri := Int × Int × Bool
def kp (s : Bool) (m : Tri) : Tri := if m.2.2 = true then (m.1, m.2.1, s) else (0, 1, true)
theorem keep_eq (s : Bool) (m : Tri) : impl_calc_keep.f s m.1 m.2.1 m.2.2 = some (kp s m) := by
  unfold impl_calc_keep.f kp impl_zero.f
  split <;> rfl
theorem keep_eq3 (s : Bool) (a b : Int) (c : Bool) : impl_calc_keep.f s a b c = some (kp s (a, b, c)) := keep_eq s (a, b, c)
theorem ok_zero : OkR 0 1 := by unfold OkR; decide
theorem kp_ok {s : Bool} {m : Tri} (h : m.2.2 = true → OkR m.1 m.2.1) : OkR (kp s m).1 (kp s m).2.1 := by
  unfold kp
  split
  · rename_i h1; exact h h1
  · exact ok_zero
theorem kp_bad (s : Bool) (m : Tri) : (kp s m).2.2 = (s || !m.2.2) := by
  unfold kp
  cases m.2.2 <;> simp
theorem kp_val {s : Bool} {m : Tri} (h : m.2.2 = true) : kp s m = (m.1, m.2.1, s) := by
  unfold kp
  rw [if_pos h]
theorem areRats2 (a b : Ra) (k : Nat) (hk : 300 ≤ k) : impl_areRats.f k [a, b] = some (decide (OkR a.f0 a.f1) && decide (OkR b.f0 b.f1)) := by
  unfold impl_areRats.f
  obtain ⟨k, rfl⟩ : ∃ m, k = m + 3 := ⟨k - 3, by omega⟩
  have r0 : rd_T47 [a, b] 0 = a := rfl
  have r1 : rd_T47 [a, b] 1 = b := rfl
  simp only [impl_areRats.l0, List.length_cons, List.length_nil]
  rw [if_pos (by decide), if_pos (by decide), if_pos (by decide), r0, isRat_eq _ _ _ (by omega)]
  simp only [Option.bind_some, decide_eq_true_eq]
  by_cases h : OkR a.f0 a.f1
  · rw [if_pos h]
    have e1 : wrap64 (0 + 1) = 1 := wr _ (by decide)
    have e2 : wrap64 (1 + 1) = 2 := wr _ (by decide)
    rw [e1, if_pos (by decide), if_pos (by decide), if_pos (by decide), r1, isRat_eq _ _ _ (by omega)]
    simp only [Option.bind_some, decide_eq_true_eq]
    by_cases h2 : OkR b.f0 b.f1
    · rw [if_pos h2, e2, if_neg (by decide)]
      simp [h, h2]
    · rw [if_neg h2]; simp [h2]
  · rw [if_neg h]; simp [h]
def addT (a b c d : Int) : Tri := mk (a * d + c * b) (b * d)
def subT (a b c d : Int) : Tri := mk (a * d - c * b) (b * d)
def mulT (a b c d : Int) : Tri := mk (a * c) (b * d)
def divT (a b c d : Int) : Tri := if c = 0 then (0, 0, false) else mk (a * d) (b * c)
theorem addT_ok (a b c d : Int) (h : (addT a b c d).2.2 = true) : OkR (addT a b c d).1 (addT a b c d).2.1 := mk_ok _ _ h
theorem subT_ok (a b c d : Int) (h : (subT a b c d).2.2 = true) : OkR (subT a b c d).1 (subT a b c d).2.1 := mk_ok _ _ h
theorem mulT_ok (a b c d : Int) (h : (mulT a b c d).2.2 = true) : OkR (mulT a b c d).1 (mulT a b c d).2.1 := mk_ok _ _ h
theorem den_pos {a b c d : Int} (h1 : OkR a b) (h2 : OkR c d) : b * d ≠ 0 := by
  have := Int.mul_pos (show 0 < b by have := h1.1; omega) (show 0 < d by have := h2.1; omega)
  omega
section
variable {a b c d : Int} (h1 : OkR a b) (h2 : OkR c d) (k : Nat)
include h1 h2
theorem addRats_eq (hk : 300 ≤ k) : impl_AddRats.f k a b c d = some (addT a b c d) := by
  unfold impl_AddRats.f
  rw [areRats2 _ _ k hk, decide_eq_true h1, decide_eq_true h2]
  simp only [Option.bind_some, Bool.and_true, if_true]
  obtain ⟨m1, m2, m3, _⟩ := cross_bd h1.bd h2.bd
  have hd := den_pos h1 h2
  rw [wr (a * d) (by omega), wr (c * b) (by omega), wr (b * d) (by omega), wr _ (by omega), lowest_eq _ _ hd (by omega) (by omega) k (by omega)]
  rfl
theorem raAdd_eq (hk : 300 ≤ k) : spec_raAdd.f k a b c d = some (addT a b c d) := by
  unfold spec_raAdd.f
  obtain ⟨m1, m2, m3, _⟩ := cross_bd h1.bd h2.bd
  have hd := den_pos h1 h2
  rw [wr (a * d) (by omega), wr (c * b) (by omega), wr (b * d) (by omega), wr _ (by omega), raMake_eq _ _ hd (by omega) (by omega) k (by omega)]
  rfl
theorem raSub_eq (hk : 300 ≤ k) : spec_raSub.f k a b c d = some (subT a b c d) := by
  unfold spec_raSub.f
  obtain ⟨m1, m2, m3, _⟩ := cross_bd h1.bd h2.bd
  have hd := den_pos h1 h2
  rw [wr (a * d) (by omega), wr (c * b) (by omega), wr (b * d) (by omega), wr _ (by omega), raMake_eq _ _ hd (by omega) (by omega) k (by omega)]
  rfl
theorem raMul_eq (hk : 300 ≤ k) : spec_raMul.f k a b c d = some (mulT a b c d) := by
  unfold spec_raMul.f
  obtain ⟨m1, m2, m3, m4⟩ := cross_bd h1.bd h2.bd
  have hd := den_pos h1 h2
  rw [wr (a * c) (by omega), wr (b * d) (by omega), raMake_eq _ _ hd (by omega) (by omega) k (by omega)]
  rfl
theorem raDiv_eq (hk : 300 ≤ k) : spec_raDiv.f k a b c d = some (divT a b c d) := by
  unfold spec_raDiv.f divT
  obtain ⟨m1, m2, m3, m4⟩ := cross_bd h1.bd h2.bd
  split
  · rfl
  · rename_i hc
    have hd : b * c ≠ 0 := Int.mul_ne_zero (by have := h1.1; omega) hc
    have m5 := mul_bd b c _ _ h1.bd.2 h2.bd.1
    rw [wr (a * d) (by omega), wr (b * c) (by omega), raMake_eq _ _ hd (by omega) (by omega) k (by omega)]
    rfl
omit h1 in
theorem negated_ok : OkR (-c) d := by
  obtain ⟨e1, e2, e3, e4, e5⟩ := h2
  exact ⟨e1, e2, by omega, by omega, by rw [Int.neg_gcd]; exact e5⟩
theorem subRats_eq (hk : 300 ≤ k) : impl_SubtractRats.f k a b c d = some (subT a b c d) := by
  unfold impl_SubtractRats.f impl_negated.f
  have hb := h2.bd
  simp only [Option.bind_some]
  rw [wr (-c) (by unfold Bd at hb; omega), addRats_eq h1 (negated_ok h2) k hk]
  simp only [Option.bind_some]
  unfold addT subT
  rw [Int.neg_mul]
  rfl
theorem mulRats_eq (hk : 300 ≤ k) : impl_MultiplyRats.f k a b c d = some (mulT a b c d) := by
  unfold impl_MultiplyRats.f
  rw [areRats2 _ _ k hk, decide_eq_true h1, decide_eq_true h2]
  simp only [Option.bind_some, Bool.and_true, if_true]
  obtain ⟨m1, m2, m3, m4⟩ := cross_bd h1.bd h2.bd
  have hd := den_pos h1 h2
  rw [wr (a * c) (by omega), wr (b * d) (by omega), lowest_eq _ _ hd (by omega) (by omega) k (by omega)]
  rfl
theorem divRats_eq (hk : 300 ≤ k) : impl_DivideRats.f k a b c d = some (divT a b c d) := by
  unfold impl_DivideRats.f divT
  rw [areRats2 _ _ k hk, decide_eq_true h1, decide_eq_true h2]
  simp only [Option.bind_some, Bool.and_true, if_true]
  obtain ⟨m1, m2, m3, m4⟩ := cross_bd h1.bd h2.bd
  split
  · rfl
  · rename_i hc
    have hd : b * c ≠ 0 := Int.mul_ne_zero (by have := h1.1; omega) hc
    have m5 := mul_bd b c _ _ h1.bd.2 h2.bd.1
    rw [wr (a * d) (by omega), wr (b * c) (by omega), lowest_eq _ _ hd (by omega) (by omega) k (by omega)]
    rfl
theorem calc_add (s : Bool) (hk : 300 ≤ k) : impl_calc_add.f k s a b c d = some (kp s (addT a b c d)) := by
  unfold impl_calc_add.f
  rw [addRats_eq h1 h2 k hk, Option.bind_some, keep_eq, Option.bind_some]
theorem calc_sub (s : Bool) (hk : 300 ≤ k) : impl_calc_sub.f k s a b c d = some (kp s (subT a b c d)) := by
  unfold impl_calc_sub.f
  rw [subRats_eq h1 h2 k hk, Option.bind_some, keep_eq, Option.bind_some]
theorem calc_mul (s : Bool) (hk : 300 ≤ k) : impl_calc_mul.f k s a b c d = some (kp s (mulT a b c d)) := by
  unfold impl_calc_mul.f
  rw [mulRats_eq h1 h2 k hk, Option.bind_some, keep_eq, Option.bind_some]
theorem calc_div (s : Bool) (hk : 300 ≤ k) : impl_calc_div.f k s a b c d = some (kp s (divT a b c d)) := by
  unfold impl_calc_div.f
  rw [divRats_eq h1 h2 k hk, Option.bind_some, keep_eq, Option.bind_some]
end
def slT (p q : Pt) : Tri := divT (subT q.f1.f0 q.f1.f1 p.f1.f0 p.f1.f1).1 (subT q.f1.f0 q.f1.f1 p.f1.f0 p.f1.f1).2.1 (subT q.f0.f0 q.f0.f1 p.f0.f0 p.f0.f1).1 (subT q.f0.f0 q.f0.f1 p.f0.f0 p.f0.f1).2.1
theorem co_sub {a b c d : Int} (h1 : Co a b) (h2 : Co c d) : (subT a b c d).2.2 = true ∧ OkR (subT a b c d).1 (subT a b c d).2.1 ∧ (subT a b c d).1.natAbs ≤ 10000 ∧ (subT a b c d).2.1.natAbs ≤ 10000 := by
  obtain ⟨⟨⟨b1, b2, _, _, _⟩, b3, b4⟩, b5⟩ := h1
  obtain ⟨⟨⟨d1, d2, _, _, _⟩, d3, d4⟩, d5⟩ := h2
  have m1 := mul_bd a d 100 100 (by omega) (by omega)
  have m2 := mul_bd c b 100 100 (by omega) (by omega)
  have m3 := mul_bd b d 100 100 (by omega) (by omega)
  have n1 := Int.mul_nonneg b3 (show (0 : Int) ≤ d by omega)
  have n2 := Int.mul_nonneg d3 (show (0 : Int) ≤ b by omega)
  have n3 := Int.mul_pos (show (0 : Int) < b by omega) (show (0 : Int) < d by omega)
  unfold subT
  generalize a * d = x at *
  generalize c * b = y at *
  generalize b * d = z at *
  obtain ⟨e1, e2, e3, e4⟩ := mk_small (x - y) z (by omega) (by omega) (by omega)
  rw [e4]
  exact ⟨rfl, e1, by show (Int.tdiv _ _).natAbs ≤ _; omega, by show (Int.tdiv _ _).natAbs ≤ _; omega⟩
theorem sub_ne {a b c d : Int} (h1 : OkR a b) (h2 : OkR c d) (hlt : c * b < a * d) (hok : (subT a b c d).2.2 = true) : (subT a b c d).1 ≠ 0 := by
  have hd := den_pos h1 h2
  unfold subT mk at hok ⊢
  split at hok
  · rename_i h
    rw [if_pos h]
    intro h0
    have h0' : (a * d - c * b).tdiv (sg (a * d - c * b) (b * d)) = 0 := h0
    have hdv : (sg (a * d - c * b) (b * d)) ∣ (a * d - c * b) := by
      unfold sg
      split
      · exact Int.neg_dvd.2 (Int.gcd_dvd_left _ _)
      · exact Int.gcd_dvd_left _ _
    obtain ⟨t, ht⟩ := hdv
    have hs : sg (a * d - c * b) (b * d) ≠ 0 := by
      have := gcd_pos (a * d - c * b) (b * d) hd
      unfold sg
      split <;> omega
    have : (sg (a * d - c * b) (b * d) * t).tdiv (sg (a * d - c * b) (b * d)) = t := Int.mul_tdiv_cancel_left _ hs
    generalize hg : sg (a * d - c * b) (b * d) = g at *
    rw [ht, this] at h0'
    rw [h0', Int.mul_zero] at ht
    omega
  · cases hok
structure Seg (p q : Pt) : Prop where
  cp : CoP p
  cq : CoP q
  lt : Lt p.f0 q.f0
theorem IsMap.seg {l : List Pt} (h : IsMap l) (i : Nat) (hi : i + 1 < l.length) : Seg (np l i) (np l (i + 1)) :=
  ⟨h.co i (by omega), h.co (i + 1) hi, by have := h.up (i + 1) (by omega) hi; rwa [Nat.add_sub_cancel] at this⟩
theorem seg_slope {p q : Pt} (h : Seg p q) : (slT p q).2.2 = true ∧ OkR (slT p q).1 (slT p q).2.1 := by
  obtain ⟨u1, u2, u3, u4⟩ := co_sub h.cq.2 h.cp.2
  obtain ⟨v1, v2, v3, v4⟩ := co_sub h.cq.1 h.cp.1
  have v5 := sub_ne h.cq.1.1.1 h.cp.1.1.1 h.lt v1
  unfold slT
  generalize hx : subT q.f1.f0 q.f1.f1 p.f1.f0 p.f1.f1 = x at *
  generalize hy : subT q.f0.f0 q.f0.f1 p.f0.f0 p.f0.f1 = y at *
  unfold divT
  rw [if_neg v5]
  have m1 := mul_bd x.1 y.2.1 10000 10000 u3 v4
  have m2 := mul_bd x.2.1 y.1 10000 10000 u4 v3
  have hd : x.2.1 * y.1 ≠ 0 := Int.mul_ne_zero (by have := u2.1; omega) v5
  obtain ⟨e1, e2, e3, e4⟩ := mk_small (x.1 * y.2.1) (x.2.1 * y.1) hd (by omega) (by omega)
  rw [e4]
  exact ⟨rfl, e1⟩
theorem slope_eq {p q : Pt} (h : Seg p q) (s : Bool) (k : Nat) (hk : 300 ≤ k) : impl_calc_slope.f k s p.f0.f0 p.f0.f1 p.f1.f0 p.f1.f1 q.f0.f0 q.f0.f1 q.f1.f0 q.f1.f1 = some ((slT p q).1, (slT p q).2.1, s) := by
  obtain ⟨u1, u2, u3, u4⟩ := co_sub h.cq.2 h.cp.2
  obtain ⟨v1, v2, v3, v4⟩ := co_sub h.cq.1 h.cp.1
  unfold impl_calc_slope.f
  rw [calc_sub h.cq.2.1.1 h.cp.2.1.1 k s hk, kp_val u1, Option.bind_some, calc_sub h.cq.1.1.1 h.cp.1.1.1 k s hk, kp_val v1, Option.bind_some, calc_div u2 v2 k s hk, Option.bind_some]
  have := kp_val (s := s) (seg_slope h).1
  unfold slT at this ⊢
  rw [this]
theorem imSlope_eq {p q : Pt} (h : Seg p q) (k : Nat) (hk : 300 ≤ k) : spec_imSlope.f k p.f0.f0 p.f0.f1 p.f1.f0 p.f1.f1 q.f0.f0 q.f0.f1 q.f1.f0 q.f1.f1 = some ((slT p q).1, (slT p q).2.1) := by
  obtain ⟨u1, u2, u3, u4⟩ := co_sub h.cq.2 h.cp.2
  obtain ⟨v1, v2, v3, v4⟩ := co_sub h.cq.1 h.cp.1
  unfold spec_imSlope.f
  rw [raSub_eq h.cq.2.1.1 h.cp.2.1.1 k hk, Option.bind_some, raSub_eq h.cq.1.1.1 h.cp.1.1.1 k hk, Option.bind_some, raDiv_eq u2 v2 k hk, Option.bind_some]
  rfl
end Go.Proofs.Ytgejkhbehoabdaa.Pu
set_option linter.unusedVariables false
set_option linter.unusedSimpArgs false
namespace Go.Proofs.Ytgejkhbehoabdaa.Pu
open Go.RowKit Go.Proofs.Ytgejkhbehoabdaa.Q Go.Proofs.YtgejkhbehoabdaaW.PrintWords Go.Proofs.YtgejkhbehoabdaaW.PrintLast Go.Proofs.YtgejkhbehoabdaaW.PrintMore
structure Rel (s : Bool) (v m : Tri) : Prop where
  ok : OkR v.1 v.2.1
  bad : v.2.2 = (s || !m.2.2)
  val : m.2.2 = true → v.1 = m.1 ∧ v.2.1 = m.2.1
theorem rel_kp {s : Bool} {m : Tri} (h : m.2.2 = true → OkR m.1 m.2.1) : Rel s (kp s m) m :=
  ⟨kp_ok h, kp_bad s m, fun hm => by rw [kp_val hm]; exact ⟨rfl, rfl⟩⟩
def pcq (x0 x1 : Int) (p : Pt) : Bool := !decide (p.f0.f0 * x1 < x0 * p.f0.f1)
def pc (l : List Pt) (x0 x1 : Int) : Nat := (idxOf (pcq x0 x1) l - 1).toNat
theorem imPiece_l (l : List Pt) (x0 x1 : Int) (hm : IsMap l) (hx : OkR x0 x1) (j : Nat) (hj : j < l.length) (h1 : 1 ≤ j) (hq : ¬ (np l j).f0.f0 * x1 < x0 * (np l j).f0.f1) (hlt : ∀ m, m < j → (np l m).f0.f0 * x1 < x0 * (np l m).f0.f1) :
    ∀ (d k i : Nat), i + d = j - 1 → d < k → spec_imPiece.l0 k l (i : Int) x0 x1 = some ((j - 1 : Nat) : Int) := by
  have hmost := hm.most
  intro d
  induction d with
  | zero =>
    intro k i hi hk
    obtain ⟨k, rfl⟩ : ∃ m, k = m + 1 := ⟨k - 1, by omega⟩
    simp only [spec_imPiece.l0]
    rw [wr (_ + 2) (by omega), wr (_ + 1) (by omega)]
    by_cases h2 : (i : Int) + 2 < (l.length : Int)
    · rw [if_pos h2, if_pos (by omega), if_pos (by omega), show (i : Int) + 1 = ((i + 1 : Nat) : Int) by omega, rd_np]
      obtain ⟨t, e, ht, _⟩ := raCmp_eq (hm.co (i + 1) (by omega)).bx hx.bd
      rw [e, Option.bind_some]
      have ej : i + 1 = j := by omega
      rw [ej] at ht
      rw [if_neg (fun h => hq (ht.1 h))]
      congr 1
      omega
    · rw [if_neg h2]
      congr 1
      omega
  | succ d ih =>
    intro k i hi hk
    obtain ⟨k, rfl⟩ : ∃ m, k = m + 1 := ⟨k - 1, by omega⟩
    simp only [spec_imPiece.l0]
    rw [wr (_ + 2) (by omega), wr (_ + 1) (by omega), if_pos (by omega), if_pos (by omega), if_pos (by omega), show (i : Int) + 1 = ((i + 1 : Nat) : Int) by omega, rd_np]
    obtain ⟨t, e, ht, _⟩ := raCmp_eq (hm.co (i + 1) (by omega)).bx hx.bd
    rw [e, Option.bind_some, if_pos (ht.2 (hlt (i + 1) (by omega)))]
    exact ih k (i + 1) (by omega) (by omega)
theorem piece_eq (l : List Pt) (x0 x1 : Int) (hm : IsMap l) (hx : OkU x0 x1) : pc l x0 x1 + 1 < l.length ∧ impl_pieceAt.f l x0 x1 = some (pc l x0 x1 : Int) ∧ (∀ k, 100 ≤ k → spec_imPiece.f k l x0 x1 = some (pc l x0 x1 : Int)) ∧
    (np l (pc l x0 x1)).f0.f0 * x1 ≤ x0 * (np l (pc l x0 x1)).f0.f1 ∧ x0 * (np l (pc l x0 x1 + 1)).f0.f1 ≤ (np l (pc l x0 x1 + 1)).f0.f0 * x1 := by
  have h2 := hm.two
  have hmost := hm.most
  have hne : idxOf (pcq x0 x1) l ≠ -1 := fun h => by
    have := idxOf_neg _ _ h (np l (l.length - 1)) (np_mem l _ (by omega))
    unfold pcq at this
    rw [hm.last] at this
    have h3 := hx.2.2
    simp at this
    omega
  obtain ⟨j, ej, hj, hq, hlt⟩ := idxOf_pos _ _ z79 hne
  have hqj : ¬ (np l j).f0.f0 * x1 < x0 * (np l j).f0.f1 := by
    have : pcq x0 x1 (np l j) = true := hq
    unfold pcq at this
    simpa using this
  have hltj : ∀ m, m < j → (np l m).f0.f0 * x1 < x0 * (np l m).f0.f1 := fun m hmj => by
    have : pcq x0 x1 (np l m) = false := hlt m hmj
    unfold pcq at this
    simpa using this
  have himpl : impl_pieceAt.f l x0 x1 = some (if (j : Int) ≤ 1 then 0 else (j : Int) - 1) := by
    unfold impl_pieceAt.f
    rw [idxS_of (p := pcq x0 x1) (fun p hp => by
      obtain ⟨i, hi, e⟩ := mem_np l p hp
      have hb := (hm.co i hi).bx
      rw [e] at hb
      rw [less_eq hb hx.1.bd]
      rfl)]
    rw [Option.bind_some, ej]
  have hpc : pc l x0 x1 = j - 1 := by
    unfold pc
    rw [ej]
    omega
  rw [hpc]
  rcases Nat.eq_zero_or_pos j with h0 | hpos
  · subst h0
    rw [hm.first] at hqj
    simp at hqj
    have hx0 : x0 = 0 := by have := hx.2.1; omega
    subst hx0
    have hx1 := hx.1.1
    refine ⟨by omega, himpl, fun k hk => ?_, by simp [hm.first], ?_⟩
    · obtain ⟨k, rfl⟩ : ∃ m, k = m + 1 := ⟨k - 1, by omega⟩
      unfold spec_imPiece.f
      simp only [spec_imPiece.l0]
      rw [wr (0 + 2) (by omega), wr (0 + 1) (by omega)]
      by_cases h3 : (0 : Int) + 2 < (l.length : Int)
      · rw [if_pos h3, if_pos (by omega), if_pos (by omega), show (0 : Int) + 1 = ((1 : Nat) : Int) by omega, rd_np]
        obtain ⟨t, e, ht, _⟩ := raCmp_eq (hm.co 1 (by omega)).bx hx.1.bd
        rw [e, Option.bind_some, if_neg (fun h => by
          have h4 := ht.1 h
          have h5 := Int.mul_nonneg (hm.co 1 (by omega)).1.1.2.1 (show (0 : Int) ≤ x1 by omega)
          omega)]
        rfl
      · rw [if_neg h3]; rfl
    · have h5 := Int.mul_nonneg (hm.co (0 - 1 + 1) (by omega)).1.1.2.1 (show (0 : Int) ≤ x1 by omega)
      omega
  · have e1 : j - 1 + 1 = j := by omega
    refine ⟨by omega, ?_, fun k hk => ?_, ?_, ?_⟩
    · rw [himpl]
      congr 1
      split <;> omega
    · unfold spec_imPiece.f
      exact imPiece_l l x0 x1 hm hx.1 j hj hpos hqj hltj (j - 1) k 0 (by omega) (by omega)
    · exact Int.le_of_lt (hltj (j - 1) (by omega))
    · rw [e1]
      omega
def onT (p q : Pt) (x0 x1 : Int) : Tri :=
  if (subT x0 x1 p.f0.f0 p.f0.f1).2.2 = true then
    if (mulT (subT x0 x1 p.f0.f0 p.f0.f1).1 (subT x0 x1 p.f0.f0 p.f0.f1).2.1 (slT p q).1 (slT p q).2.1).2.2 = true then
      addT p.f1.f0 p.f1.f1 (mulT (subT x0 x1 p.f0.f0 p.f0.f1).1 (subT x0 x1 p.f0.f0 p.f0.f1).2.1 (slT p q).1 (slT p q).2.1).1 (mulT (subT x0 x1 p.f0.f0 p.f0.f1).1 (subT x0 x1 p.f0.f0 p.f0.f1).2.1 (slT p q).1 (slT p q).2.1).2.1
    else (0, 0, false)
  else (0, 0, false)
theorem onT_ok {p q : Pt} {x0 x1 : Int} (h : (onT p q x0 x1).2.2 = true) : OkR (onT p q x0 x1).1 (onT p q x0 x1).2.1 := by
  unfold onT at h ⊢
  split at h
  · rename_i h1
    rw [if_pos h1]
    split at h
    · rename_i h2
      rw [if_pos h2]
      exact addT_ok _ _ _ _ h
    · cases h
  · cases h
theorem imOn_eq {p q : Pt} (h : Seg p q) {x0 x1 : Int} (hx : OkR x0 x1) (k : Nat) (hk : 300 ≤ k) : spec_imOn.f k p.f0.f0 p.f0.f1 p.f1.f0 p.f1.f1 q.f0.f0 q.f0.f1 q.f1.f0 q.f1.f1 x0 x1 = some (onT p q x0 x1) := by
  unfold spec_imOn.f onT
  rw [raSub_eq hx h.cp.1.1.1 k hk, Option.bind_some, imSlope_eq h k hk, Option.bind_some]
  have hsl := (seg_slope h).2
  cases hf : (subT x0 x1 p.f0.f0 p.f0.f1).2.2 with
  | true =>
    have hfo := subT_ok _ _ _ _ hf
    rw [raMul_eq hfo hsl k hk, Option.bind_some, if_pos rfl, if_pos rfl]
    cases hu : (mulT (subT x0 x1 p.f0.f0 p.f0.f1).1 (subT x0 x1 p.f0.f0 p.f0.f1).2.1 (slT p q).1 (slT p q).2.1).2.2 with
    | true =>
      rw [if_pos rfl, if_pos rfl, raAdd_eq h.cp.2.1.1 (mulT_ok _ _ _ _ hu) k hk, Option.bind_some]
    | false => rw [if_neg (by decide), if_neg (by decide)]
  | false =>
    have e : subT x0 x1 p.f0.f0 p.f0.f1 = (0, 0, false) := mk_bad _ _ hf
    rw [e]
    unfold spec_raMul.f
    rw [Int.zero_mul, Int.zero_mul, wr 0 (by omega), raMake_zero]
    rfl
theorem line_eq {p q : Pt} (h : Seg p q) {x0 x1 : Int} (hx : OkR x0 x1) (s : Bool) (k : Nat) (hk : 300 ≤ k) : ∃ v, impl_calc_line.f k s p.f0.f0 p.f0.f1 p.f1.f0 p.f1.f1 (slT p q).1 (slT p q).2.1 x0 x1 = some v ∧ Rel s v (onT p q x0 x1) := by
  unfold impl_calc_line.f onT
  have hsl := (seg_slope h).2
  have r1 : Rel s (kp s (subT x0 x1 p.f0.f0 p.f0.f1)) (subT x0 x1 p.f0.f0 p.f0.f1) := rel_kp (subT_ok _ _ _ _)
  rw [calc_sub hx h.cp.1.1.1 k s hk, Option.bind_some]
  generalize kp s (subT x0 x1 p.f0.f0 p.f0.f1) = v1 at r1 ⊢
  generalize subT x0 x1 p.f0.f0 p.f0.f1 = m1 at r1 ⊢
  rw [calc_mul hsl r1.ok k v1.2.2 hk, Option.bind_some]
  have r2 : Rel v1.2.2 (kp v1.2.2 (mulT (slT p q).1 (slT p q).2.1 v1.1 v1.2.1)) (mulT (slT p q).1 (slT p q).2.1 v1.1 v1.2.1) := rel_kp (mulT_ok _ _ _ _)
  have ec : mulT (slT p q).1 (slT p q).2.1 v1.1 v1.2.1 = mulT v1.1 v1.2.1 (slT p q).1 (slT p q).2.1 := by
    unfold mulT
    rw [Int.mul_comm (slT p q).1, Int.mul_comm (slT p q).2.1]
  generalize kp v1.2.2 (mulT (slT p q).1 (slT p q).2.1 v1.1 v1.2.1) = v2 at r2 ⊢
  rw [ec] at r2
  rw [calc_add h.cp.2.1.1 r2.ok k v2.2.2 hk, Option.bind_some]
  have r3 : Rel v2.2.2 (kp v2.2.2 (addT p.f1.f0 p.f1.f1 v2.1 v2.2.1)) (addT p.f1.f0 p.f1.f1 v2.1 v2.2.1) := rel_kp (addT_ok _ _ _ _)
  generalize kp v2.2.2 (addT p.f1.f0 p.f1.f1 v2.1 v2.2.1) = v3 at r3 ⊢
  refine ⟨_, rfl, r3.ok, ?_, ?_⟩
  · show v3.2.2 = _
    rw [r3.bad, r2.bad, r1.bad]
    cases hm1 : m1.2.2 with
    | false => simp
    | true =>
      obtain ⟨e1, e2⟩ := r1.val hm1
      rw [if_pos rfl, e1, e2]
      rw [e1, e2] at r2
      cases hm2 : (mulT m1.1 m1.2.1 (slT p q).1 (slT p q).2.1).2.2 with
      | false => simp
      | true =>
        obtain ⟨e3, e4⟩ := r2.val hm2
        rw [if_pos rfl, e3, e4]
        simp
  · intro hok
    show v3.1 = _ ∧ v3.2.1 = _
    split at hok
    · rename_i hm1
      obtain ⟨e1, e2⟩ := r1.val hm1
      rw [e1, e2] at r2
      rw [if_pos hm1]
      split at hok
      · rename_i hm2
        obtain ⟨e3, e4⟩ := r2.val hm2
        rw [e3, e4] at r3
        rw [if_pos hm2]
        exact r3.val hok
      · cases hok
    · cases hok
def atT (l : List Pt) (x0 x1 : Int) : Tri := onT (np l (pc l x0 x1)) (np l (pc l x0 x1 + 1)) x0 x1
theorem imAt_eq {l : List Pt} (hm : IsMap l) {x0 x1 : Int} (hx : OkU x0 x1) (k : Nat) (hk : 300 ≤ k) : spec_imAt.f k l x0 x1 = some (atT l x0 x1) := by
  obtain ⟨h1, _, h3, _⟩ := piece_eq l x0 x1 hm hx
  have hmost := hm.most
  unfold spec_imAt.f atT
  rw [h3 k (by omega), Option.bind_some, wr (_ + 1) (by omega), if_pos (by omega), if_pos (by omega), if_pos (by omega), if_pos (by omega), show ((pc l x0 x1 : Nat) : Int) + 1 = ((pc l x0 x1 + 1 : Nat) : Int) by omega, rd_np, rd_np, imOn_eq (hm.seg _ h1) hx.1 k hk, Option.bind_some]
theorem value_eq {l : List Pt} (hm : IsMap l) {x0 x1 : Int} (hx : OkU x0 x1) (s : Bool) (k : Nat) (hk : 300 ≤ k) : ∃ v, impl_calc_value.f k s l x0 x1 = some v ∧ Rel s v (atT l x0 x1) := by
  obtain ⟨h1, h2, _, _⟩ := piece_eq l x0 x1 hm hx
  have hmost := hm.most
  unfold impl_calc_value.f atT
  rw [h2, Option.bind_some, wr (_ + 1) (by omega), if_pos (by omega), if_pos (by omega), if_pos (by omega), if_pos (by omega), show ((pc l x0 x1 : Nat) : Int) + 1 = ((pc l x0 x1 + 1 : Nat) : Int) by omega, rd_np, rd_np, slope_eq (hm.seg _ h1) s k hk, Option.bind_some]
  obtain ⟨v, e, r⟩ := line_eq (hm.seg _ h1) hx.1 s k hk
  exact ⟨v, by rw [e]; rfl, r⟩
def Units (l : List Ra) : Prop := ∀ x ∈ l, OkU x.f0 x.f1
instance (l : List Ra) : Decidable (Units l) := by unfold Units; infer_instance
def Pseudo (l : List Ra) : Prop := 1 ≤ l.length ∧ l.length ≤ 20 ∧ Units l
instance (l : List Ra) : Decidable (Pseudo l) := by unfold Pseudo; infer_instance
end Go.Proofs.Ytgejkhbehoabdaa.Pu
set_option linter.unusedVariables false
set_option linter.unusedSimpArgs false
namespace Go.Proofs.Ytgejkhbehoabdaa.Pu
open Go.RowKit Go.Proofs.Ytgejkhbehoabdaa.Q Go.Proofs.YtgejkhbehoabdaaW.PrintWords Go.Proofs.YtgejkhbehoabdaaW.PrintLast Go.Proofs.YtgejkhbehoabdaaW.PrintMore
def rq (n d : Int) : Rat := (n : Rat) / (d : Rat)
theorem rq_cross {a b c d : Int} (hb : b ≠ 0) (hd : d ≠ 0) (h : a * d = c * b) : rq a b = rq c d := by
  unfold rq
  have hb' : (b : Rat) ≠ 0 := by simpa using hb
  have hd' : (d : Rat) ≠ 0 := by simpa using hd
  have h' : (a : Rat) * (d : Rat) = (c : Rat) * (b : Rat) := by
    rw [← Rat.intCast_mul, ← Rat.intCast_mul, h]
  grind
theorem sg_dvd (n d : Int) : sg n d ∣ n ∧ sg n d ∣ d := by
  unfold sg
  split
  · exact ⟨Int.neg_dvd.2 (Int.gcd_dvd_left _ _), Int.neg_dvd.2 (Int.gcd_dvd_right _ _)⟩
  · exact ⟨Int.gcd_dvd_left _ _, Int.gcd_dvd_right _ _⟩
theorem sg_ne (n d : Int) (hd : d ≠ 0) : sg n d ≠ 0 := by
  have := gcd_pos n d hd
  unfold sg
  split <;> omega
theorem mk_rq (n d : Int) (hd : d ≠ 0) (h : (mk n d).2.2 = true) : rq (mk n d).1 (mk n d).2.1 = rq n d := by
  have hok := mk_ok n d h
  have hp := hok.1
  unfold mk at h hp ⊢
  split at h
  · rename_i h1
    rw [if_pos h1] at hp ⊢
    obtain ⟨⟨x, hx⟩, ⟨y, hy⟩⟩ := sg_dvd n d
    have hs := sg_ne n d hd
    have ex : n.tdiv (sg n d) = x := by
      conv => lhs; lhs; rw [hx]
      exact Int.mul_tdiv_cancel_left _ hs
    have ey : d.tdiv (sg n d) = y := by
      conv => lhs; lhs; rw [hy]
      exact Int.mul_tdiv_cancel_left _ hs
    refine rq_cross (by omega) hd ?_
    show n.tdiv (sg n d) * d = n * d.tdiv (sg n d)
    rw [ex, ey]
    generalize sg n d = g at *
    rw [hx, hy]
    rw [Int.mul_comm x (g * y), Int.mul_assoc, Int.mul_assoc, Int.mul_comm y x]
  · cases h
theorem rq_pos {d : Int} (hd : 0 < d) : (d : Rat) ≠ 0 := by
  have : d ≠ 0 := by omega
  simpa using this
theorem rq_add {a b c d : Int} (hb : b ≠ 0) (hd : d ≠ 0) : rq (a * d + c * b) (b * d) = rq a b + rq c d := by
  unfold rq
  have hb' : (b : Rat) ≠ 0 := by simpa using hb
  have hd' : (d : Rat) ≠ 0 := by simpa using hd
  rw [Rat.intCast_add, Rat.intCast_mul, Rat.intCast_mul, Rat.intCast_mul]
  grind
theorem rq_sub {a b c d : Int} (hb : b ≠ 0) (hd : d ≠ 0) : rq (a * d - c * b) (b * d) = rq a b - rq c d := by
  unfold rq
  have hb' : (b : Rat) ≠ 0 := by simpa using hb
  have hd' : (d : Rat) ≠ 0 := by simpa using hd
  rw [Rat.intCast_sub, Rat.intCast_mul, Rat.intCast_mul, Rat.intCast_mul]
  grind
theorem rq_mul {a b c d : Int} (hb : b ≠ 0) (hd : d ≠ 0) : rq (a * c) (b * d) = rq a b * rq c d := by
  unfold rq
  have hb' : (b : Rat) ≠ 0 := by simpa using hb
  have hd' : (d : Rat) ≠ 0 := by simpa using hd
  rw [Rat.intCast_mul, Rat.intCast_mul]
  grind
theorem rq_div {a b c d : Int} (hb : b ≠ 0) (hd : d ≠ 0) (hc : c ≠ 0) : rq (a * d) (b * c) = rq a b / rq c d := by
  unfold rq
  have hb' : (b : Rat) ≠ 0 := by simpa using hb
  have hd' : (d : Rat) ≠ 0 := by simpa using hd
  have hc' : (c : Rat) ≠ 0 := by simpa using hc
  rw [Rat.intCast_mul, Rat.intCast_mul]
  grind
theorem inv_nn {r : Rat} (h : 0 < r) : 0 ≤ r⁻¹ := by
  by_cases hn : 0 ≤ r⁻¹
  · exact hn
  · have h1 : 0 ≤ -r⁻¹ := by grind
    have h2 := Rat.mul_nonneg (Rat.le_of_lt h) h1
    have h3 : r ≠ 0 := by grind
    have h4 : r * r⁻¹ = 1 := Rat.mul_inv_cancel r h3
    grind
theorem cast_pos {d : Int} (hd : 0 < d) : (0 : Rat) < (d : Rat) := by
  have h1 : (0 : Rat) ≤ (d : Rat) := Rat.intCast_nonneg.2 (by omega)
  have h2 : (d : Rat) ≠ 0 := rq_pos hd
  grind
theorem rq_nn {n d : Int} (hn : 0 ≤ n) (hd : 0 < d) : 0 ≤ rq n d := by
  unfold rq
  rw [Rat.div_def]
  exact Rat.mul_nonneg (Rat.intCast_nonneg.2 hn) (inv_nn (cast_pos hd))
theorem nn_rq {n d : Int} (hd : 0 < d) (h : 0 ≤ rq n d) : 0 ≤ n := by
  have h1 := Rat.mul_nonneg h (Rat.le_of_lt (cast_pos hd))
  have h2 : rq n d * (d : Rat) = (n : Rat) := by
    unfold rq
    have := rq_pos hd
    grind
  rw [h2] at h1
  exact Rat.intCast_nonneg.1 h1
theorem le_rq {a b c d : Int} (hb : 0 < b) (hd : 0 < d) (h : a * d ≤ c * b) : rq a b ≤ rq c d := by
  have h1 := rq_nn (show 0 ≤ c * b - a * d by omega) (Int.mul_pos hd hb)
  rw [rq_sub (by omega) (by omega)] at h1
  grind
theorem le_one {n d : Int} (hd : 0 < d) (h : rq n d ≤ 1) : n ≤ d := by
  have h1 : rq (d - n) d = 1 - rq n d := by
    unfold rq
    have := rq_pos hd
    rw [Rat.intCast_sub]
    grind
  have h2 := nn_rq (n := d - n) hd (by rw [h1]; grind)
  omega
theorem rq_one {n d : Int} (hd : 0 < d) (h : n ≤ d) : rq n d ≤ 1 := by
  have h1 : rq (d - n) d = 1 - rq n d := by
    unfold rq
    have := rq_pos hd
    rw [Rat.intCast_sub]
    grind
  have h2 := rq_nn (n := d - n) (by omega) hd
  rw [h1] at h2
  grind
theorem between01 (xp xq yp yq x : Rat) (h1 : xp ≤ x) (h2 : x ≤ xq) (h3 : xp < xq) (a1 : 0 ≤ yp) (a2 : yp ≤ 1) (b1 : 0 ≤ yq) (b2 : yq ≤ 1) :
    0 ≤ yp + (x - xp) * ((yq - yp) / (xq - xp)) ∧ yp + (x - xp) * ((yq - yp) / (xq - xp)) ≤ 1 := by
  have hp : 0 < xq - xp := by grind
  have hi := inv_nn hp
  have hc : (xq - xp) * (xq - xp)⁻¹ = 1 := Rat.mul_inv_cancel _ (by grind)
  rw [Rat.div_def]
  generalize (xq - xp)⁻¹ = i at *
  have ht0 : 0 ≤ (x - xp) * i := Rat.mul_nonneg (by grind) hi
  have ht1 : 0 ≤ (xq - x) * i := Rat.mul_nonneg (by grind) hi
  have e : 1 - (x - xp) * i = (xq - x) * i := by grind
  have e2 : yp + (x - xp) * ((yq - yp) * i) = yp * (1 - (x - xp) * i) + yq * ((x - xp) * i) := by grind
  rw [e2]
  generalize (x - xp) * i = t at *
  rw [← e] at ht1
  have m1 := Rat.mul_nonneg a1 ht1
  have m2 := Rat.mul_nonneg b1 ht0
  have m3 := Rat.mul_nonneg (show 0 ≤ 1 - yp by grind) ht1
  have m4 := Rat.mul_nonneg (show 0 ≤ 1 - yq by grind) ht0
  constructor
  · grind
  · grind
theorem onT_unit {p q : Pt} (hs : Seg p q) {x0 x1 : Int} (hx : OkU x0 x1) (h1 : p.f0.f0 * x1 ≤ x0 * p.f0.f1) (h2 : x0 * q.f0.f1 ≤ q.f0.f0 * x1) (hok : (onT p q x0 x1).2.2 = true) : OkU (onT p q x0 x1).1 (onT p q x0 x1).2.1 := by
  have hR := onT_ok hok
  obtain ⟨u1, u2, _, _⟩ := co_sub hs.cq.2 hs.cp.2
  obtain ⟨v1, v2, _, _⟩ := co_sub hs.cq.1 hs.cp.1
  have v5 := sub_ne hs.cq.1.1.1 hs.cp.1.1.1 hs.lt v1
  have pd := hs.cp.1.1.1.1
  have pd2 := hs.cp.2.1.1.1
  have qd := hs.cq.1.1.1.1
  have qd2 := hs.cq.2.1.1.1
  have xd := hx.1.1
  have hsl := seg_slope hs
  have eu : rq (subT q.f1.f0 q.f1.f1 p.f1.f0 p.f1.f1).1 (subT q.f1.f0 q.f1.f1 p.f1.f0 p.f1.f1).2.1 = rq q.f1.f0 q.f1.f1 - rq p.f1.f0 p.f1.f1 := by
    unfold subT at u1 ⊢
    rw [mk_rq _ _ (den_pos hs.cq.2.1.1 hs.cp.2.1.1) u1, rq_sub (by omega) (by omega)]
  have ev : rq (subT q.f0.f0 q.f0.f1 p.f0.f0 p.f0.f1).1 (subT q.f0.f0 q.f0.f1 p.f0.f0 p.f0.f1).2.1 = rq q.f0.f0 q.f0.f1 - rq p.f0.f0 p.f0.f1 := by
    unfold subT at v1 ⊢
    rw [mk_rq _ _ (den_pos hs.cq.1.1.1 hs.cp.1.1.1) v1, rq_sub (by omega) (by omega)]
  have es : rq (slT p q).1 (slT p q).2.1 = (rq q.f1.f0 q.f1.f1 - rq p.f1.f0 p.f1.f1) / (rq q.f0.f0 q.f0.f1 - rq p.f0.f0 p.f0.f1) := by
    have hk := hsl.1
    rw [← eu, ← ev]
    unfold slT divT at hk ⊢
    rw [if_neg v5] at hk ⊢
    have w1 := u2.1
    have w2 := v2.1
    rw [mk_rq _ _ (Int.mul_ne_zero (by omega) v5) hk, rq_div (by omega) (by omega) v5]
  unfold onT at hok hR ⊢
  split at hok
  · rename_i hf
    rw [if_pos hf] at hR ⊢
    split at hok
    · rename_i hm
      rw [if_pos hm] at hR ⊢
      have hfo := subT_ok _ _ _ _ hf
      have hmo := mulT_ok _ _ _ _ hm
      have ef : rq (subT x0 x1 p.f0.f0 p.f0.f1).1 (subT x0 x1 p.f0.f0 p.f0.f1).2.1 = rq x0 x1 - rq p.f0.f0 p.f0.f1 := by
        unfold subT at hf ⊢
        rw [mk_rq _ _ (den_pos hx.1 hs.cp.1.1.1) hf, rq_sub (by omega) (by omega)]
      generalize hfar : subT x0 x1 p.f0.f0 p.f0.f1 = far at *
      generalize hsll : slT p q = sl at *
      have em : rq (mulT far.1 far.2.1 sl.1 sl.2.1).1 (mulT far.1 far.2.1 sl.1 sl.2.1).2.1 = rq far.1 far.2.1 * rq sl.1 sl.2.1 := by
        have w1 := hfo.1
        have w2 := hsl.2.1
        unfold mulT at hm ⊢
        rw [mk_rq _ _ (den_pos hfo hsl.2) hm, rq_mul (by omega) (by omega)]
      generalize hmul : mulT far.1 far.2.1 sl.1 sl.2.1 = mu at *
      have ea : rq (addT p.f1.f0 p.f1.f1 mu.1 mu.2.1).1 (addT p.f1.f0 p.f1.f1 mu.1 mu.2.1).2.1 = rq p.f1.f0 p.f1.f1 + rq mu.1 mu.2.1 := by
        have w1 := hmo.1
        unfold addT at hok ⊢
        rw [mk_rq _ _ (den_pos hs.cp.2.1.1 hmo) hok, rq_add (by omega) (by omega)]
      rw [em, ef, es] at ea
      have hxx : rq p.f0.f0 p.f0.f1 < rq q.f0.f0 q.f0.f1 := by
        have g1 := rq_nn (n := (subT q.f0.f0 q.f0.f1 p.f0.f0 p.f0.f1).1) (d := (subT q.f0.f0 q.f0.f1 p.f0.f0 p.f0.f1).2.1)
        have g2 : rq p.f0.f0 p.f0.f1 ≤ rq q.f0.f0 q.f0.f1 := le_rq (by omega) (by omega) (Int.le_of_lt hs.lt)
        have g3 : rq p.f0.f0 p.f0.f1 ≠ rq q.f0.f0 q.f0.f1 := by
          intro hh
          have g4 : rq (subT q.f0.f0 q.f0.f1 p.f0.f0 p.f0.f1).1 (subT q.f0.f0 q.f0.f1 p.f0.f0 p.f0.f1).2.1 = 0 := by rw [ev, hh]; grind
          have g5 := rq_pos (show 0 < (subT q.f0.f0 q.f0.f1 p.f0.f0 p.f0.f1).2.1 by have := v2.1; omega)
          have g6 : ((subT q.f0.f0 q.f0.f1 p.f0.f0 p.f0.f1).1 : Rat) ≠ 0 := by simpa using v5
          unfold rq at g4
          grind
        grind
      have hb := between01 (rq p.f0.f0 p.f0.f1) (rq q.f0.f0 q.f0.f1) (rq p.f1.f0 p.f1.f1) (rq q.f1.f0 q.f1.f1) (rq x0 x1)
        (le_rq (by omega) (by omega) h1) (le_rq (by omega) (by omega) h2) hxx
        (rq_nn hs.cp.2.1.2.1 (by omega)) (rq_one (by omega) hs.cp.2.1.2.2) (rq_nn hs.cq.2.1.2.1 (by omega)) (rq_one (by omega) hs.cq.2.1.2.2)
      rw [← ea] at hb
      have hp := hR.1
      exact ⟨hR, nn_rq (by omega) hb.1, le_one (by omega) hb.2⟩
    · cases hok
  · cases hok
theorem atT_unit {l : List Pt} (hm : IsMap l) {x0 x1 : Int} (hx : OkU x0 x1) (hok : (atT l x0 x1).2.2 = true) : OkU (atT l x0 x1).1 (atT l x0 x1).2.1 := by
  obtain ⟨h1, _, _, h2, h3⟩ := piece_eq l x0 x1 hm hx
  exact onT_unit (hm.seg _ h1) hx h2 h3 hok
end Go.Proofs.Ytgejkhbehoabdaa.Pu
set_option linter.unusedVariables false
set_option linter.unusedSimpArgs false
namespace Go.Proofs.Ytgejkhbehoabdaa.Pu
open Go.RowKit Go.Proofs.Ytgejkhbehoabdaa.Q Go.Proofs.YtgejkhbehoabdaaW.PrintWords Go.Proofs.YtgejkhbehoabdaaW.PrintLast Go.Proofs.YtgejkhbehoabdaaW.PrintMore
theorem nr_last (l : List Ra) (x : Ra) : nr (l ++ [x]) ((l ++ [x]).length - 1) = x := by
  unfold nr
  simp
def retL (o : Option (List Ra)) : List Ra × Bool := match o with | some l => (l, true) | none => ([], false)
theorem value_ok {l : List Pt} (hm : IsMap l) {x0 x1 : Int} (hx : OkU x0 x1) (k : Nat) (hk : 300 ≤ k) : ∃ v, impl_calc_value.f k false l x0 x1 = some v ∧ v.2.2 = !(atT l x0 x1).2.2 ∧ ((atT l x0 x1).2.2 = true → v.1 = (atT l x0 x1).1 ∧ v.2.1 = (atT l x0 x1).2.1) := by
  obtain ⟨v, e, r⟩ := value_eq hm hx false k hk
  refine ⟨v, e, ?_, r.val⟩
  rw [r.bad]
  rfl
def rdR (a b d : Int) : Ra := ⟨(mk ((a * d).tdiv b) d).1, (mk ((a * d).tdiv b) d).2.1⟩
theorem round_num {a b d : Int} (h : OkU a b) (h1 : 1 ≤ d) (h2 : d ≤ 1000) : 0 ≤ a * d ∧ a * d ≤ 1000000000000 ∧ 0 ≤ (a * d).tdiv b ∧ (a * d).tdiv b ≤ d ∧ ¬ Int.tmod (a * d) b < 0 := by
  have hb := h.1.1
  have hb2 := h.1.2.1
  have h3 : 0 ≤ a * d := Int.mul_nonneg h.2.1 (by omega)
  have h4 : a * d ≤ b * d := Int.mul_le_mul_of_nonneg_right h.2.2 (by omega)
  have h5 : b * d ≤ 1000000000 * 1000 := Int.mul_le_mul hb2 h2 (by omega) (by omega)
  have h6 : 0 ≤ (a * d).tdiv b := Int.tdiv_nonneg h3 (by omega)
  have h7 : (a * d).tdiv b ≤ d := by
    rw [Int.tdiv_eq_ediv_of_nonneg h3]
    have := Int.ediv_le_ediv (show 0 < b by omega) h4
    rwa [Int.mul_ediv_cancel_left d (by omega)] at this
  have h8 : 0 ≤ Int.tmod (a * d) b := Int.tmod_nonneg _ h3
  exact ⟨h3, by omega, h6, h7, by omega⟩
theorem rdR_ok {a b d : Int} (h : OkU a b) (h1 : 1 ≤ d) (h2 : d ≤ 1000) : (mk ((a * d).tdiv b) d).2.2 = true ∧ OkU (rdR a b d).f0 (rdR a b d).f1 := by
  obtain ⟨_, _, h6, h7, _⟩ := round_num h h1 h2
  unfold rdR
  generalize (a * d).tdiv b = n at *
  obtain ⟨m1, m2, m3, m4⟩ := mk_small n d (by omega) (by omega) (by omega)
  have hs : 0 < sg n d := by
    have := gcd_pos n d (by omega)
    unfold sg
    rw [if_neg (by omega)]
    omega
  rw [m4]
  refine ⟨rfl, m1, Int.tdiv_nonneg h6 (by omega), ?_⟩
  show n.tdiv (sg n d) ≤ d.tdiv (sg n d)
  rw [Int.tdiv_eq_ediv_of_nonneg h6, Int.tdiv_eq_ediv_of_nonneg (show 0 ≤ d by omega)]
  exact Int.ediv_le_ediv hs h7
theorem roundDown_eq {a b d : Int} (h : OkU a b) (h1 : 1 ≤ d) (h2 : d ≤ 1000) (k : Nat) (hk : 300 ≤ k) : impl_RoundDownTo.f k a b d = some ((rdR a b d).f0, (rdR a b d).f1, true) := by
  obtain ⟨h3, h4, h6, h7, h8⟩ := round_num h h1 h2
  have hb := h.1.1
  have hb2 := h.1.2.1
  obtain ⟨k, rfl⟩ : ∃ m, k = m + 1 := ⟨k - 1, by omega⟩
  unfold impl_RoundDownTo.f impl_within.f
  rw [isRat_eq a b (k + 1) (by omega), Option.bind_some, if_pos (decide_eq_true h.1), if_pos h1, Option.bind_some]
  simp only [impl_RoundDownTo.j0, impl_floorDivide.f]
  have hok := (rdR_ok h h1 h2).1
  unfold rdR
  rw [show decide (d ≤ 1000000000) = true from decide_eq_true (by omega), Bool.not_true, if_neg (by decide), wr (a * d) (by omega), if_neg (by omega), if_neg h8, wr _ (by omega), Option.bind_some,
    lowest_eq _ d (by omega) (by omega) (by omega) k (by omega), Option.bind_some, hok]
theorem raDown_eq {a b d : Int} (h : OkU a b) (h1 : 1 ≤ d) (h2 : d ≤ 1000) : spec_raDown.f (wrap64 (a * d)) b = some ((a * d).tdiv b) := by
  obtain ⟨h3, h4, h6, h7, h8⟩ := round_num h h1 h2
  have hb := h.1.1
  unfold spec_raDown.f
  rw [wr (a * d) (by omega), if_neg (by omega), if_neg h8, wr _ (by omega)]
def roO (f : List Pt) (d : Int) : Nat → Ra → List Ra → Option (List Ra)
  | 0, _, out => some out
  | n + 1, x, out => if (atT f x.f0 x.f1).2.2 = true then roO f d n (rdR (atT f x.f0 x.f1).1 (atT f x.f0 x.f1).2.1 d) (out ++ [rdR (atT f x.f0 x.f1).1 (atT f x.f0 x.f1).2.1 d]) else none
theorem roO_len (f : List Pt) (d : Int) : ∀ n x out o, roO f d n x out = some o → o.length = out.length + n := by
  intro n
  induction n with
  | zero => intro x out o h; cases h; rfl
  | succ n ih =>
    intro x out o h
    unfold roO at h
    split at h
    · have := ih _ _ _ h
      simp at this
      omega
    · cases h
theorem impl_round_l (f : List Pt) (hm : IsMap f) (d : Int) (h1 : 1 ≤ d) (h2 : d ≤ 1000) (s : Nat) (hs : s ≤ 19) : ∀ (n k i : Nat) (x : Ra) (out : List Ra), OkU x.f0 x.f1 → i + n = s → out.length ≤ i + 1 → 400 + n < k →
    impl_RoundedOrbit.l0 k f d out (s : Int) (i : Int) x.f0 x.f1 false = some (retL (roO f d n x out)) := by
  intro n
  induction n with
  | zero =>
    intro k i x out hx hi ho hk
    obtain ⟨k, rfl⟩ : ∃ m, k = m + 1 := ⟨k - 1, by omega⟩
    simp only [impl_RoundedOrbit.l0]
    rw [if_neg (by omega)]
    rfl
  | succ n ih =>
    intro k i x out hx hi ho hk
    obtain ⟨k, rfl⟩ : ∃ m, k = m + 1 := ⟨k - 1, by omega⟩
    simp only [impl_RoundedOrbit.l0]
    obtain ⟨v, e, r1, r2⟩ := value_ok hm hx k (by omega)
    rw [if_pos (by omega), e, Option.bind_some]
    unfold roO
    cases ha : (atT f x.f0 x.f1).2.2 with
    | false =>
      rw [r1, ha, if_pos (by rfl), if_neg (by decide)]
      rfl
    | true =>
      have hu := atT_unit hm hx ha
      obtain ⟨e1, e2⟩ := r2 ha
      obtain ⟨q1, q2⟩ := rdR_ok hu h1 h2
      rw [r1, ha, if_neg (by decide), if_pos rfl, e1, e2, roundDown_eq hu h1 h2 k (by omega), Option.bind_some, keep_eq3, Option.bind_some, if_pos (by omega), kp_val (by rfl), wr _ (by omega), show (i : Int) + 1 = ((i + 1 : Nat) : Int) by omega]
      exact ih k (i + 1) _ _ q2 (by omega) (by simp; omega) (by omega)
theorem spec_round_l (f : List Pt) (hm : IsMap f) (d : Int) (h1 : 1 ≤ d) (h2 : d ≤ 1000) (s : Nat) (hs : s ≤ 19) : ∀ (n k : Nat) (x : Ra) (out : List Ra), OkU x.f0 x.f1 → out.length + n = s + 1 → 1 ≤ out.length → nr out (out.length - 1) = x → 400 + n < k →
    spec_RoundedOrbit.l0 k f (s : Int) d out = some (retL (roO f d n x out)) := by
  intro n
  induction n with
  | zero =>
    intro k x out hx hi ho hl hk
    obtain ⟨k, rfl⟩ : ∃ m, k = m + 1 := ⟨k - 1, by omega⟩
    simp only [spec_RoundedOrbit.l0]
    rw [if_neg (by omega)]
    rfl
  | succ n ih =>
    intro k x out hx hi ho hl hk
    obtain ⟨k, rfl⟩ : ∃ m, k = m + 1 := ⟨k - 1, by omega⟩
    simp only [spec_RoundedOrbit.l0]
    rw [if_pos (by omega), wr _ (by omega), if_pos (by omega), if_pos (by omega), show (out.length : Int) - 1 = ((out.length - 1 : Nat) : Int) by omega, rd_nr, hl, imAt_eq hm hx k (by omega), Option.bind_some]
    unfold roO
    cases ha : (atT f x.f0 x.f1).2.2 with
    | false =>
      rw [if_neg (by decide), if_neg (by decide)]
      rfl
    | true =>
      have hu := atT_unit hm hx ha
      obtain ⟨q1, q2⟩ := rdR_ok hu h1 h2
      obtain ⟨h3, h4, h6, h7, h8⟩ := round_num hu h1 h2
      rw [if_pos rfl, if_pos rfl, raDown_eq hu h1 h2, Option.bind_some, raMake_eq _ d (by omega) (by omega) (by omega) k (by omega), Option.bind_some, if_pos (by omega)]
      exact ih k _ _ q2 (by simp; omega) (by simp) (nr_last _ _) (by omega)
end Go.Proofs.Ytgejkhbehoabdaa.Pu
set_option linter.unusedVariables false
set_option linter.unusedSimpArgs false
namespace Go.Proofs.Ytgejkhbehoabdaa.Pure
open Go.RowKit Go.Proofs.Ytgejkhbehoabdaa.Q Go.Proofs.Ytgejkhbehoabdaa.Pu Go.Proofs.YtgejkhbehoabdaaW.PrintWords Go.Proofs.YtgejkhbehoabdaaW.PrintLast Go.Proofs.YtgejkhbehoabdaaW.PrintMore
noncomputable def roR (f : List Pt) (x0 x1 n d : Int) : List Ra × Bool :=
  if mapB f = true ∧ OkU x0 x1 ∧ (0 ≤ n ∧ n ≤ 19) ∧ (1 ≤ d ∧ d ≤ 1000) then retL (roO f d n.toNat ⟨x0, x1⟩ [⟨x0, x1⟩]) else ([], false)
theorem roR_len (f : List Pt) (x0 x1 n d : Int) : (roR f x0 x1 n d).1.length ≤ 1048577 := by
  unfold roR
  split
  · rename_i h
    cases ho : roO f d n.toNat ⟨x0, x1⟩ [⟨x0, x1⟩] with
    | none => simp [retL]
    | some z =>
      have := roO_len f d _ _ _ _ ho
      simp [retL]
      simp at this
      omega
  · simp
theorem impl_eq (f : List Pt) (x0 x1 n d : Int) (hf : f.length ≤ 1048576) (k : Nat) (hk : 3000 ≤ k) : impl_RoundedOrbit.f k f x0 x1 n d = some (roR f x0 x1 n d) := by
  unfold impl_RoundedOrbit.f impl_within.f roR
  obtain ⟨k, rfl⟩ : ∃ m, k = m + 1 := ⟨k - 1, by omega⟩
  rw [isMapB f hf (k + 1) (by omega), Option.bind_some]
  cases hm : mapB f with
  | false =>
    rw [if_neg (by decide), if_neg (fun h => by cases h.1)]
    simp only [impl_RoundedOrbit.j0, if_true]
  | true =>
    have hM := (mapB_iff f).1 hm
    rw [if_pos rfl, isUnit_eq _ _ (k + 1) (by omega), Option.bind_some]
    by_cases hx : OkU x0 x1
    · rw [if_pos (decide_eq_true hx)]
      by_cases h0 : 0 ≤ n
      · rw [if_pos h0, Option.bind_some]
        by_cases h1 : n ≤ 19
        · rw [if_pos (decide_eq_true h1)]
          by_cases h2 : 1 ≤ d
          · rw [if_pos h2, Option.bind_some]
            simp only [impl_RoundedOrbit.j0]
            by_cases h3 : d ≤ 1000
            · rw [decide_eq_true h3, Bool.not_true, if_neg (by decide), if_pos (by refine ⟨?_, hx, ⟨h0, h1⟩, h2, h3⟩ <;> first | rfl | trivial)]
              obtain ⟨m, rfl⟩ : ∃ m : Nat, n = m := ⟨n.toNat, by omega⟩
              have := impl_round_l f hM d h2 h3 m (by omega) m k 0 ⟨x0, x1⟩ [⟨x0, x1⟩] hx (by omega) (by simp) (by omega)
              rw [show ((0 : Nat) : Int) = 0 from rfl] at this
              exact this
            · rw [decide_eq_false h3, Bool.not_false, if_pos rfl, if_neg (fun h => h3 h.2.2.2.2)]
          · rw [if_neg h2, Option.bind_some, if_neg (fun h => h2 h.2.2.2.1)]
            simp only [impl_RoundedOrbit.j0]
            rw [if_pos (by rfl)]
        · rw [if_neg (by simpa using h1), if_neg (fun h => h1 h.2.2.1.2)]
          simp only [impl_RoundedOrbit.j0, if_true]
      · rw [if_neg h0, Option.bind_some, if_neg (by decide), if_neg (fun h => h0 h.2.2.1.1)]
        simp only [impl_RoundedOrbit.j0, if_true]
    · rw [if_neg (by simpa using hx), if_neg (fun h => hx h.2.1)]
      simp only [impl_RoundedOrbit.j0, if_true]
theorem spec_eq (f : List Pt) (x0 x1 n d : Int) (hf : f.length ≤ 1048576) (k : Nat) (hk : 3000 ≤ k) : spec_RoundedOrbit.f k f x0 x1 n d = some (roR f x0 x1 n d) := by
  unfold spec_RoundedOrbit.f spec_l1In.f roR
  obtain ⟨k, rfl⟩ : ∃ m, k = m + 1 := ⟨k - 1, by omega⟩
  rw [imGoodB f hf (k + 1) (by omega), Option.bind_some]
  cases hm : mapB f with
  | false =>
    rw [if_neg (by decide), if_neg (fun h => by cases h.1)]
    simp only [spec_RoundedOrbit.j0, if_true]
  | true =>
    have hM := (mapB_iff f).1 hm
    rw [if_pos rfl, raUnit_eq _ _ (k + 1) (by omega), Option.bind_some]
    by_cases hx : OkU x0 x1
    · rw [if_pos (decide_eq_true hx)]
      by_cases h0 : n ≥ 0
      · rw [if_pos h0, Option.bind_some]
        by_cases h1 : n ≤ 19
        · rw [if_pos (decide_eq_true h1)]
          by_cases h2 : d ≥ 1
          · rw [if_pos h2, Option.bind_some]
            simp only [spec_RoundedOrbit.j0]
            by_cases h3 : d ≤ 1000
            · rw [decide_eq_true h3, Bool.not_true, if_neg (by decide), if_pos (by refine ⟨?_, hx, ⟨h0, h1⟩, h2, h3⟩ <;> first | rfl | trivial)]
              obtain ⟨m, rfl⟩ : ∃ m : Nat, n = m := ⟨n.toNat, by omega⟩
              exact spec_round_l f hM d h2 h3 m (by omega) m k ⟨x0, x1⟩ [⟨x0, x1⟩] hx (by simp; omega) (by simp) rfl (by omega)
            · rw [decide_eq_false h3, Bool.not_false, if_pos rfl, if_neg (fun h => h3 h.2.2.2.2)]
          · rw [if_neg h2, Option.bind_some, if_neg (fun h => h2 h.2.2.2.1)]
            simp only [spec_RoundedOrbit.j0]
            rw [if_pos (by rfl)]
        · rw [if_neg (by simpa using h1), if_neg (fun h => h1 h.2.2.1.2)]
          simp only [spec_RoundedOrbit.j0, if_true]
      · rw [if_neg h0, Option.bind_some, if_neg (by decide), if_neg (fun h => h0 h.2.2.1.1)]
        simp only [spec_RoundedOrbit.j0, if_true]
    · rw [if_neg (by simpa using hx), if_neg (fun h => hx h.2.1)]
      simp only [spec_RoundedOrbit.j0, if_true]
theorem FnExactRoundedOrbit : laws_FnExactRoundedOrbit.Pure := by
  intro l0 a1_0 a1_1 a2 a3 _ _ _ _ _ _
  refine ⟨4000005, ?_⟩
  unfold laws_FnExactRoundedOrbit.f laws_szPointS.f laws_toRat.f
  have hm0 : (maxLen : Nat) ≤ 9223372036854775807 := by decide
  by_cases hb : (wrap64 (1048576 - (l0.length : Int))) < 0
  · rw [if_pos hb]; rfl
  · rw [if_neg hb]
    have hl0 : l0.length ≤ 1048576 := by rw [wr _ (by omega)] at hb; omega
    simp only [Option.bind_some]
    rw [if_neg hb, toPointS l0 hl0 _ (by omega)]
    simp only [Option.bind_some]
    have hf : (l0.map cvPoint).length ≤ 1048576 := by simpa using hl0
    generalize hF : l0.map cvPoint = F at hf
    rcases hv : roR F a1_0 a1_1 a2 a3 with ⟨v, b⟩
    have hv9 : v.length ≤ 1048577 := by have := roR_len F a1_0 a1_1 a2 a3; rw [hv] at this; exact this
    rw [spec_eq F _ _ _ _ hf _ (by omega), impl_eq F _ _ _ _ hf _ (by omega), hv]
    simp only [Option.bind_some]
    rw [eqRatS_self v (by omega) _ (by omega)]
    simp only [Option.bind_some, if_true, bne_self_eq_false, laws_FnExactRoundedOrbit.j0]
    rw [if_neg (by decide), toPointS l0 hl0 _ (by omega), hF]
    simp only [Option.bind_some]
    rw [eqPointS_self F (by omega) _ (by omega)]
    simp only [Option.bind_some, if_true]
    rw [markPointS F 1 (by omega) (by omega) _ (by omega)]
    simp only [Option.bind_some]
    rw [if_neg (by omega), eqRatS_self v (by omega) _ (by omega)]
    simp only [Option.bind_some, if_true, laws_FnExactRoundedOrbit.j1]
    rw [if_neg (by decide), markRatS v 1 (by omega) (by omega) _ (by omega)]
    simp only [Option.bind_some]
    rw [heldRatS v.length 1 (by omega) (by omega) _ (by omega)]
    simp only [Option.bind_some, laws_toRat.f]
    rw [if_neg (by omega), if_pos (by trivial), toPointS l0 hl0 _ (by omega), hF]
    simp only [Option.bind_some]
    rw [impl_eq F _ _ _ _ hf _ (by omega), hv]
    simp only [Option.bind_some]
    rw [eqRatS_self v (by omega) _ (by omega)]
    simp only [Option.bind_some, if_true, bne_self_eq_false, laws_FnExactRoundedOrbit.j2]
    rw [if_neg (by decide), heldRatS v.length 1 (by omega) (by omega) _ (by omega)]
    simp only [Option.bind_some]
    rw [if_neg (by omega), if_pos (by trivial)]
end Go.Proofs.Ytgejkhbehoabdaa.Pure

/- All that the statement FnExactCyclePattern rests on, part 5: the walks of the functions that it reaches, and the plain laws of what they compute. -/
import Derived.Test.YtlggehdfigkliaaKFnExactCyclePattern4
namespace Go.Proofs.Ytlggehdfigkliaa.Q
open Go.RowKit Go.Proofs.YtlggehdfigkliaaW.PrintWords Go.Proofs.YtlggehdfigkliaaW.PrintLast Go.Proofs.YtlggehdfigkliaaW.PrintMore
attribute [local go_sem] max2_int min2_int max_two min_two max_three min_three max_four min_four   -- for this text's walks alone
set_option linter.unusedVariables false
set_option linter.unusedSimpArgs false
mutual
def laws_FnExactCyclePattern.j0 : Nat → List (S60) → Int → List Int → Bool → List (S57) → List Int → Bool → Bool → Int → Int → Option (Bool)
 | 0, _, _, _, _, _, _, _, _, _, _ => none
 | k + 1, x0, x2, x8, x9, x10, x11, x12, x50, xA, xB => if x50 = true then (some false) else ((laws_toPointS.f k x0).bind fun tC => ((laws_eqPointS.f k x10 tC).bind fun tD => (if tD = true then ((laws_markPointS.f k x10 1).bind fun btE => (if btE.1 < 0 then (laws_FnExactCyclePattern.j1 k x0 x2 x8 x9 x11 true xA xB) else ((laws_eqIntS.f k x11 x8).bind fun tF => (if tF = true then (laws_FnExactCyclePattern.j1 k x0 x2 x8 x9 x11 (x12 != x9) xA xB) else (laws_FnExactCyclePattern.j1 k x0 x2 x8 x9 x11 true xA xB))))) else (some false))))
def laws_FnExactCyclePattern.j1 : Nat → List (S60) → Int → List Int → Bool → List Int → Bool → Int → Int → Option (Bool)
 | 0, _, _, _, _, _, _, _, _ => none
 | k + 1, x0, x2, x8, x9, x11, x71, xA, xB => if x71 = true then (some false) else ((laws_markIntS.f k x11 1).bind fun btC => ((laws_heldIntS.f k btC.2 1).bind fun tD => (if tD < 0 then (some false) else (if tD = btC.1 then ((laws_toPointS.f k x0).bind fun tE => ((laws_toRat.f xA xB).bind fun btF => ((impl_CyclePattern.f k tE btF.1 btF.2 x2).bind fun btG => ((laws_eqIntS.f k btG.1 x8).bind fun tH => (if tH = true then (laws_FnExactCyclePattern.j2 k btC.2 btC.1 (btG.2 != x9)) else (laws_FnExactCyclePattern.j2 k btC.2 btC.1 true)))))) else (some false)))))
def laws_FnExactCyclePattern.j2 : Nat → List Int → Int → Bool → Option (Bool)
 | 0, _, _, _ => none
 | k + 1, x11, x14, xA => if xA = true then (some false) else ((laws_heldIntS.f k x11 1).bind fun tB => (if tB < 0 then (some false) else (if tB = x14 then (some true) else (some false))))
end
def laws_FnExactCyclePattern.f (k : Nat) (l0 : List (S60)) (a1_0 : Int) (a1_1 : Int) (a2 : Int) : Option (Bool) := (laws_szPointS.f l0 1048576).bind fun tA => (if tA < 0 then (some true) else ((laws_toPointS.f k l0).bind fun tB => ((laws_toRat.f a1_0 a1_1).bind fun btC => ((spec_CyclePattern.f k tB btC.1 btC.2 a2).bind fun btD => ((laws_toPointS.f k l0).bind fun tE => ((laws_toRat.f a1_0 a1_1).bind fun btF => ((impl_CyclePattern.f k tE btF.1 btF.2 a2).bind fun btG => ((laws_eqIntS.f k btG.1 btD.1).bind fun tH => (if tH = true then (laws_FnExactCyclePattern.j0 k l0 a2 btD.1 btD.2 tE btG.1 btG.2 (btG.2 != btD.2) a1_0 a1_1) else (laws_FnExactCyclePattern.j0 k l0 a2 btD.1 btD.2 tE btG.1 btG.2 true a1_0 a1_1))))))))))
def laws_FnExactCyclePattern.T5 : Bool × List (List Nat × List Nat) := (true, [([], []), ([0], [0]), ([], []), ([2, 1], [2]), ([], []), ([1, 3, 4, 3], [1, 3, 4]), ([5], [5]), ([6], [6]), ([6], [6]), ([7, 5, 0, 1, 2, 3, 4, 5, 6, 7], [7]), ([8, 9, 0, 1, 2, 3, 4, 5, 6, 7, 8, 9], [8])])
def laws_FnExactCyclePattern.B5 : List Nat := [0, 1, 0, 7, 0, 31, 63, 127, 127, 255, 1023]
theorem laws_FnExactCyclePattern.tab5 : rtab .any (opsOf Try.f7 5) = laws_FnExactCyclePattern.T5 := by kernel_rfl
theorem laws_FnExactCyclePattern.bits5 : waitsOk laws_FnExactCyclePattern.T5.2 laws_FnExactCyclePattern.B5 = true := by kernel_rfl
def laws_FnExactCyclePattern.T24 : Bool × List (List Nat × List Nat) := (true, [([], []), ([0], [0]), ([], []), ([2, 1], [2]), ([], []), ([1, 3, 4, 3], [1, 3, 4]), ([5], [5]), ([6], [6]), ([6], [6]), ([7, 5, 0, 1, 2, 3, 4, 5, 6, 7], [7]), ([8, 9, 0, 1, 2, 3, 4, 5, 6, 7, 8, 9], [8])])
def laws_FnExactCyclePattern.B24 : List Nat := [0, 1, 0, 7, 0, 31, 63, 127, 127, 255, 1023]
theorem laws_FnExactCyclePattern.tab24 : rtab .any (opsOf Try.f7 24) = laws_FnExactCyclePattern.T24 := by kernel_rfl
theorem laws_FnExactCyclePattern.bits24 : waitsOk laws_FnExactCyclePattern.T24.2 laws_FnExactCyclePattern.B24 = true := by kernel_rfl
theorem zz232 {p : Prop} (h : p := by (with_reducible repeat (first | apply Kd.R_alloc | apply Kd.R_drewN | apply Kd.R_drew)); exact HOA.out) : p := h
theorem zz231 {p : Prop} (h : p := by (with_reducible repeat (first | apply Kd.R_alloc | apply Kd.R_drewN | apply Kd.R_drew)); exact HOB.out) : p := h
theorem zz230 {p : Prop} (h : p := by (with_reducible repeat (first | apply Kd.R_alloc | apply Kd.R_drewN | apply Kd.R_drew)); exact HO_11.out) : p := h
theorem zz229 {p : Prop} (h : p := by (with_reducible repeat (first | apply Kd.R_alloc | apply Kd.R_drewN | apply Kd.R_drew)); exact HOC.out) : p := h
theorem zz228 {p : Prop} (h : p := by (with_reducible repeat (first | apply Kd.R_alloc | apply Kd.R_drewN | apply Kd.R_drew)); exact HOD.out) : p := h
theorem zz227 {p : Prop} (h : p := by (with_reducible repeat (first | apply Kd.R_alloc | apply Kd.R_drewN | apply Kd.R_drew)); exact HOE.out) : p := h
theorem zz217 {p : Prop} (h : p := by (with_reducible repeat (first | refine blk_drewN ?_ _ | refine blk_drew ?_ | refine blk_alloc ?_ _)); exact BKF.out) : p := h
theorem zz167 {p : Prop} (h : p := by repeat (first | (with_reducible first | exact HB.out | apply below_alloc | apply pw_below_drewN | apply below_drew1 | refine below_set ?_ GEF.out) | exact HB.out)) : p := h
theorem zz70 {p : Prop} (h : p := by (try simp only [List.map_toArray, List.map_cons, List.map_nil]); first | done | (rw [show tG.length = tH.length from (Kd.R_reads' HO_11.out).1.symm] <;> rfl) | rfl | (simp only [List.length_drop, List.length_take]; rfl)) : p := h
set_option maxHeartbeats 8000000 in
set_option maxRecDepth 100000 in
theorem laws_FnExactCyclePattern.calls (k : Nat) (A0 : Option Addr) (c0 : Nat) (l0 : List (S60)) (a1_0 : Int) (a1_1 : Int) (a2 : Int) (r : Bool) (w : World) (hr0 : Kd.C k60 w A0 l0.length l0) (hc0 : l0.length ≤ c0) (h : laws_FnExactCyclePattern.f k l0 a1_0 a1_1 a2 = some r) :
  Calls Try.prog 7 #[.slice A0 l0.length c0, .agg #[.int .i64 a1_0, .int .i64 a1_1], .int .i64 a2] w fun e w' => e = .returned (.bool r) ∧ Below w.heap.size w w' := by
 have hu38 := Try.underlying38; have HR0 := Aside0.mk hr0; have HC0 := Aside0.mk hc0; clear hr0 hc0; have HB := Aside0.mk (Below.refl w.heap.size w); have H : ((laws_szPointS.f l0 1048576).bind fun tI => (if tI < 0 then (some true) else ((laws_toPointS.f k l0).bind fun tJ => ((laws_toRat.f a1_0 a1_1).bind fun btK => ((spec_CyclePattern.f k tJ btK.1 btK.2 a2).bind fun btL => ((laws_toPointS.f k l0).bind fun tM => ((laws_toRat.f a1_0 a1_1).bind fun btN => ((impl_CyclePattern.f k tM btN.1 btN.2 a2).bind fun btH => ((laws_eqIntS.f k btH.1 btL.1).bind fun tO => (if tO = true then (laws_FnExactCyclePattern.j0 k l0 a2 btL.1 btL.2 tM btH.1 btH.2 (btH.2 != btL.2) a1_0 a1_1) else (laws_FnExactCyclePattern.j0 k l0 a2 btL.1 btL.2 tM btH.1 btH.2 true a1_0 a1_1))))))))))) = some r := h; clear h; replace H := Option.bind_eq_some_iff.mp H; obtain ⟨tI, A40, H⟩ := H; replace H : (if tI < 0 then (some true) else ((laws_toPointS.f k l0).bind fun tJ => ((laws_toRat.f a1_0 a1_1).bind fun btK => ((spec_CyclePattern.f k tJ btK.1 btK.2 a2).bind fun btL => ((laws_toPointS.f k l0).bind fun tM => ((laws_toRat.f a1_0 a1_1).bind fun btN => ((impl_CyclePattern.f k tM btN.1 btN.2 a2).bind fun btH => ((laws_eqIntS.f k btH.1 btL.1).bind fun tO => (if tO = true then (laws_FnExactCyclePattern.j0 k l0 a2 btL.1 btL.2 tM btH.1 btH.2 (btH.2 != btL.2) a1_0 a1_1) else (laws_FnExactCyclePattern.j0 k l0 a2 btL.1 btL.2 tM btH.1 btH.2 true a1_0 a1_1)))))))))) = some r := H; have A4 := Aside0.mk A40; clear A40; by_cases c5 : tI < 0
 ·rw [if_pos c5] at H; have c5b0 : decide (tI < 0) = true := decide_eq_true c5; clear c5; obtain rfl := Option.some.inj H; go_enter Try.func7, Try.ntmps7
  go_wp2_with (first | ((with_reducible refine gate_dst (N := 4) rfl ?_); refine boxE 4 #[.int .i64 a1_0, .int .i64 a1_1] 38 ?_; intro gbF hg w6 hbox hb; have GWF := gwA (below_size zz171) hg; have GEF := GWF; have BKF := Aside0.mk (hbox); replace HB := Aside0.mk (below_step zz171 hb); clear hb hbox hg) | ((with_reducible refine gate_callee (f := 8) rfl ?_); refine goesL_ (some 20) rfl rfl Try.func8 (by kernel_rfl) rfl #[.slice A0 l0.length c0, .int .i64 1048576] rfl zz170 ?_; (with_reducible refine (laws_szPointS.calls _ _ l0 1048576 tI _ ?side1 ?side2 A4.out).mono ?_); (case side1 => repeat (first | exact (Kd.C_below HR0.out HB.out) | (with_reducible refine Kd.C_alloc ?_ _) | (with_reducible refine Kd.C_drewN ?_ _) | (with_reducible refine Kd.C_drew ?_))); (case side2 => exact HC0.out); rintro e w' ⟨rfl, ⟨nd, rfl⟩⟩; refine ⟨_, rfl, ?_⟩))
  go_ret
  exact ⟨zz240, zz167⟩
 ·rw [if_neg c5] at H; have c5b0 : decide (tI < 0) = false := decide_eq_false c5; clear c5; replace H := Option.bind_eq_some_iff.mp H; obtain ⟨tJ, A70, H⟩ := H; replace H : ((laws_toRat.f a1_0 a1_1).bind fun btK => ((spec_CyclePattern.f k tJ btK.1 btK.2 a2).bind fun btL => ((laws_toPointS.f k l0).bind fun tM => ((laws_toRat.f a1_0 a1_1).bind fun btN => ((impl_CyclePattern.f k tM btN.1 btN.2 a2).bind fun btH => ((laws_eqIntS.f k btH.1 btL.1).bind fun tO => (if tO = true then (laws_FnExactCyclePattern.j0 k l0 a2 btL.1 btL.2 tM btH.1 btH.2 (btH.2 != btL.2) a1_0 a1_1) else (laws_FnExactCyclePattern.j0 k l0 a2 btL.1 btL.2 tM btH.1 btH.2 true a1_0 a1_1)))))))) = some r := H; have A7 := Aside0.mk A70; clear A70; replace H := Option.bind_eq_some_iff.mp H; obtain ⟨⟨tK, tP⟩, A80, H⟩ := H; replace H : ((spec_CyclePattern.f k tJ tK tP a2).bind fun btL => ((laws_toPointS.f k l0).bind fun tM => ((laws_toRat.f a1_0 a1_1).bind fun btN => ((impl_CyclePattern.f k tM btN.1 btN.2 a2).bind fun btH => ((laws_eqIntS.f k btH.1 btL.1).bind fun tO => (if tO = true then (laws_FnExactCyclePattern.j0 k l0 a2 btL.1 btL.2 tM btH.1 btH.2 (btH.2 != btL.2) a1_0 a1_1) else (laws_FnExactCyclePattern.j0 k l0 a2 btL.1 btL.2 tM btH.1 btH.2 true a1_0 a1_1))))))) = some r := H; have A8 := Aside0.mk A80; clear A80; replace H := Option.bind_eq_some_iff.mp H; obtain ⟨⟨tL, tQ⟩, A90, H⟩ := H; replace H : ((laws_toPointS.f k l0).bind fun tM => ((laws_toRat.f a1_0 a1_1).bind fun btN => ((impl_CyclePattern.f k tM btN.1 btN.2 a2).bind fun btH => ((laws_eqIntS.f k btH.1 tL).bind fun tO => (if tO = true then (laws_FnExactCyclePattern.j0 k l0 a2 tL tQ tM btH.1 btH.2 (btH.2 != tQ) a1_0 a1_1) else (laws_FnExactCyclePattern.j0 k l0 a2 tL tQ tM btH.1 btH.2 true a1_0 a1_1)))))) = some r := H; have A9 := Aside0.mk A90; clear A90; replace H := Option.bind_eq_some_iff.mp H; obtain ⟨tM, AR, H⟩ := H; replace H : ((laws_toRat.f a1_0 a1_1).bind fun btN => ((impl_CyclePattern.f k tM btN.1 btN.2 a2).bind fun btH => ((laws_eqIntS.f k btH.1 tL).bind fun tO => (if tO = true then (laws_FnExactCyclePattern.j0 k l0 a2 tL tQ tM btH.1 btH.2 (btH.2 != tQ) a1_0 a1_1) else (laws_FnExactCyclePattern.j0 k l0 a2 tL tQ tM btH.1 btH.2 true a1_0 a1_1))))) = some r := H; have A10 := Aside0.mk AR; clear AR; replace H := Option.bind_eq_some_iff.mp H; obtain ⟨⟨tN, tS⟩, AT, H⟩ := H; replace H : ((impl_CyclePattern.f k tM tN tS a2).bind fun btH => ((laws_eqIntS.f k btH.1 tL).bind fun tO => (if tO = true then (laws_FnExactCyclePattern.j0 k l0 a2 tL tQ tM btH.1 btH.2 (btH.2 != tQ) a1_0 a1_1) else (laws_FnExactCyclePattern.j0 k l0 a2 tL tQ tM btH.1 btH.2 true a1_0 a1_1)))) = some r := H; have A11 := Aside0.mk AT; clear AT; replace H := Option.bind_eq_some_iff.mp H; obtain ⟨⟨tH, tU⟩, AV, H⟩ := H; replace H : ((laws_eqIntS.f k tH tL).bind fun tO => (if tO = true then (laws_FnExactCyclePattern.j0 k l0 a2 tL tQ tM tH tU (tU != tQ) a1_0 a1_1) else (laws_FnExactCyclePattern.j0 k l0 a2 tL tQ tM tH tU true a1_0 a1_1))) = some r := H; have A12 := Aside0.mk AV; clear AV; have HC13 := Aside0.mk H; clear H; go_enter Try.func7, Try.ntmps7
  try go_wp2_with (first | ((with_reducible refine gate_dst (N := 4) rfl ?_); refine boxE 4 #[.int .i64 a1_0, .int .i64 a1_1] 38 ?_; intro gbF hg w14 hbox hb; have GWF := gwA (below_size zz171) hg; have GEF := GWF; have BKF := Aside0.mk (hbox); replace HB := Aside0.mk (below_step zz171 hb); clear hb hbox hg) | ((with_reducible refine gate_callee (f := 8) rfl ?_); refine goesL_ (some 20) rfl rfl Try.func8 (by kernel_rfl) rfl #[.slice A0 l0.length c0, .int .i64 1048576] rfl zz170 ?_; (with_reducible refine (laws_szPointS.calls _ _ l0 1048576 tI _ ?side1 ?side2 A4.out).mono ?_); (case side1 => repeat (first | exact (Kd.C_below HR0.out HB.out) | (with_reducible refine Kd.C_alloc ?_ _) | (with_reducible refine Kd.C_drewN ?_ _) | (with_reducible refine Kd.C_drew ?_))); (case side2 => exact HC0.out); rintro e w' ⟨rfl, ⟨nd, rfl⟩⟩; refine ⟨_, rfl, ?_⟩))
  (try (rw [drewN_self w14]; generalize hq_ : World.drewN w14 _ = w14; have n0_ : Aside0 (w14.heap[gbF]? = some (.cells #[.int .i64 a1_0, .int .i64 a1_1] 38 (0, 0))) := ⟨by rw [← hq_]; exact zz217⟩; have n1_ : Aside0 (Below w.heap.size w w14) := ⟨by rw [← hq_]; exact zz167⟩; clear BKF HB hq_; have BKF := n0_; have HB := n1_; clear n0_ n1_)); replace BKF := Aside0.mk (blk_drew BKF.out); replace HB := Aside0.mk (below_drew1 HB.out); refine start_ (n := 11) (S := fun w' => w'.cell? ⟨gbF, 0, none⟩ = some (.int .i64 a1_0) ∧ w'.cell? ⟨gbF, 1, none⟩ = some (.int .i64 a1_1)) (ds := []) (.replicate 11 fF) (by kernel_rfl) rfl rfl ⟨bcA BKF 0, bcA BKF 1⟩ (fun hHeld => ?_); refine with_tabW laws_FnExactCyclePattern.tab5 laws_FnExactCyclePattern.bits5 (fun HT_ HW_ => ?_); generalize w14.drew = w15 at BKF HB hHeld ⊢; refine pureA 0 (some 24) (bB 11 1) HT_ ?_; refine pureA 4 (some 28) (bB 11 17) HT_ ?_; refine takeA5 2 (some 26) (bB 11 21) HT_ HW_ hHeld ?_; refine one_ (i := 1) (N := some 25) (bB 11 23) rfl rfl (one_of HT_.out (by kernel_rfl)) (by decide) (fun K hK => ?_); refine goes_ Try.func11 (by kernel_rfl) rfl #[.slice A0 l0.length c0] (by rfl) rfl rfl zz170 ?_; with_reducible refine (laws_toPointS.calls k _ _ l0 tJ _ ?side1 ?side2 A7.out).mono ?_
  (case side1 => repeat (first | exact (Kd.C_below HR0.out HB.out) | (with_reducible refine Kd.C_alloc ?_ _) | (with_reducible refine Kd.C_drewN ?_ _) | (with_reducible refine Kd.C_drew ?_))); (case side2 => exact HC0.out); rintro e w16 ⟨vW, rfl, ho0, hb⟩; refine ⟨_, rfl, ?_⟩; have HOE := Aside0.mk (Kd.R_lower ho0 (below_size zz167)); replace BKF := blkA BKF hb; replace HB := Aside0.mk (below_step zz167 hb); (try clear hb); (try clear ho0); refine hK.out _ _ ⟨bcA BKF 0, bcA BKF 1⟩ (fun hHeld => ?_); clear hK K; refine normA (some 25) ?_; refine one_ (i := 3) (N := some 27) (bB 11 31) rfl rfl (one_of HT_.out (by kernel_rfl)) (by decide) (fun K hK => ?_); refine goes_ Try.func18 (by kernel_rfl) rfl #[.agg #[.int .i64 a1_0, .int .i64 a1_1]] (by rfl) rfl rfl zz170 ?_; with_reducible refine (laws_toRat.calls a1_0 a1_1 tK tP _ A8.out).mono ?_
  rintro e w17 ⟨rfl, hb⟩; refine ⟨_, rfl, ?_⟩; replace HOE := Aside0.mk (Kd.R_below zz227 hb); replace BKF := blkA BKF hb; replace HB := Aside0.mk (below_step zz167 hb); (try clear hb); obtain ⟨Ao18, co18, eo18⟩ := Kd.R_slice HOE.out; (first | subst eo18 | (injection eo18 with f1_ f2_ f3_; have f4_ := f1_.symm; have f5_ := f3_.symm; clear f1_ f2_ f3_; subst f4_; subst f5_))
  refine hK.out _ _ ⟨bcA BKF 0, bcA BKF 1⟩ (fun hHeld => ?_); clear hK K; refine normA (some 27) ?_; refine one_ (i := 5) (N := some 29) (bB 11 63) rfl rfl (one_of HT_.out (by kernel_rfl)) (by decide) (fun K hK => ?_); refine goes_ Try.func24 (by kernel_rfl) rfl #[.slice Ao18 tJ.length co18, .agg #[.int .i64 tK, .int .i64 tP], .int .i64 a2] (by rfl) rfl rfl zz170 ?_; with_reducible refine (spec_CyclePattern.calls k _ _ tJ tK tP a2 tL tQ _ ?side1 ?side2 A9.out).mono ?_
  (case side1 => repeat (first | exact (Kd.R_reads' HOE.out).2.2 | (with_reducible refine Kd.C_alloc ?_ _) | (with_reducible refine Kd.C_drewN ?_ _) | (with_reducible refine Kd.C_drew ?_))); (case side2 => exact (Kd.R_reads' HOE.out).2.1); rintro e w19 ⟨vX, rfl, ho0, hb⟩; refine ⟨_, rfl, ?_⟩; replace HOE := Aside0.mk (Kd.R_below zz227 hb); have HOD := Aside0.mk (Kd.R_lower ho0 (below_size zz167)); replace BKF := blkA BKF hb; replace HB := Aside0.mk (below_step zz167 hb); (try clear hb); (try clear ho0); refine hK.out _ _ ⟨bcA BKF 0, bcA BKF 1⟩ (fun hHeld => ?_); clear hK K; refine normA (some 29) ?_; refine pureA 6 (some 23) (bB 11 127) HT_ ?_; refine pureA 7 (some 30) (bB 11 255) HT_ ?_; refine pureA 8 (some 31) (bB 11 511) HT_ ?_; refine pureA 9 (some 8) (bB 11 1023) HT_ ?_; refine pureA 10 (some 9) (bB 11 2047) HT_ ?_; refine done_ (done_of HT_.out (by kernel_rfl)) ?_; go_upto_region 8 with (first | ((with_reducible refine gate_callee (f := 11) rfl ?_); refine goesL_ (some 33) rfl rfl Try.func11 (by kernel_rfl) rfl #[.slice A0 l0.length c0] rfl zz170 ?_; (with_reducible refine (laws_toPointS.calls k _ _ l0 tM _ ?side1 ?side2 A10.out).mono ?_); (case side1 => repeat (first | exact (Kd.C_below HR0.out HB.out) | (with_reducible refine Kd.C_alloc ?_ _) | (with_reducible refine Kd.C_drewN ?_ _) | (with_reducible refine Kd.C_drew ?_))); (case side2 => exact HC0.out); rintro e w20 ⟨vY, rfl, ho0, hb⟩; refine ⟨_, rfl, ?_⟩; have n0_ := Aside0.mk (Kd.R_elder' zz227 (Kd.R_base ho0) hb); replace HOD := Aside0.mk (Kd.R_below zz228 hb); have HOC := Aside0.mk (Kd.R_lower (Kd.R_new' ho0 (Kd.R_lt zz227)) (below_size zz167)); clear HOE; have HOE := n0_; clear n0_; replace BKF := blkA BKF hb; replace HB := Aside0.mk (below_step zz167 hb); (try clear hb); (try clear ho0); obtain ⟨hcz21_0, hcz21_1, hfz21_0, hfz21_1⟩ := cz2 BKF.out) | ((with_reducible refine gate_callee (f := 18) rfl ?_); refine goesL_ (some 37) rfl rfl Try.func18 (by kernel_rfl) rfl #[.agg #[.int .i64 a1_0, .int .i64 a1_1]] rfl zz170 ?_; (with_reducible refine (laws_toRat.calls a1_0 a1_1 tN tS _ A11.out).mono ?_); rintro e w22 ⟨rfl, hb⟩; refine ⟨_, rfl, ?_⟩; replace HOE := Aside0.mk (Kd.R_below zz227 hb); replace HOD := Aside0.mk (Kd.R_below zz228 hb); replace HOC := Aside0.mk (Kd.R_below zz229 hb); replace BKF := blkA BKF hb; replace HB := Aside0.mk (below_step zz167 hb); (try clear hb); obtain ⟨Ao23, co23, eo23⟩ := Kd.R_slice HOC.out; subst eo23) | ((with_reducible refine gate_callee (f := 25) rfl ?_); refine goesL_ (some 39) rfl rfl Try.func25 (by kernel_rfl) rfl #[.slice Ao23 tM.length co23, .agg #[.int .i64 tN, .int .i64 tS], .int .i64 a2] rfl zz170 ?_; (with_reducible refine (impl_CyclePattern.calls k _ _ tM tN tS a2 tH tU _ ?side1 ?side2 A12.out).mono ?_); (case side1 => repeat (first | exact (Kd.R_reads' HOC.out).2.2 | (with_reducible refine Kd.C_alloc ?_ _) | (with_reducible refine Kd.C_drewN ?_ _) | (with_reducible refine Kd.C_drew ?_))); (case side2 => exact (Kd.R_reads' HOC.out).2.1); rintro e w24 ⟨vZ, rfl, ho0, hb⟩; refine ⟨_, rfl, ?_⟩; replace HOE := Aside0.mk (Kd.R_below zz227 hb); have n1_ := Aside0.mk (Kd.R_elder' zz228 (Kd.R_base ho0) hb); replace HOC := Aside0.mk (Kd.R_below zz229 hb); have HOAA := Aside0.mk (Kd.R_lower (Kd.R_new' ho0 (Kd.R_lt zz228)) (below_size zz167)); clear HOD; have HOD := n1_; clear n1_; replace BKF := blkA BKF hb; replace HB := Aside0.mk (below_step zz167 hb); (try clear hb); (try clear ho0)))
  (try simp only [Act.put, List.setIfInBounds_toArray, List.set_cons_zero, List.set_cons_succ]); go_cut [50] (fun v50 wc => ∃ (kq : Nat) (x50_12 : Bool), v50 = .bool x50_12 ∧ Aside0 (laws_FnExactCyclePattern.j0 kq l0 a2 tL tQ tM tH tU x50_12 a1_0 a1_1 = some r) ∧ Aside0 (kq ≤ k) ∧ Aside0 (Kd.R (Kd.int .i64) 3 wc w.heap.size (fun k_ => some k_ ≠ (vZ : Value).ownBlock) vX tL) ∧ Aside0 (Kd.R k57 57 wc w.heap.size (fun _ => True) (.slice Ao23 tM.length co23) tM) ∧ Aside0 (Kd.R (Kd.int .i64) 3 wc w.heap.size (fun k_ => some k_ ≠ (vX : Value).ownBlock) vZ tH) ∧ Aside0 (wc.heap[gbF]? = some (.cells #[.int .i64 a1_0, .int .i64 a1_1] 38 (0, 0))) ∧ Aside0 (Below w.heap.size w wc))
  case first =>
   have H := HC13.out; clear HC13; replace H := Option.bind_eq_some_iff.mp H; obtain ⟨tO, AAB, H⟩ := H; replace H : (if tO = true then (laws_FnExactCyclePattern.j0 k l0 a2 tL tQ tM tH tU (tU != tQ) a1_0 a1_1) else (laws_FnExactCyclePattern.j0 k l0 a2 tL tQ tM tH tU true a1_0 a1_1)) = some r := H; have A25 := Aside0.mk AAB; clear AAB; by_cases c26 : tO = true
   ·subst c26; have H1 : (laws_FnExactCyclePattern.j0 k l0 a2 tL tQ tM tH tU (tU != tQ) a1_0 a1_1) = some r := by rw [if_pos rfl] at H; exact H
    clear H; have H := H1; clear H1; have H' := Aside0.mk H; clear H; obtain ⟨Ao27, co27, eo27⟩ := Kd.R_slice HOAA.out; subst eo27; obtain ⟨Ao28, co28, eo28⟩ := Kd.R_slice HOD.out; subst eo28; go_wp2_with (first | ((with_reducible refine gate_callee (f := 26) rfl ?_); refine goesL_ (some 44) rfl rfl Try.func26 (by kernel_rfl) rfl #[.slice Ao27 tH.length co27, .slice Ao28 tL.length co28] rfl zz170 ?_; (with_reducible refine (laws_eqIntS.calls k _ _ tH _ _ tL true _ ?side1 ?side2 ?side3 ?side4 A25.out).mono ?_); (case side1 => repeat (first | exact (Kd.R_reads' HOAA.out).2.2 | (with_reducible refine Kd.C_alloc ?_ _) | (with_reducible refine Kd.C_drewN ?_ _) | (with_reducible refine Kd.C_drew ?_))); (case side2 => exact (Kd.R_reads' HOAA.out).2.1); (case side3 => repeat (first | exact (Kd.R_reads' HOD.out).2.2 | (with_reducible refine Kd.C_alloc ?_ _) | (with_reducible refine Kd.C_drewN ?_ _) | (with_reducible refine Kd.C_drew ?_))); (case side4 => exact (Kd.R_reads' HOD.out).2.1); rintro e w' ⟨rfl, ⟨nd, rfl⟩⟩; refine ⟨_, rfl, ?_⟩))
    go_meet
    case rel => exact ⟨_, ((tU != tQ)), zz250, H', ⟨by first | omega | exact Nat.le_refl _⟩, ⟨by (with_reducible repeat (first | apply Kd.R_alloc | apply Kd.R_drewN | apply Kd.R_drew)); exact Kd.R_mono HOD.out (fun _ hk => hk.2)⟩, ⟨by (with_reducible repeat (first | apply Kd.R_alloc | apply Kd.R_drewN | apply Kd.R_drew)); exact Kd.R_mono HOC.out (fun _ hk => trivial)⟩, ⟨by (with_reducible repeat (first | apply Kd.R_alloc | apply Kd.R_drewN | apply Kd.R_drew)); exact Kd.R_mono HOAA.out (fun _ hk => hk.2)⟩, ⟨by (with_reducible repeat (first | refine blk_drewN ?_ _ | refine blk_drew ?_ | refine blk_alloc ?_ _)); exact BKF.out⟩, ⟨by repeat (first | (with_reducible first | exact HB.out | apply below_alloc | apply pw_below_drewN | apply below_drew1 | refine below_set ?_ GEF.out) | exact HB.out)⟩⟩
   ·replace c26 := Bool.eq_false_iff.mpr c26; subst c26; have H1 : (laws_FnExactCyclePattern.j0 k l0 a2 tL tQ tM tH tU true a1_0 a1_1) = some r := by rw [if_neg (show ¬ (false = true) by decide)] at H; exact H
    clear H; have H := H1; clear H1; have H' := Aside0.mk H; clear H; obtain ⟨Ao29, co29, eo29⟩ := Kd.R_slice HOAA.out; subst eo29; obtain ⟨Ao30, co30, eo30⟩ := Kd.R_slice HOD.out; subst eo30; go_wp2_with (first | ((with_reducible refine gate_callee (f := 26) rfl ?_); refine goesL_ (some 44) rfl rfl Try.func26 (by kernel_rfl) rfl #[.slice Ao29 tH.length co29, .slice Ao30 tL.length co30] rfl zz170 ?_; (with_reducible refine (laws_eqIntS.calls k _ _ tH _ _ tL false _ ?side1 ?side2 ?side3 ?side4 A25.out).mono ?_); (case side1 => repeat (first | exact (Kd.R_reads' HOAA.out).2.2 | (with_reducible refine Kd.C_alloc ?_ _) | (with_reducible refine Kd.C_drewN ?_ _) | (with_reducible refine Kd.C_drew ?_))); (case side2 => exact (Kd.R_reads' HOAA.out).2.1); (case side3 => repeat (first | exact (Kd.R_reads' HOD.out).2.2 | (with_reducible refine Kd.C_alloc ?_ _) | (with_reducible refine Kd.C_drewN ?_ _) | (with_reducible refine Kd.C_drew ?_))); (case side4 => exact (Kd.R_reads' HOD.out).2.1); rintro e w' ⟨rfl, ⟨nd, rfl⟩⟩; refine ⟨_, rfl, ?_⟩))
    go_meet
    case rel => exact ⟨_, (true), zz250, H', ⟨by first | omega | exact Nat.le_refl _⟩, ⟨by (with_reducible repeat (first | apply Kd.R_alloc | apply Kd.R_drewN | apply Kd.R_drew)); exact Kd.R_mono HOD.out (fun _ hk => hk.2)⟩, ⟨by (with_reducible repeat (first | apply Kd.R_alloc | apply Kd.R_drewN | apply Kd.R_drew)); exact Kd.R_mono HOC.out (fun _ hk => trivial)⟩, ⟨by (with_reducible repeat (first | apply Kd.R_alloc | apply Kd.R_drewN | apply Kd.R_drew)); exact Kd.R_mono HOAA.out (fun _ hk => hk.2)⟩, ⟨by (with_reducible repeat (first | refine blk_drewN ?_ _ | refine blk_drew ?_ | refine blk_alloc ?_ _)); exact BKF.out⟩, ⟨by repeat (first | (with_reducible first | exact HB.out | apply below_alloc | apply pw_below_drewN | apply below_drew1 | refine below_set ?_ GEF.out) | exact HB.out)⟩⟩
  case rest =>
   clear HC13; try clear c1
   try clear c2
   try clear p2
   try clear c5
   try clear c5b0
   try clear c7
   try clear c8
   try clear c11
   try clear c18
   try clear c24
   try clear c25
   try clear c26
   try clear hcz21_0
   try clear hcz21_1
   try clear hfz21_0
   try clear hfz21_1
   obtain ⟨kq, x50_12, rfl, HA, HJ12, HO_8, HO_10, HO_11, BKF, HB⟩ := hcut; cases kq with
   | zero => exact absurd HA.out (by simp [laws_FnExactCyclePattern.j0])
   | succ kj12 =>
    have H := HA.out; clear HA; simp only [laws_FnExactCyclePattern.j0] at H; by_cases c31 : x50_12 = true
    ·subst c31; have H1 : (some false) = some r := by rw [if_pos rfl] at H; exact H
     clear H; have H := H1; clear H1; obtain rfl := Option.some.inj H; go_wp2
     go_ret
     exact ⟨zz240, zz167⟩
    ·replace c31 := Bool.eq_false_iff.mpr c31; subst c31; have H1 : ((laws_toPointS.f kj12 l0).bind fun tAC => ((laws_eqPointS.f kj12 tM tAC).bind fun tAD => (if tAD = true then ((laws_markPointS.f kj12 tM 1).bind fun btAE => (if btAE.1 < 0 then (laws_FnExactCyclePattern.j1 kj12 l0 a2 tL tQ tH true a1_0 a1_1) else ((laws_eqIntS.f kj12 tH tL).bind fun tAF => (if tAF = true then (laws_FnExactCyclePattern.j1 kj12 l0 a2 tL tQ tH (tU != tQ) a1_0 a1_1) else (laws_FnExactCyclePattern.j1 kj12 l0 a2 tL tQ tH true a1_0 a1_1))))) else (some false)))) = some r := by rw [if_neg (show ¬ (false = true) by decide)] at H; exact H
     clear H; have H := H1; clear H1; replace H := Option.bind_eq_some_iff.mp H; obtain ⟨tAC, AAG, H⟩ := H; replace H : ((laws_eqPointS.f kj12 tM tAC).bind fun tAD => (if tAD = true then ((laws_markPointS.f kj12 tM 1).bind fun btAE => (if btAE.1 < 0 then (laws_FnExactCyclePattern.j1 kj12 l0 a2 tL tQ tH true a1_0 a1_1) else ((laws_eqIntS.f kj12 tH tL).bind fun tAF => (if tAF = true then (laws_FnExactCyclePattern.j1 kj12 l0 a2 tL tQ tH (tU != tQ) a1_0 a1_1) else (laws_FnExactCyclePattern.j1 kj12 l0 a2 tL tQ tH true a1_0 a1_1))))) else (some false))) = some r := H; have A32 := Aside0.mk AAG; clear AAG; replace H := Option.bind_eq_some_iff.mp H; obtain ⟨tAD, AAH, H⟩ := H; replace H : (if tAD = true then ((laws_markPointS.f kj12 tM 1).bind fun btAE => (if btAE.1 < 0 then (laws_FnExactCyclePattern.j1 kj12 l0 a2 tL tQ tH true a1_0 a1_1) else ((laws_eqIntS.f kj12 tH tL).bind fun tAF => (if tAF = true then (laws_FnExactCyclePattern.j1 kj12 l0 a2 tL tQ tH (tU != tQ) a1_0 a1_1) else (laws_FnExactCyclePattern.j1 kj12 l0 a2 tL tQ tH true a1_0 a1_1))))) else (some false)) = some r := H; have A33 := Aside0.mk AAH; clear AAH; by_cases c34 : tAD = true
     ·subst c34; have H1 : ((laws_markPointS.f kj12 tM 1).bind fun btAE => (if btAE.1 < 0 then (laws_FnExactCyclePattern.j1 kj12 l0 a2 tL tQ tH true a1_0 a1_1) else ((laws_eqIntS.f kj12 tH tL).bind fun tAF => (if tAF = true then (laws_FnExactCyclePattern.j1 kj12 l0 a2 tL tQ tH (tU != tQ) a1_0 a1_1) else (laws_FnExactCyclePattern.j1 kj12 l0 a2 tL tQ tH true a1_0 a1_1))))) = some r := by rw [if_pos rfl] at H; exact H
      clear H; have H := H1; clear H1; replace H := Option.bind_eq_some_iff.mp H; obtain ⟨⟨tAE, tAI⟩, AAJ, H⟩ := H; replace H : (if tAE < 0 then (laws_FnExactCyclePattern.j1 kj12 l0 a2 tL tQ tH true a1_0 a1_1) else ((laws_eqIntS.f kj12 tH tL).bind fun tAF => (if tAF = true then (laws_FnExactCyclePattern.j1 kj12 l0 a2 tL tQ tH (tU != tQ) a1_0 a1_1) else (laws_FnExactCyclePattern.j1 kj12 l0 a2 tL tQ tH true a1_0 a1_1)))) = some r := H; have A35 := Aside0.mk AAJ; clear AAJ; have HC36 := Aside0.mk H; clear H; go_upto_region 14 with (first | ((with_reducible refine gate_callee (f := 11) rfl ?_); refine goesL_ (some 53) rfl rfl Try.func11 (by kernel_rfl) rfl #[.slice A0 l0.length c0] rfl zz170 ?_; (with_reducible refine (laws_toPointS.calls kj12 _ _ l0 tAC _ ?side1 ?side2 A32.out).mono ?_); (case side1 => repeat (first | exact (Kd.C_below HR0.out HB.out) | (with_reducible refine Kd.C_alloc ?_ _) | (with_reducible refine Kd.C_drewN ?_ _) | (with_reducible refine Kd.C_drew ?_))); (case side2 => exact HC0.out); rintro e w37 ⟨vAK, rfl, ho0, hb⟩; refine ⟨_, rfl, ?_⟩; replace HO_8 := Aside0.mk (Kd.R_below zz236 hb); have n1_ := Aside0.mk (Kd.R_elder' zz222 (Kd.R_base ho0) hb); replace HO_11 := Aside0.mk (Kd.R_below zz230 hb); have HOB := Aside0.mk (Kd.R_lower (Kd.R_new' ho0 (Kd.R_lt zz222)) (below_size zz167)); clear HO_10; have HO_10 := n1_; clear n1_; replace BKF := blkA BKF hb; replace HB := Aside0.mk (below_step zz167 hb); (try clear hb); (try clear ho0); obtain ⟨Ao38, co38, eo38⟩ := Kd.R_slice HOB.out; subst eo38) | ((with_reducible refine gate_callee (f := 15) rfl ?_); refine goesL_ (some 54) rfl rfl Try.func15 (by kernel_rfl) rfl #[.slice Ao23 tM.length co23, .slice Ao38 tAC.length co38] rfl zz170 ?_; (with_reducible refine (laws_eqPointS.calls kj12 _ _ tM _ _ tAC true _ ?side1 ?side2 ?side3 ?side4 A33.out).mono ?_); (case side1 => repeat (first | exact (Kd.R_reads' HO_10.out).2.2 | (with_reducible refine Kd.C_alloc ?_ _) | (with_reducible refine Kd.C_drewN ?_ _) | (with_reducible refine Kd.C_drew ?_))); (case side2 => exact (Kd.R_reads' HO_10.out).2.1); (case side3 => repeat (first | exact (Kd.R_reads' HOB.out).2.2 | (with_reducible refine Kd.C_alloc ?_ _) | (with_reducible refine Kd.C_drewN ?_ _) | (with_reducible refine Kd.C_drew ?_))); (case side4 => exact (Kd.R_reads' HOB.out).2.1); rintro e w39 ⟨rfl, hb⟩; refine ⟨_, rfl, ?_⟩; replace HO_8 := Aside0.mk (Kd.R_below zz236 hb); replace HO_10 := Aside0.mk (Kd.R_below zz222 hb); replace HO_11 := Aside0.mk (Kd.R_below zz230 hb); replace HOB := Aside0.mk (Kd.R_below zz231 hb); replace BKF := blkA BKF hb; replace HB := Aside0.mk (below_step zz167 hb); (try clear hb)) | ((with_reducible refine gate_callee (f := 27) rfl ?_); refine goesL_ (some 58) rfl rfl Try.func27 (by kernel_rfl) rfl #[.slice Ao23 tM.length co23, .int .i64 1] rfl zz170 ?_; (with_reducible refine (laws_markPointS.calls kj12 (fun k_ => some k_ = (.slice Ao23 tM.length co23 : Value).ownBlock) (.slice Ao23 tM.length co23) tM 1 tAE tAI w _ ?side1 ?side2 A35.out).mono ?_); (case side1 => repeat (first | (with_reducible first | exact HB.out | apply below_alloc | apply pw_below_drewN | apply below_drew1 | refine below_set ?_ GEF.out) | exact HB.out)); (case side2 => exact Kd.R_tight rfl HO_10.out); rintro e w40 ⟨rfl, hy0, hb, hkp⟩; refine ⟨_, rfl, ?_⟩; replace HO_8 := Aside0.mk (Kd.R_mono (ok' := fun k_ => some k_ ≠ (vZ : Value).ownBlock) (Kd.R_keptB ((Kd.R_apart' HO_8.out (Kd.R_typed HO_10.out) (by decide))) hkp (fun k_ hk_ hs_ => (hk_.2) hs_)) (fun k_ hk_ => hk_.1.1)); have n1_ := Aside0.mk (Kd.R_reok rfl hy0 (fun k_ e_ => HO_10.out.1 k_ e_)); replace HO_11 := Aside0.mk (Kd.R_mono (ok' := fun k_ => some k_ ≠ (vX : Value).ownBlock) (Kd.R_keptB ((Kd.R_apart' HO_11.out (Kd.R_typed HO_10.out) (by decide))) hkp (fun k_ hk_ hs_ => (hk_.2) hs_)) (fun k_ hk_ => hk_.1.1)); replace BKF := Aside0.mk (blk_kept zz217 hkp (fun hs_ => (fun e_ => (Kd.R_ne HO_10.out BKF.out (by decide)) e_) hs_)); replace HOB := Aside0.mk (Kd.R_mono (ok' := fun k_ => some k_ ≠ (.slice Ao23 tM.length co23 : Value).ownBlock) (Kd.R_keptB (HOB.out) hkp (fun k_ hk_ hs_ => (hk_.2) hs_)) (fun k_ hk_ => hk_.1.2)); clear HO_10; have HO_10 := n1_; clear n1_; replace HB := Aside0.mk (hb); (try clear hb); (try clear hkp); (try clear hy0)))
      (try simp only [Act.put, List.setIfInBounds_toArray, List.set_cons_zero, List.set_cons_succ]); go_cut [71] (fun v71 wc => ∃ (kq : Nat) (x71_35 : Bool), v71 = .bool x71_35 ∧ Aside0 (laws_FnExactCyclePattern.j1 kq l0 a2 tL tQ tH x71_35 a1_0 a1_1 = some r) ∧ Aside0 (kq ≤ kj12) ∧ Aside0 (Kd.R (Kd.int .i64) 3 wc w.heap.size (fun k_ => some k_ ≠ (vZ : Value).ownBlock) vX tL) ∧ Aside0 (Kd.R (Kd.int .i64) 3 wc w.heap.size (fun k_ => some k_ ≠ (vX : Value).ownBlock) vZ tH) ∧ Aside0 (wc.heap[gbF]? = some (.cells #[.int .i64 a1_0, .int .i64 a1_1] 38 (0, 0))) ∧ Aside0 (Below w.heap.size w wc))
      case first =>
       have H := HC36.out; clear HC36; by_cases c41 : tAE < 0
       ·rw [if_pos c41] at H; have c41b0 : decide (tAE < 0) = true := decide_eq_true c41; clear c41; (first | rw [c41b0] | (simp only [i64_w, i32_w]; rw [c41b0]) | skip)
        have H' := Aside0.mk H; clear H; go_wp2
        go_meet
        case rel => exact ⟨_, (true), zz250, H', ⟨by have := HJ12.out; first | omega | exact Nat.le_refl _⟩, ⟨by (with_reducible repeat (first | apply Kd.R_alloc | apply Kd.R_drewN | apply Kd.R_drew)); exact HO_8.out⟩, ⟨by (with_reducible repeat (first | apply Kd.R_alloc | apply Kd.R_drewN | apply Kd.R_drew)); exact HO_11.out⟩, ⟨by (with_reducible repeat (first | refine blk_drewN ?_ _ | refine blk_drew ?_ | refine blk_alloc ?_ _)); exact BKF.out⟩, ⟨by repeat (first | (with_reducible first | exact HB.out | apply below_alloc | apply pw_below_drewN | apply below_drew1 | refine below_set ?_ GEF.out) | exact HB.out)⟩⟩
       ·rw [if_neg c41] at H; have c41b0 : decide (tAE < 0) = false := decide_eq_false c41; clear c41; (first | rw [c41b0] | (simp only [i64_w, i32_w]; rw [c41b0]) | skip)
        replace H := Option.bind_eq_some_iff.mp H; obtain ⟨tAF, AAL, H⟩ := H; replace H : (if tAF = true then (laws_FnExactCyclePattern.j1 kj12 l0 a2 tL tQ tH (tU != tQ) a1_0 a1_1) else (laws_FnExactCyclePattern.j1 kj12 l0 a2 tL tQ tH true a1_0 a1_1)) = some r := H; have A42 := Aside0.mk AAL; clear AAL; by_cases c43 : tAF = true
        ·subst c43; have H1 : (laws_FnExactCyclePattern.j1 kj12 l0 a2 tL tQ tH (tU != tQ) a1_0 a1_1) = some r := by rw [if_pos rfl] at H; exact H
         clear H; have H := H1; clear H1; have H' := Aside0.mk H; clear H; obtain ⟨Ao44, co44, eo44⟩ := Kd.R_slice HO_11.out; subst eo44; obtain ⟨Ao45, co45, eo45⟩ := Kd.R_slice HO_8.out; subst eo45; go_wp2_with (first | (go_at_call 26; (with_reducible refine (laws_eqIntS.calls kj12 _ _ tH _ _ tL true _ ?side1 ?side2 ?side3 ?side4 A42.out).mono ?_); (case side1 => repeat (first | exact (Kd.R_reads' HO_11.out).2.2 | (with_reducible refine Kd.C_alloc ?_ _) | (with_reducible refine Kd.C_drewN ?_ _) | (with_reducible refine Kd.C_drew ?_))); (case side2 => exact (Kd.R_reads' HO_11.out).2.1); (case side3 => repeat (first | exact (Kd.R_reads' HO_8.out).2.2 | (with_reducible refine Kd.C_alloc ?_ _) | (with_reducible refine Kd.C_drewN ?_ _) | (with_reducible refine Kd.C_drew ?_))); (case side4 => exact (Kd.R_reads' HO_8.out).2.1); rintro e w' ⟨rfl, ⟨nd, rfl⟩⟩))
         go_meet
         case rel => exact ⟨_, ((tU != tQ)), zz250, H', ⟨by have := HJ12.out; first | omega | exact Nat.le_refl _⟩, ⟨by (with_reducible repeat (first | apply Kd.R_alloc | apply Kd.R_drewN | apply Kd.R_drew)); exact HO_8.out⟩, ⟨by (with_reducible repeat (first | apply Kd.R_alloc | apply Kd.R_drewN | apply Kd.R_drew)); exact HO_11.out⟩, ⟨by (with_reducible repeat (first | refine blk_drewN ?_ _ | refine blk_drew ?_ | refine blk_alloc ?_ _)); exact BKF.out⟩, ⟨by repeat (first | (with_reducible first | exact HB.out | apply below_alloc | apply pw_below_drewN | apply below_drew1 | refine below_set ?_ GEF.out) | exact HB.out)⟩⟩
        ·replace c43 := Bool.eq_false_iff.mpr c43; subst c43; have H1 : (laws_FnExactCyclePattern.j1 kj12 l0 a2 tL tQ tH true a1_0 a1_1) = some r := by rw [if_neg (show ¬ (false = true) by decide)] at H; exact H
         clear H; have H := H1; clear H1; have H' := Aside0.mk H; clear H; obtain ⟨Ao46, co46, eo46⟩ := Kd.R_slice HO_11.out; subst eo46; obtain ⟨Ao47, co47, eo47⟩ := Kd.R_slice HO_8.out; subst eo47; go_wp2_with (first | (go_at_call 26; (with_reducible refine (laws_eqIntS.calls kj12 _ _ tH _ _ tL false _ ?side1 ?side2 ?side3 ?side4 A42.out).mono ?_); (case side1 => repeat (first | exact (Kd.R_reads' HO_11.out).2.2 | (with_reducible refine Kd.C_alloc ?_ _) | (with_reducible refine Kd.C_drewN ?_ _) | (with_reducible refine Kd.C_drew ?_))); (case side2 => exact (Kd.R_reads' HO_11.out).2.1); (case side3 => repeat (first | exact (Kd.R_reads' HO_8.out).2.2 | (with_reducible refine Kd.C_alloc ?_ _) | (with_reducible refine Kd.C_drewN ?_ _) | (with_reducible refine Kd.C_drew ?_))); (case side4 => exact (Kd.R_reads' HO_8.out).2.1); rintro e w' ⟨rfl, ⟨nd, rfl⟩⟩))
         go_meet
         case rel => exact ⟨_, (true), zz250, H', ⟨by have := HJ12.out; first | omega | exact Nat.le_refl _⟩, ⟨by (with_reducible repeat (first | apply Kd.R_alloc | apply Kd.R_drewN | apply Kd.R_drew)); exact HO_8.out⟩, ⟨by (with_reducible repeat (first | apply Kd.R_alloc | apply Kd.R_drewN | apply Kd.R_drew)); exact HO_11.out⟩, ⟨by (with_reducible repeat (first | refine blk_drewN ?_ _ | refine blk_drew ?_ | refine blk_alloc ?_ _)); exact BKF.out⟩, ⟨by repeat (first | (with_reducible first | exact HB.out | apply below_alloc | apply pw_below_drewN | apply below_drew1 | refine below_set ?_ GEF.out) | exact HB.out)⟩⟩
      case rest =>
       clear HC36; try clear c1
       try clear c2
       try clear p2
       try clear c3
       try clear c4
       try clear c5
       try clear c5b0
       try clear c7
       try clear c8
       try clear c11
       try clear c15
       try clear c18
       try clear c24
       try clear c25
       try clear c26
       try clear c27
       try clear c31
       try clear c34
       try clear c41
       try clear c41b0
       try clear c43
       try clear hcz21_0
       try clear hcz21_1
       try clear hfz21_0
       try clear hfz21_1
       try clear p2
       obtain ⟨kq, x71_35, rfl, HA, HJ35, HO_8, HO_11, BKF, HB⟩ := hcut; cases kq with
       | zero => exact absurd HA.out (by simp [laws_FnExactCyclePattern.j1])
       | succ kj35 =>
        have H := HA.out; clear HA; simp only [laws_FnExactCyclePattern.j1] at H; by_cases c48 : x71_35 = true
        ·subst c48; have H1 : (some false) = some r := by rw [if_pos rfl] at H; exact H
         clear H; have H := H1; clear H1; obtain rfl := Option.some.inj H; go_wp2
         go_ret
         exact ⟨zz240, zz167⟩
        ·replace c48 := Bool.eq_false_iff.mpr c48; subst c48; have H1 : ((laws_markIntS.f kj35 tH 1).bind fun btAM => ((laws_heldIntS.f kj35 btAM.2 1).bind fun tAN => (if tAN < 0 then (some false) else (if tAN = btAM.1 then ((laws_toPointS.f kj35 l0).bind fun tAO => ((laws_toRat.f a1_0 a1_1).bind fun btAP => ((impl_CyclePattern.f kj35 tAO btAP.1 btAP.2 a2).bind fun btAQ => ((laws_eqIntS.f kj35 btAQ.1 tL).bind fun tAR => (if tAR = true then (laws_FnExactCyclePattern.j2 kj35 btAM.2 btAM.1 (btAQ.2 != tQ)) else (laws_FnExactCyclePattern.j2 kj35 btAM.2 btAM.1 true)))))) else (some false))))) = some r := by rw [if_neg (show ¬ (false = true) by decide)] at H; exact H
         clear H; have H := H1; clear H1; replace H := Option.bind_eq_some_iff.mp H; obtain ⟨⟨tAM, tG⟩, AAS, H⟩ := H; replace H : ((laws_heldIntS.f kj35 tG 1).bind fun tAN => (if tAN < 0 then (some false) else (if tAN = tAM then ((laws_toPointS.f kj35 l0).bind fun tAO => ((laws_toRat.f a1_0 a1_1).bind fun btAP => ((impl_CyclePattern.f kj35 tAO btAP.1 btAP.2 a2).bind fun btAQ => ((laws_eqIntS.f kj35 btAQ.1 tL).bind fun tAR => (if tAR = true then (laws_FnExactCyclePattern.j2 kj35 tG tAM (btAQ.2 != tQ)) else (laws_FnExactCyclePattern.j2 kj35 tG tAM true)))))) else (some false)))) = some r := H; have A49 := Aside0.mk AAS; clear AAS; replace H := Option.bind_eq_some_iff.mp H; obtain ⟨tAN, AAT, H⟩ := H; replace H : (if tAN < 0 then (some false) else (if tAN = tAM then ((laws_toPointS.f kj35 l0).bind fun tAO => ((laws_toRat.f a1_0 a1_1).bind fun btAP => ((impl_CyclePattern.f kj35 tAO btAP.1 btAP.2 a2).bind fun btAQ => ((laws_eqIntS.f kj35 btAQ.1 tL).bind fun tAR => (if tAR = true then (laws_FnExactCyclePattern.j2 kj35 tG tAM (btAQ.2 != tQ)) else (laws_FnExactCyclePattern.j2 kj35 tG tAM true)))))) else (some false))) = some r := H; have A50 := Aside0.mk AAT; clear AAT; by_cases c51 : tAN < 0
         ·rw [if_pos c51] at H; have c51b0 : decide (tAN < 0) = true := decide_eq_true c51; clear c51; obtain rfl := Option.some.inj H; obtain ⟨Ao52, co52, eo52⟩ := Kd.R_slice HO_11.out; subst eo52; go_wp2_with (first | ((with_reducible refine gate_callee (f := 28) rfl ?_); refine goesL_ (some 74) rfl rfl Try.func28 (by kernel_rfl) rfl #[.slice Ao52 tH.length co52, .int .i64 1] rfl zz170 ?_; (with_reducible refine (laws_markIntS.calls kj35 (fun k_ => some k_ = (.slice Ao52 tH.length co52 : Value).ownBlock) (.slice Ao52 tH.length co52) tH 1 tAM tG w _ ?side1 ?side2 A49.out).mono ?_); (case side1 => repeat (first | (with_reducible first | exact HB.out | apply below_alloc | apply pw_below_drewN | apply below_drew1 | refine below_set ?_ GEF.out) | exact HB.out)); (case side2 => exact Kd.R_tight rfl HO_11.out); rintro e w53 ⟨rfl, hy0, hb, hkp⟩; refine ⟨_, rfl, ?_⟩; replace HO_8 := Aside0.mk (Kd.R_mono (ok' := fun k_ => some k_ ≠ (.slice Ao52 tH.length co52 : Value).ownBlock) (Kd.R_keptB (HO_8.out) hkp (fun k_ hk_ hs_ => (hk_) hs_)) (fun k_ hk_ => hk_.1)); have n1_ := Aside0.mk (Kd.R_reok rfl hy0 (fun k_ e_ => HO_11.out.1 k_ e_)); replace BKF := Aside0.mk (blk_kept zz217 hkp (fun hs_ => (fun e_ => (Kd.R_ne HO_11.out BKF.out (by decide)) e_) hs_)); clear HO_11; have HO_11 := n1_; clear n1_; replace HB := Aside0.mk (hb); (try clear hb); (try clear hkp); (try clear hy0)) | ((with_reducible refine gate_callee (f := 29) rfl ?_); refine goesL_ (some 77) rfl rfl Try.func29 (by kernel_rfl) rfl #[.slice Ao52 tG.length co52, .int .i64 1] rfl zz70 ?_; (with_reducible refine (laws_heldIntS.calls kj35 _ _ tG 1 tAN _ ?side1 ?side2 A50.out).mono ?_); (case side1 => repeat (first | exact (Kd.R_reads' HO_11.out).2.2 | (with_reducible refine Kd.C_alloc ?_ _) | (with_reducible refine Kd.C_drewN ?_ _) | (with_reducible refine Kd.C_drew ?_))); (case side2 => rw [show tG.length = tH.length from (Kd.R_reads' HO_11.out).1.symm]; exact (Kd.R_reads' HO_11.out).2.1); rintro e w' ⟨rfl, ⟨nd, rfl⟩⟩; refine ⟨_, rfl, ?_⟩))
          go_ret
          exact ⟨zz240, zz167⟩
         ·rw [if_neg c51] at H; have c51b0 : decide (tAN < 0) = false := decide_eq_false c51; clear c51; by_cases c54 : tAN = tAM
          ·rw [if_pos c54] at H; have c54b0 : (tAN == tAM) = true := beq_iff_eq.mpr c54; have c54b1 : (tAN != tAM) = false := bne_eq_false_iff_eq.mpr c54; clear c54; replace H := Option.bind_eq_some_iff.mp H; obtain ⟨tAO, AAU, H⟩ := H; replace H : ((laws_toRat.f a1_0 a1_1).bind fun btAP => ((impl_CyclePattern.f kj35 tAO btAP.1 btAP.2 a2).bind fun btAQ => ((laws_eqIntS.f kj35 btAQ.1 tL).bind fun tAR => (if tAR = true then (laws_FnExactCyclePattern.j2 kj35 tG tAM (btAQ.2 != tQ)) else (laws_FnExactCyclePattern.j2 kj35 tG tAM true))))) = some r := H; have A55 := Aside0.mk AAU; clear AAU; replace H := Option.bind_eq_some_iff.mp H; obtain ⟨⟨tAP, tAV⟩, AAW, H⟩ := H; replace H : ((impl_CyclePattern.f kj35 tAO tAP tAV a2).bind fun btAQ => ((laws_eqIntS.f kj35 btAQ.1 tL).bind fun tAR => (if tAR = true then (laws_FnExactCyclePattern.j2 kj35 tG tAM (btAQ.2 != tQ)) else (laws_FnExactCyclePattern.j2 kj35 tG tAM true)))) = some r := H; have A56 := Aside0.mk AAW; clear AAW; replace H := Option.bind_eq_some_iff.mp H; obtain ⟨⟨tAQ, tAX⟩, AAY, H⟩ := H; replace H : ((laws_eqIntS.f kj35 tAQ tL).bind fun tAR => (if tAR = true then (laws_FnExactCyclePattern.j2 kj35 tG tAM (tAX != tQ)) else (laws_FnExactCyclePattern.j2 kj35 tG tAM true))) = some r := H; have A57 := Aside0.mk AAY; clear AAY; have HC58 := Aside0.mk H; clear H; obtain ⟨Ao59, co59, eo59⟩ := Kd.R_slice HO_11.out; subst eo59; try go_wp2_with (first | ((with_reducible refine gate_callee (f := 28) rfl ?_); refine goesL_ (some 74) rfl rfl Try.func28 (by kernel_rfl) rfl #[.slice Ao59 tH.length co59, .int .i64 1] rfl zz170 ?_; (with_reducible refine (laws_markIntS.calls kj35 (fun k_ => some k_ = (.slice Ao59 tH.length co59 : Value).ownBlock) (.slice Ao59 tH.length co59) tH 1 tAM tG w _ ?side1 ?side2 A49.out).mono ?_); (case side1 => repeat (first | (with_reducible first | exact HB.out | apply below_alloc | apply pw_below_drewN | apply below_drew1 | refine below_set ?_ GEF.out) | exact HB.out)); (case side2 => exact Kd.R_tight rfl HO_11.out); rintro e w60 ⟨rfl, hy0, hb, hkp⟩; refine ⟨_, rfl, ?_⟩; replace HO_8 := Aside0.mk (Kd.R_mono (ok' := fun k_ => some k_ ≠ (.slice Ao59 tH.length co59 : Value).ownBlock) (Kd.R_keptB (HO_8.out) hkp (fun k_ hk_ hs_ => (hk_) hs_)) (fun k_ hk_ => hk_.1)); have n1_ := Aside0.mk (Kd.R_reok rfl hy0 (fun k_ e_ => HO_11.out.1 k_ e_)); replace BKF := Aside0.mk (blk_kept zz217 hkp (fun hs_ => (fun e_ => (Kd.R_ne HO_11.out BKF.out (by decide)) e_) hs_)); clear HO_11; have HO_11 := n1_; clear n1_; replace HB := Aside0.mk (hb); (try clear hb); (try clear hkp); (try clear hy0)) | ((with_reducible refine gate_callee (f := 29) rfl ?_); refine goesL_ (some 77) rfl rfl Try.func29 (by kernel_rfl) rfl #[.slice Ao59 tG.length co59, .int .i64 1] rfl zz70 ?_; (with_reducible refine (laws_heldIntS.calls kj35 _ _ tG 1 tAN _ ?side1 ?side2 A50.out).mono ?_); (case side1 => repeat (first | exact (Kd.R_reads' HO_11.out).2.2 | (with_reducible refine Kd.C_alloc ?_ _) | (with_reducible refine Kd.C_drewN ?_ _) | (with_reducible refine Kd.C_drew ?_))); (case side2 => rw [show tG.length = tH.length from (Kd.R_reads' HO_11.out).1.symm]; exact (Kd.R_reads' HO_11.out).2.1); rintro e w' ⟨rfl, ⟨nd, rfl⟩⟩; refine ⟨_, rfl, ?_⟩))
           (try (rw [drewN_self w60]; generalize hq_ : World.drewN w60 _ = w60; have n0_ : Aside0 (Kd.R (Kd.int .i64) 3 w60 w.heap.size (fun k_ => some k_ ≠ (vX : Value).ownBlock) (.slice Ao59 tH.length co59) tG) := ⟨by rw [← hq_]; exact zz230⟩; have n1_ : Aside0 (Kd.R (Kd.int .i64) 3 w60 w.heap.size (fun k_ => some k_ ≠ (.slice Ao59 tH.length co59 : Value).ownBlock) vX tL) := ⟨by rw [← hq_]; exact zz236⟩; have n2_ : Aside0 (w60.heap[gbF]? = some (.cells #[.int .i64 a1_0, .int .i64 a1_1] 38 (0, 0))) := ⟨by rw [← hq_]; exact zz217⟩; have n3_ : Aside0 (Below w.heap.size w w60) := ⟨by rw [← hq_]; exact zz167⟩; clear HO_11 HO_8 BKF HB hq_; have HO_11 := n0_; have HO_8 := n1_; have BKF := n2_; have HB := n3_; clear n0_ n1_ n2_ n3_)); replace HO_8 := Aside0.mk (Kd.R_drew HO_8.out); replace HO_11 := Aside0.mk (Kd.R_drew HO_11.out); replace BKF := Aside0.mk (blk_drew BKF.out); replace HB := Aside0.mk (below_drew1 HB.out); refine start_ (n := 11) (S := fun w' => w'.cell? ⟨gbF, 0, none⟩ = some (.int .i64 a1_0) ∧ w'.cell? ⟨gbF, 1, none⟩ = some (.int .i64 a1_1)) (ds := []) (.replicate 11 fF) (by kernel_rfl) rfl rfl ⟨bcA BKF 0, bcA BKF 1⟩ (fun hHeld => ?_); refine with_tabW laws_FnExactCyclePattern.tab24 laws_FnExactCyclePattern.bits24 (fun HT_ HW_ => ?_); generalize w60.drew = w61 at HO_8 HO_11 BKF HB hHeld ⊢; refine pureA 0 (some 84) (bB 11 1) HT_ ?_; refine pureA 4 (some 88) (bB 11 17) HT_ ?_; refine takeA5 2 (some 86) (bB 11 21) HT_ HW_ hHeld ?_; refine one_ (i := 1) (N := some 85) (bB 11 23) rfl rfl (one_of HT_.out (by kernel_rfl)) (by decide) (fun K hK => ?_); refine goes_ Try.func11 (by kernel_rfl) rfl #[.slice A0 l0.length c0] (by rfl) rfl rfl zz170 ?_; with_reducible refine (laws_toPointS.calls kj35 _ _ l0 tAO _ ?side1 ?side2 A55.out).mono ?_
           (case side1 => repeat (first | exact (Kd.C_below HR0.out HB.out) | (with_reducible refine Kd.C_alloc ?_ _) | (with_reducible refine Kd.C_drewN ?_ _) | (with_reducible refine Kd.C_drew ?_))); (case side2 => exact HC0.out); rintro e w62 ⟨vAZ, rfl, ho0, hb⟩; refine ⟨_, rfl, ?_⟩; replace HO_8 := Aside0.mk (Kd.R_below zz236 hb); replace HO_11 := Aside0.mk (Kd.R_below zz230 hb); have HOA := Aside0.mk (Kd.R_lower ho0 (below_size zz167)); replace BKF := blkA BKF hb; replace HB := Aside0.mk (below_step zz167 hb); (try clear hb); (try clear ho0); refine hK.out _ _ ⟨bcA BKF 0, bcA BKF 1⟩ (fun hHeld => ?_); clear hK K; refine normA (some 85) ?_; refine one_ (i := 3) (N := some 87) (bB 11 31) rfl rfl (one_of HT_.out (by kernel_rfl)) (by decide) (fun K hK => ?_); refine goes_ Try.func18 (by kernel_rfl) rfl #[.agg #[.int .i64 a1_0, .int .i64 a1_1]] (by rfl) rfl rfl zz170 ?_; with_reducible refine (laws_toRat.calls a1_0 a1_1 tAP tAV _ A56.out).mono ?_
           rintro e w63 ⟨rfl, hb⟩; refine ⟨_, rfl, ?_⟩; replace HO_8 := Aside0.mk (Kd.R_below zz236 hb); replace HO_11 := Aside0.mk (Kd.R_below zz230 hb); replace HOA := Aside0.mk (Kd.R_below zz232 hb); replace BKF := blkA BKF hb; replace HB := Aside0.mk (below_step zz167 hb); (try clear hb); obtain ⟨Ao64, co64, eo64⟩ := Kd.R_slice HOA.out; (first | subst eo64 | (injection eo64 with f1_ f2_ f3_; have f4_ := f1_.symm; have f5_ := f3_.symm; clear f1_ f2_ f3_; subst f4_; subst f5_))
           refine hK.out _ _ ⟨bcA BKF 0, bcA BKF 1⟩ (fun hHeld => ?_); clear hK K; refine normA (some 87) ?_; refine one_ (i := 5) (N := some 89) (bB 11 63) rfl rfl (one_of HT_.out (by kernel_rfl)) (by decide) (fun K hK => ?_); refine goes_ Try.func25 (by kernel_rfl) rfl #[.slice Ao64 tAO.length co64, .agg #[.int .i64 tAP, .int .i64 tAV], .int .i64 a2] (by rfl) rfl rfl zz170 ?_; with_reducible refine (impl_CyclePattern.calls kj35 _ _ tAO tAP tAV a2 tAQ tAX _ ?side1 ?side2 A57.out).mono ?_
           (case side1 => repeat (first | exact (Kd.R_reads' HOA.out).2.2 | (with_reducible refine Kd.C_alloc ?_ _) | (with_reducible refine Kd.C_drewN ?_ _) | (with_reducible refine Kd.C_drew ?_))); (case side2 => exact (Kd.R_reads' HOA.out).2.1); rintro e w65 ⟨vBA, rfl, ho0, hb⟩; refine ⟨_, rfl, ?_⟩; have n0_ := Aside0.mk (Kd.R_elder' zz236 (Kd.R_base ho0) hb); have n1_ := Aside0.mk (Kd.R_elder' zz230 (Kd.R_base ho0) hb); replace HOA := Aside0.mk (Kd.R_below zz232 hb); have HOBB := Aside0.mk (Kd.R_lower (Kd.R_new' (Kd.R_new' ho0 (Kd.R_lt zz236)) (Kd.R_lt zz230)) (below_size zz167)); clear HO_8 HO_11; have HO_8 := n0_; have HO_11 := n1_; clear n0_ n1_; replace BKF := blkA BKF hb; replace HB := Aside0.mk (below_step zz167 hb); (try clear hb); (try clear ho0); refine hK.out _ _ ⟨bcA BKF 0, bcA BKF 1⟩ (fun hHeld => ?_); clear hK K; refine normA (some 89) ?_; refine pureA 6 (some 83) (bB 11 127) HT_ ?_; refine pureA 7 (some 90) (bB 11 255) HT_ ?_; refine pureA 8 (some 91) (bB 11 511) HT_ ?_; refine pureA 9 (some 16) (bB 11 1023) HT_ ?_; refine pureA 10 (some 17) (bB 11 2047) HT_ ?_; refine done_ (done_of HT_.out (by kernel_rfl)) ?_; go_upto_region 25 with (fail)
           go_cut [100] (fun vR wc => ∃ (kq : Nat) (xR_57 : Bool), vR = .bool xR_57 ∧ Aside0 (laws_FnExactCyclePattern.j2 kq tG tAM xR_57 = some r) ∧ Aside0 (kq ≤ kj35) ∧ Aside0 (Kd.R (Kd.int .i64) 3 wc w.heap.size (fun _ => True) (.slice Ao59 tH.length co59) tG) ∧ Aside0 (wc.heap[gbF]? = some (.cells #[.int .i64 a1_0, .int .i64 a1_1] 38 (0, 0))) ∧ Aside0 (Below w.heap.size w wc))
           case first =>
            have H := HC58.out; clear HC58; replace H := Option.bind_eq_some_iff.mp H; obtain ⟨tAR, ABC, H⟩ := H; replace H : (if tAR = true then (laws_FnExactCyclePattern.j2 kj35 tG tAM (tAX != tQ)) else (laws_FnExactCyclePattern.j2 kj35 tG tAM true)) = some r := H; have A66 := Aside0.mk ABC; clear ABC; by_cases c67 : tAR = true
            ·subst c67; have H1 : (laws_FnExactCyclePattern.j2 kj35 tG tAM (tAX != tQ)) = some r := by rw [if_pos rfl] at H; exact H
             clear H; have H := H1; clear H1; have H' := Aside0.mk H; clear H; obtain ⟨Ao68, co68, eo68⟩ := Kd.R_slice HOBB.out; subst eo68; obtain ⟨Ao69, co69, eo69⟩ := Kd.R_slice HO_8.out; subst eo69; go_wp2_with (first | ((with_reducible refine gate_callee (f := 26) rfl ?_); refine goesL_ (some 94) rfl rfl Try.func26 (by kernel_rfl) rfl #[.slice Ao68 tAQ.length co68, .slice Ao69 tL.length co69] rfl zz170 ?_; (with_reducible refine (laws_eqIntS.calls kj35 _ _ tAQ _ _ tL true _ ?side1 ?side2 ?side3 ?side4 A66.out).mono ?_); (case side1 => repeat (first | exact (Kd.R_reads' HOBB.out).2.2 | (with_reducible refine Kd.C_alloc ?_ _) | (with_reducible refine Kd.C_drewN ?_ _) | (with_reducible refine Kd.C_drew ?_))); (case side2 => exact (Kd.R_reads' HOBB.out).2.1); (case side3 => repeat (first | exact (Kd.R_reads' HO_8.out).2.2 | (with_reducible refine Kd.C_alloc ?_ _) | (with_reducible refine Kd.C_drewN ?_ _) | (with_reducible refine Kd.C_drew ?_))); (case side4 => exact (Kd.R_reads' HO_8.out).2.1); rintro e w' ⟨rfl, ⟨nd, rfl⟩⟩; refine ⟨_, rfl, ?_⟩))
             go_meet
             case rel => exact ⟨_, ((tAX != tQ)), zz250, H', ⟨by have := HJ12.out; have := HJ35.out; first | omega | exact Nat.le_refl _⟩, ⟨by (with_reducible repeat (first | apply Kd.R_alloc | apply Kd.R_drewN | apply Kd.R_drew)); exact Kd.R_mono HO_11.out (fun _ hk => trivial)⟩, ⟨by (with_reducible repeat (first | refine blk_drewN ?_ _ | refine blk_drew ?_ | refine blk_alloc ?_ _)); exact BKF.out⟩, ⟨by repeat (first | (with_reducible first | exact HB.out | apply below_alloc | apply pw_below_drewN | apply below_drew1 | refine below_set ?_ GEF.out) | exact HB.out)⟩⟩
            ·replace c67 := Bool.eq_false_iff.mpr c67; subst c67; have H1 : (laws_FnExactCyclePattern.j2 kj35 tG tAM true) = some r := by rw [if_neg (show ¬ (false = true) by decide)] at H; exact H
             clear H; have H := H1; clear H1; have H' := Aside0.mk H; clear H; obtain ⟨Ao70, co70, eo70⟩ := Kd.R_slice HOBB.out; subst eo70; obtain ⟨Ao71, co71, eo71⟩ := Kd.R_slice HO_8.out; subst eo71; go_wp2_with (first | ((with_reducible refine gate_callee (f := 26) rfl ?_); refine goesL_ (some 94) rfl rfl Try.func26 (by kernel_rfl) rfl #[.slice Ao70 tAQ.length co70, .slice Ao71 tL.length co71] rfl zz170 ?_; (with_reducible refine (laws_eqIntS.calls kj35 _ _ tAQ _ _ tL false _ ?side1 ?side2 ?side3 ?side4 A66.out).mono ?_); (case side1 => repeat (first | exact (Kd.R_reads' HOBB.out).2.2 | (with_reducible refine Kd.C_alloc ?_ _) | (with_reducible refine Kd.C_drewN ?_ _) | (with_reducible refine Kd.C_drew ?_))); (case side2 => exact (Kd.R_reads' HOBB.out).2.1); (case side3 => repeat (first | exact (Kd.R_reads' HO_8.out).2.2 | (with_reducible refine Kd.C_alloc ?_ _) | (with_reducible refine Kd.C_drewN ?_ _) | (with_reducible refine Kd.C_drew ?_))); (case side4 => exact (Kd.R_reads' HO_8.out).2.1); rintro e w' ⟨rfl, ⟨nd, rfl⟩⟩; refine ⟨_, rfl, ?_⟩))
             go_meet
             case rel => exact ⟨_, (true), zz250, H', ⟨by have := HJ12.out; have := HJ35.out; first | omega | exact Nat.le_refl _⟩, ⟨by (with_reducible repeat (first | apply Kd.R_alloc | apply Kd.R_drewN | apply Kd.R_drew)); exact Kd.R_mono HO_11.out (fun _ hk => trivial)⟩, ⟨by (with_reducible repeat (first | refine blk_drewN ?_ _ | refine blk_drew ?_ | refine blk_alloc ?_ _)); exact BKF.out⟩, ⟨by repeat (first | (with_reducible first | exact HB.out | apply below_alloc | apply pw_below_drewN | apply below_drew1 | refine below_set ?_ GEF.out) | exact HB.out)⟩⟩
           case rest =>
            clear HC58; try clear c1
            try clear c2
            try clear p2
            try clear c3
            try clear c4
            try clear c5
            try clear c5b0
            try clear c6
            try clear c7
            try clear c8
            try clear c11
            try clear c15
            try clear c18
            try clear c24
            try clear c25
            try clear c26
            try clear c27
            try clear c28
            try clear c29
            try clear c31
            try clear c34
            try clear c41
            try clear c41b0
            try clear c43
            try clear c48
            try clear c51
            try clear c51b0
            try clear c54
            try clear c54b0
            try clear c54b1
            try clear c67
            try clear hcz21_0
            try clear hcz21_1
            try clear hfz21_0
            try clear hfz21_1
            try clear p2
            obtain ⟨kq, xR_57, rfl, HA, HJ57, HO_11, BKF, HB⟩ := hcut; have hl11_57 := (Kd.R_reads' HO_11.out).1; rw [hl11_57] at HO_11; (try simp only [hl11_57]); (try simp only [hl11_57] at BKF); cases kq with
            | zero => exact absurd HA.out (by simp [laws_FnExactCyclePattern.j2])
            | succ kj57 =>
             have H := HA.out; clear HA; simp only [laws_FnExactCyclePattern.j2] at H; by_cases c72 : xR_57 = true
             ·subst c72; have H1 : (some false) = some r := by rw [if_pos rfl] at H; exact H
              clear H; have H := H1; clear H1; obtain rfl := Option.some.inj H; go_wp2
              go_ret
              exact ⟨zz240, zz167⟩
             ·replace c72 := Bool.eq_false_iff.mpr c72; subst c72; have H1 : ((laws_heldIntS.f kj57 tG 1).bind fun tBD => (if tBD < 0 then (some false) else (if tBD = tAM then (some true) else (some false)))) = some r := by rw [if_neg (show ¬ (false = true) by decide)] at H; exact H
              clear H; have H := H1; clear H1; replace H := Option.bind_eq_some_iff.mp H; obtain ⟨tBD, ABE, H⟩ := H; replace H : (if tBD < 0 then (some false) else (if tBD = tAM then (some true) else (some false))) = some r := H; have A73 := Aside0.mk ABE; clear ABE; by_cases c74 : tBD < 0
              ·rw [if_pos c74] at H; have c74b0 : decide (tBD < 0) = true := decide_eq_true c74; clear c74; obtain rfl := Option.some.inj H; go_wp2_with (first | ((with_reducible refine gate_callee (f := 29) rfl ?_); refine goesL_ (some 103) rfl rfl Try.func29 (by kernel_rfl) rfl #[.slice Ao59 tG.length co59, .int .i64 1] rfl zz170 ?_; (with_reducible refine (laws_heldIntS.calls kj57 _ _ tG 1 tBD _ ?side1 ?side2 A73.out).mono ?_); (case side1 => repeat (first | exact (Kd.R_reads' HO_11.out).2.2 | (with_reducible refine Kd.C_alloc ?_ _) | (with_reducible refine Kd.C_drewN ?_ _) | (with_reducible refine Kd.C_drew ?_))); (case side2 => exact (Kd.R_reads' HO_11.out).2.1); rintro e w' ⟨rfl, ⟨nd, rfl⟩⟩; refine ⟨_, rfl, ?_⟩))
               go_ret
               exact ⟨zz240, zz167⟩
              ·rw [if_neg c74] at H; have c74b0 : decide (tBD < 0) = false := decide_eq_false c74; clear c74; by_cases c75 : tBD = tAM
               ·rw [if_pos c75] at H; have c75b0 : (tBD == tAM) = true := beq_iff_eq.mpr c75; have c75b1 : (tBD != tAM) = false := bne_eq_false_iff_eq.mpr c75; clear c75; obtain rfl := Option.some.inj H; go_wp2_with (first | ((with_reducible refine gate_callee (f := 29) rfl ?_); refine goesL_ (some 103) rfl rfl Try.func29 (by kernel_rfl) rfl #[.slice Ao59 tG.length co59, .int .i64 1] rfl zz170 ?_; (with_reducible refine (laws_heldIntS.calls kj57 _ _ tG 1 tBD _ ?side1 ?side2 A73.out).mono ?_); (case side1 => repeat (first | exact (Kd.R_reads' HO_11.out).2.2 | (with_reducible refine Kd.C_alloc ?_ _) | (with_reducible refine Kd.C_drewN ?_ _) | (with_reducible refine Kd.C_drew ?_))); (case side2 => exact (Kd.R_reads' HO_11.out).2.1); rintro e w' ⟨rfl, ⟨nd, rfl⟩⟩; refine ⟨_, rfl, ?_⟩))
                go_ret
                exact ⟨zz240, zz167⟩
               ·rw [if_neg c75] at H; have c75b0 : (tBD == tAM) = false := beq_eq_false_iff_ne.mpr c75; have c75b1 : (tBD != tAM) = true := bne_iff_ne.mpr c75; obtain rfl := Option.some.inj H; go_wp2_with (first | ((with_reducible refine gate_callee (f := 29) rfl ?_); refine goesL_ (some 103) rfl rfl Try.func29 (by kernel_rfl) rfl #[.slice Ao59 tG.length co59, .int .i64 1] rfl zz170 ?_; (with_reducible refine (laws_heldIntS.calls kj57 _ _ tG 1 tBD _ ?side1 ?side2 A73.out).mono ?_); (case side1 => repeat (first | exact (Kd.R_reads' HO_11.out).2.2 | (with_reducible refine Kd.C_alloc ?_ _) | (with_reducible refine Kd.C_drewN ?_ _) | (with_reducible refine Kd.C_drew ?_))); (case side2 => exact (Kd.R_reads' HO_11.out).2.1); rintro e w' ⟨rfl, ⟨nd, rfl⟩⟩; refine ⟨_, rfl, ?_⟩))
                go_ret
                exact ⟨zz240, zz167⟩
          ·rw [if_neg c54] at H; have c54b0 : (tAN == tAM) = false := beq_eq_false_iff_ne.mpr c54; have c54b1 : (tAN != tAM) = true := bne_iff_ne.mpr c54; obtain rfl := Option.some.inj H; obtain ⟨Ao76, co76, eo76⟩ := Kd.R_slice HO_11.out; subst eo76; go_wp2_with (first | ((with_reducible refine gate_callee (f := 28) rfl ?_); refine goesL_ (some 74) rfl rfl Try.func28 (by kernel_rfl) rfl #[.slice Ao76 tH.length co76, .int .i64 1] rfl zz170 ?_; (with_reducible refine (laws_markIntS.calls kj35 (fun k_ => some k_ = (.slice Ao76 tH.length co76 : Value).ownBlock) (.slice Ao76 tH.length co76) tH 1 tAM tG w _ ?side1 ?side2 A49.out).mono ?_); (case side1 => repeat (first | (with_reducible first | exact HB.out | apply below_alloc | apply pw_below_drewN | apply below_drew1 | refine below_set ?_ GEF.out) | exact HB.out)); (case side2 => exact Kd.R_tight rfl HO_11.out); rintro e w77 ⟨rfl, hy0, hb, hkp⟩; refine ⟨_, rfl, ?_⟩; replace HO_8 := Aside0.mk (Kd.R_mono (ok' := fun k_ => some k_ ≠ (.slice Ao76 tH.length co76 : Value).ownBlock) (Kd.R_keptB (HO_8.out) hkp (fun k_ hk_ hs_ => (hk_) hs_)) (fun k_ hk_ => hk_.1)); have n1_ := Aside0.mk (Kd.R_reok rfl hy0 (fun k_ e_ => HO_11.out.1 k_ e_)); replace BKF := Aside0.mk (blk_kept zz217 hkp (fun hs_ => (fun e_ => (Kd.R_ne HO_11.out BKF.out (by decide)) e_) hs_)); clear HO_11; have HO_11 := n1_; clear n1_; replace HB := Aside0.mk (hb); (try clear hb); (try clear hkp); (try clear hy0)) | ((with_reducible refine gate_callee (f := 29) rfl ?_); refine goesL_ (some 77) rfl rfl Try.func29 (by kernel_rfl) rfl #[.slice Ao76 tG.length co76, .int .i64 1] rfl zz70 ?_; (with_reducible refine (laws_heldIntS.calls kj35 _ _ tG 1 tAN _ ?side1 ?side2 A50.out).mono ?_); (case side1 => repeat (first | exact (Kd.R_reads' HO_11.out).2.2 | (with_reducible refine Kd.C_alloc ?_ _) | (with_reducible refine Kd.C_drewN ?_ _) | (with_reducible refine Kd.C_drew ?_))); (case side2 => rw [show tG.length = tH.length from (Kd.R_reads' HO_11.out).1.symm]; exact (Kd.R_reads' HO_11.out).2.1); rintro e w' ⟨rfl, ⟨nd, rfl⟩⟩; refine ⟨_, rfl, ?_⟩))
           go_ret
           exact ⟨zz240, zz167⟩
     ·replace c34 := Bool.eq_false_iff.mpr c34; subst c34; have H1 : (some false) = some r := by rw [if_neg (show ¬ (false = true) by decide)] at H; exact H
      clear H; have H := H1; clear H1; obtain rfl := Option.some.inj H; go_wp2_with (first | ((with_reducible refine gate_callee (f := 11) rfl ?_); refine goesL_ (some 53) rfl rfl Try.func11 (by kernel_rfl) rfl #[.slice A0 l0.length c0] rfl zz170 ?_; (with_reducible refine (laws_toPointS.calls kj12 _ _ l0 tAC _ ?side1 ?side2 A32.out).mono ?_); (case side1 => repeat (first | exact (Kd.C_below HR0.out HB.out) | (with_reducible refine Kd.C_alloc ?_ _) | (with_reducible refine Kd.C_drewN ?_ _) | (with_reducible refine Kd.C_drew ?_))); (case side2 => exact HC0.out); rintro e w78 ⟨vAK, rfl, ho0, hb⟩; refine ⟨_, rfl, ?_⟩; replace HO_8 := Aside0.mk (Kd.R_below zz236 hb); have n1_ := Aside0.mk (Kd.R_elder' zz222 (Kd.R_base ho0) hb); replace HO_11 := Aside0.mk (Kd.R_below zz230 hb); have HOB := Aside0.mk (Kd.R_lower (Kd.R_new' ho0 (Kd.R_lt zz222)) (below_size zz167)); clear HO_10; have HO_10 := n1_; clear n1_; replace BKF := blkA BKF hb; replace HB := Aside0.mk (below_step zz167 hb); (try clear hb); (try clear ho0); obtain ⟨Ao79, co79, eo79⟩ := Kd.R_slice HOB.out; subst eo79) | ((with_reducible refine gate_callee (f := 15) rfl ?_); refine goesL_ (some 54) rfl rfl Try.func15 (by kernel_rfl) rfl #[.slice Ao23 tM.length co23, .slice Ao79 tAC.length co79] rfl zz170 ?_; (with_reducible refine (laws_eqPointS.calls kj12 _ _ tM _ _ tAC false _ ?side1 ?side2 ?side3 ?side4 A33.out).mono ?_); (case side1 => repeat (first | exact (Kd.R_reads' HO_10.out).2.2 | (with_reducible refine Kd.C_alloc ?_ _) | (with_reducible refine Kd.C_drewN ?_ _) | (with_reducible refine Kd.C_drew ?_))); (case side2 => exact (Kd.R_reads' HO_10.out).2.1); (case side3 => repeat (first | exact (Kd.R_reads' HOB.out).2.2 | (with_reducible refine Kd.C_alloc ?_ _) | (with_reducible refine Kd.C_drewN ?_ _) | (with_reducible refine Kd.C_drew ?_))); (case side4 => exact (Kd.R_reads' HOB.out).2.1); rintro e w80 ⟨rfl, hb⟩; refine ⟨_, rfl, ?_⟩; replace HO_8 := Aside0.mk (Kd.R_below zz236 hb); replace HO_10 := Aside0.mk (Kd.R_below zz222 hb); replace HO_11 := Aside0.mk (Kd.R_below zz230 hb); replace HOB := Aside0.mk (Kd.R_below zz231 hb); replace BKF := blkA BKF hb; replace HB := Aside0.mk (below_step zz167 hb); (try clear hb)))
      go_ret
      exact ⟨zz240, zz167⟩
def laws_FnExactCyclePattern.Pure : Prop := ∀ (l0 : List (S60)) (a1_0 : Int) (a1_1 : Int) (a2 : Int), l0.length ≤ maxLen → (∀ x ∈ l0, (((Lit.int .i64 x.f0.f0).wf = true ∧ (Lit.int .i64 x.f0.f1).wf = true) ∧ ((Lit.int .i64 x.f1.f0).wf = true ∧ (Lit.int .i64 x.f1.f1).wf = true))) → (Lit.int .i64 a1_0).wf = true → (Lit.int .i64 a1_1).wf = true → (Lit.int .i64 a2).wf = true → ∃ k, laws_FnExactCyclePattern.f k l0 a1_0 a1_1 a2 = some true
end Go.Proofs.Ytlggehdfigkliaa.Q
set_option linter.unusedVariables false
set_option linter.unusedSimpArgs false
namespace Go.Proofs.Ytlggehdfigkliaa.Pu
open Go.RowKit Go.Proofs.Ytlggehdfigkliaa.Q Go.Proofs.YtlggehdfigkliaaW.PrintWords Go.Proofs.YtlggehdfigkliaaW.PrintLast Go.Proofs.YtlggehdfigkliaaW.PrintMore
theorem wr (x : Int) (h : -9223372036854775808 ≤ x ∧ x ≤ 9223372036854775807) : wrap64 x = x := by unfold wrap64; omega
theorem drop_getD {α : Type} (l : List α) (i : Nat) (d : α) (h : i < l.length) : l.drop i = l.getD i d :: l.drop (i + 1) := by
  rw [List.drop_eq_getElem_cons h, List.getD_eq_getElem?_getD, List.getElem?_eq_getElem h]
  rfl
theorem getD_setG {α : Type} (l : List α) (i j : Nat) (v d : α) (hi : i < l.length) : (l.set i v).getD j d = if i = j then v else l.getD j d := by
  simp only [List.getD_eq_getElem?_getD, List.getElem?_set]
  by_cases e : i = j
  · subst e; simp [hi]
  · simp [e]
theorem ext_getDG {α : Type} (d : α) (a b : List α) (hl : a.length = b.length) (h : ∀ j, j < a.length → a.getD j d = b.getD j d) : a = b := by
  apply List.ext_getElem hl
  intro j h1 h2
  have := h j h1
  simpa [List.getD_eq_getElem?_getD, h1, h2] using this
theorem half_lt (b r n : Nat) (hb : b < 2 ^ (n + 1)) (hr : r < b) (h0 : 0 < r) : b % r < 2 ^ n := by
  have h1 : b % r < r := Nat.mod_lt _ h0
  have h2 := Nat.div_add_mod b r
  have h3 : 1 ≤ b / r := (Nat.one_le_div_iff h0).2 (Nat.le_of_lt hr)
  have h4 : r * 1 ≤ r * (b / r) := Nat.mul_le_mul_left r h3
  have h5 : 2 ^ (n + 1) = 2 * 2 ^ n := by rw [Nat.pow_succ]; omega
  omega
theorem gcd_l : ∀ (n k a b : Nat), b < 2 ^ n → 2 * n + 1 < k → impl_greatestDivisor.l0 k (a : Int) (b : Int) = some ((Nat.gcd a b : Nat) : Int) := by
  intro n
  induction n with
  | zero =>
    intro k a b hb hk
    obtain ⟨k, rfl⟩ : ∃ m, k = m + 1 := ⟨k - 1, by omega⟩
    have : b = 0 := by simpa using hb
    subst this
    simp [impl_greatestDivisor.l0]
  | succ n ih =>
    intro k a b hb hk
    obtain ⟨k, rfl⟩ : ∃ m, k = m + 2 := ⟨k - 2, by omega⟩
    simp only [impl_greatestDivisor.l0]
    by_cases h0 : b = 0
    · subst h0; simp
    · rw [if_neg (by omega), ← Int.ofNat_tmod]
      by_cases h1 : a % b = 0
      · rw [h1, if_pos (by rfl), Nat.gcd_comm, Nat.gcd_rec, h1, Nat.gcd_zero_left]
      · rw [if_neg (by omega), ← Int.ofNat_tmod, ih k _ _ (half_lt b (a % b) n hb (Nat.mod_lt _ (by omega)) (by omega)) (by omega)]
        congr 2
        rw [Nat.gcd_comm a b, Nat.gcd_rec b a, Nat.gcd_rec (a % b) b, Nat.gcd_comm]
theorem raCommon_l : ∀ (n k a b : Nat), b < 2 ^ n → 2 * n + 1 < k → spec_raCommon.l0 k (a : Int) (b : Int) = some ((Nat.gcd a b : Nat) : Int) := by
  intro n
  induction n with
  | zero =>
    intro k a b hb hk
    obtain ⟨k, rfl⟩ : ∃ m, k = m + 1 := ⟨k - 1, by omega⟩
    have : b = 0 := by simpa using hb
    subst this
    simp [spec_raCommon.l0]
  | succ n ih =>
    intro k a b hb hk
    obtain ⟨k, rfl⟩ : ∃ m, k = m + 2 := ⟨k - 2, by omega⟩
    simp only [spec_raCommon.l0]
    by_cases h0 : b = 0
    · subst h0; simp
    · rw [if_pos (by omega), if_neg (by omega), ← Int.ofNat_tmod]
      by_cases h1 : a % b = 0
      · rw [h1, if_neg (by simp), Nat.gcd_comm, Nat.gcd_rec, h1, Nat.gcd_zero_left]
      · rw [if_pos (by omega), if_neg (by omega), ← Int.ofNat_tmod, ih k _ _ (half_lt b (a % b) n hb (Nat.mod_lt _ (by omega)) (by omega)) (by omega)]
        congr 2
        rw [Nat.gcd_comm a b, Nat.gcd_rec b a, Nat.gcd_rec (a % b) b, Nat.gcd_comm]
theorem abs_eq (a : Int) (h : -9223372036854775807 ≤ a ∧ a ≤ 9223372036854775807) : impl_abs.f a = some (a.natAbs : Int) := by
  unfold impl_abs.f
  split
  · rw [wr _ (by omega)]; congr 1; omega
  · congr 1; omega
theorem l1Abs_eq (a : Int) (h : -9223372036854775807 ≤ a ∧ a ≤ 9223372036854775807) : spec_l1Abs.f a = some (a.natAbs : Int) := by
  unfold spec_l1Abs.f spec_l1Most.f
  rw [wr _ (by omega)]
  split
  · simp only [Option.bind_some]; congr 1; omega
  · simp only [Option.bind_some]; congr 1; omega
theorem gcd_eq (a b : Int) (ha : -9223372036854775807 ≤ a ∧ a ≤ 9223372036854775807) (hb : -9223372036854775807 ≤ b ∧ b ≤ 9223372036854775807) (k : Nat) (hk : 200 ≤ k) : impl_greatestDivisor.f k a b = some ((Int.gcd a b : Nat) : Int) := by
  unfold impl_greatestDivisor.f
  rw [abs_eq a ha, abs_eq b hb]
  simp only [Option.bind_some]
  rw [gcd_l 64 k _ _ (by omega) (by omega)]
  rfl
def OkR (n d : Int) : Prop := 1 ≤ d ∧ d ≤ 1000000000 ∧ -1000000000 ≤ n ∧ n ≤ 1000000000 ∧ Int.gcd n d = 1
instance (n d : Int) : Decidable (OkR n d) := by unfold OkR; infer_instance
theorem isRat_eq (n d : Int) (k : Nat) (hk : 200 ≤ k) : impl_isRat.f k n d = some (decide (OkR n d)) := by
  unfold impl_isRat.f impl_within.f OkR
  by_cases h1 : 1 ≤ d
  · rw [if_pos h1]
    simp only [Option.bind_some]
    by_cases h2 : d ≤ 1000000000
    · rw [if_pos (by simpa using h2)]
      by_cases h3 : -1000000000 ≤ n
      · rw [if_pos h3]
        simp only [Option.bind_some]
        by_cases h4 : n ≤ 1000000000
        · rw [if_pos (by simpa using h4), gcd_eq n d (by omega) (by omega) k hk]
          simp only [Option.bind_some]
          congr 1
          simp only [h1, h2, h3, h4, true_and]
          rw [Bool.eq_iff_iff]
          simp only [beq_iff_eq, decide_eq_true_eq]
          omega
        · rw [if_neg (by simpa using h4)]; simp [h4]
      · rw [if_neg h3]; simp [h3]
    · rw [if_neg (by simpa using h2)]; simp [h2]
  · rw [if_neg h1]; simp [h1]
theorem raGood_eq (n d : Int) (k : Nat) (hk : 200 ≤ k) : spec_raGood.f k n d = some (decide (OkR n d)) := by
  unfold spec_raGood.f spec_l1In.f OkR
  by_cases h1 : 1 ≤ d
  · rw [if_pos h1]
    simp only [Option.bind_some]
    by_cases h2 : d ≤ 1000000000
    · rw [if_pos (by simpa using h2)]
      by_cases h3 : -1000000000 ≤ n
      · rw [if_pos h3]
        simp only [Option.bind_some]
        by_cases h4 : n ≤ 1000000000
        · rw [if_pos (by simpa using h4), l1Abs_eq n (by omega)]
          simp only [Option.bind_some]
          unfold spec_raCommon.f
          have := raCommon_l 64 k n.natAbs d.natAbs (by omega) (by omega)
          rw [show (d.natAbs : Int) = d by omega] at this
          rw [this]
          simp only [Option.bind_some]
          congr 1
          simp only [h1, h2, h3, h4, true_and]
          rw [Bool.eq_iff_iff, Int.gcd_eq_natAbs_gcd_natAbs]
          simp only [beq_iff_eq, decide_eq_true_eq]
          omega
        · rw [if_neg (by simpa using h4)]; simp [h4]
      · rw [if_neg h3]; simp [h3]
    · rw [if_neg (by simpa using h2)]; simp [h2]
  · rw [if_neg h1]; simp [h1]
def sg (n d : Int) : Int := if d < 0 then -(Int.gcd n d : Int) else (Int.gcd n d : Int)
def mk (n d : Int) : Int × Int × Bool := if OkR (n.tdiv (sg n d)) (d.tdiv (sg n d)) then (n.tdiv (sg n d), d.tdiv (sg n d), true) else (0, 0, false)
theorem tdiv_bd (n q : Int) (h : -9223372036854775807 ≤ n ∧ n ≤ 9223372036854775807) : -9223372036854775808 ≤ n.tdiv q ∧ n.tdiv q ≤ 9223372036854775807 := by
  have h1 := Int.natAbs_tdiv n q
  have h2 : n.natAbs.div q.natAbs ≤ n.natAbs := Nat.div_le_self _ _
  omega
theorem gcd_pos (n d : Int) (hd : d ≠ 0) : 0 < Int.gcd n d := by
  rw [Int.gcd_eq_natAbs_gcd_natAbs]
  exact Nat.gcd_pos_of_pos_right _ (by omega)
theorem gcd_le (n d : Int) (hd : d ≠ 0) : Int.gcd n d ≤ d.natAbs := by
  rw [Int.gcd_eq_natAbs_gcd_natAbs]
  exact Nat.gcd_le_right _ (by omega)
theorem lowest_eq (n d : Int) (hd : d ≠ 0) (hn : -9223372036854775807 ≤ n ∧ n ≤ 9223372036854775807) (hd2 : -9223372036854775807 ≤ d ∧ d ≤ 9223372036854775807) (k : Nat) (hk : 200 ≤ k) : impl_lowest.f k n d = some (mk n d) := by
  unfold impl_lowest.f mk
  have h1 := gcd_pos n d hd
  have h2 := gcd_le n d hd
  rw [gcd_eq n d hn hd2 k hk]
  simp only [Option.bind_some]
  unfold sg
  split
  · rw [wr (-(Int.gcd n d : Int)) (by omega), if_neg (by omega), wr _ (tdiv_bd _ _ hn), wr _ (tdiv_bd _ _ hd2), isRat_eq _ _ k hk]
    simp only [Option.bind_some, decide_eq_true_eq]
    split <;> rfl
  · rw [if_neg (by omega), wr _ (tdiv_bd _ _ hn), wr _ (tdiv_bd _ _ hd2), isRat_eq _ _ k hk]
    simp only [Option.bind_some, decide_eq_true_eq]
    split <;> rfl
theorem raMake_eq (n d : Int) (hd : d ≠ 0) (hn : -9223372036854775807 ≤ n ∧ n ≤ 9223372036854775807) (hd2 : -9223372036854775807 ≤ d ∧ d ≤ 9223372036854775807) (k : Nat) (hk : 200 ≤ k) : spec_raMake.f k n d = some (mk n d) := by
  unfold spec_raMake.f mk
  have h1 := gcd_pos n d hd
  have h2 := gcd_le n d hd
  rw [if_neg hd, l1Abs_eq n hn, l1Abs_eq d hd2]
  simp only [Option.bind_some]
  unfold spec_raCommon.f
  rw [raCommon_l 64 k _ _ (by omega) (by omega)]
  simp only [Option.bind_some]
  rw [← Int.gcd_eq_natAbs_gcd_natAbs]
  unfold sg
  split
  · rw [wr (-(Int.gcd n d : Int)) (by omega), if_neg (by omega), wr _ (tdiv_bd _ _ hn), wr _ (tdiv_bd _ _ hd2), raGood_eq _ _ k hk]
    simp only [Option.bind_some, decide_eq_true_eq]
    split <;> rfl
  · rw [if_neg (by omega), wr _ (tdiv_bd _ _ hn), wr _ (tdiv_bd _ _ hd2), raGood_eq _ _ k hk]
    simp only [Option.bind_some, decide_eq_true_eq]
    split <;> rfl
theorem raMake_zero (n : Int) (k : Nat) : spec_raMake.f k n 0 = some (0, 0, false) := by
  unfold spec_raMake.f
  rw [if_pos rfl]
theorem mk_ok (n d : Int) (h : (mk n d).2.2 = true) : OkR (mk n d).1 (mk n d).2.1 := by
  unfold mk at h ⊢
  split
  · rename_i h1; exact h1
  · rename_i h1; rw [if_neg h1] at h; cases h
theorem mk_bad (n d : Int) (h : (mk n d).2.2 = false) : mk n d = (0, 0, false) := by
  unfold mk at h ⊢
  split
  · rename_i h1; rw [if_pos h1] at h; cases h
  · rfl
theorem natAbs_div_le (n q : Int) : (n.tdiv q).natAbs ≤ n.natAbs := by
  rw [Int.natAbs_tdiv]
  exact Nat.div_le_self _ _
theorem mk_small (n d : Int) (hd : d ≠ 0) (hn : n.natAbs ≤ 1000000000) (hd2 : d.natAbs ≤ 1000000000) : OkR (n.tdiv (sg n d)) (d.tdiv (sg n d)) ∧ (n.tdiv (sg n d)).natAbs ≤ n.natAbs ∧ (d.tdiv (sg n d)).natAbs ≤ d.natAbs ∧ mk n d = (n.tdiv (sg n d), d.tdiv (sg n d), true) := by
  have hg := gcd_pos n d hd
  have e1 : (Int.gcd n d : Int) ∣ n := Int.gcd_dvd_left n d
  have e2 : (Int.gcd n d : Int) ∣ d := Int.gcd_dvd_right n d
  have h1 := natAbs_div_le n (sg n d)
  have h2 := natAbs_div_le d (sg n d)
  have hgo := Int.gcd_ediv_gcd_ediv_gcd hg
  have ok : OkR (n.tdiv (sg n d)) (d.tdiv (sg n d)) := by
    have hpos : 1 ≤ d.tdiv (sg n d) ∧ Int.gcd (n.tdiv (sg n d)) (d.tdiv (sg n d)) = 1 := by
      unfold sg
      split
      · rename_i hneg
        rw [Int.tdiv_neg, Int.tdiv_neg, Int.gcd_neg, Int.neg_gcd, Int.tdiv_eq_ediv_of_dvd e1, Int.tdiv_eq_ediv_of_dvd e2]
        refine ⟨?_, hgo⟩
        obtain ⟨c, hc⟩ := e2
        have : d / (Int.gcd n d : Int) = c := by
          conv => lhs; lhs; rw [hc]
          exact Int.mul_ediv_cancel_left c (by omega)
        rw [this]
        have : c < 0 := by
          rcases Int.lt_or_le c 0 with h | h
          · exact h
          · have := Int.mul_nonneg (show (0 : Int) ≤ (Int.gcd n d : Int) by omega) h
            omega
        omega
      · rename_i hpos
        rw [Int.tdiv_eq_ediv_of_dvd e1, Int.tdiv_eq_ediv_of_dvd e2]
        refine ⟨?_, hgo⟩
        obtain ⟨c, hc⟩ := e2
        have : d / (Int.gcd n d : Int) = c := by
          conv => lhs; lhs; rw [hc]
          exact Int.mul_ediv_cancel_left c (by omega)
        rw [this]
        rcases Int.lt_or_le 0 c with h | h
        · omega
        · have := Int.mul_le_mul_of_nonneg_left h (show (0 : Int) ≤ (Int.gcd n d : Int) by omega)
          rw [Int.mul_zero] at this
          omega
    exact ⟨hpos.1, by omega, by omega, by omega, hpos.2⟩
  exact ⟨ok, h1, h2, by unfold mk; rw [if_pos ok]⟩
end Go.Proofs.Ytlggehdfigkliaa.Pu
set_option linter.unusedVariables false
set_option linter.unusedSimpArgs false
namespace Go.Proofs.Ytlggehdfigkliaa.Pu
open Go.RowKit Go.Proofs.Ytlggehdfigkliaa.Q Go.Proofs.YtlggehdfigkliaaW.PrintWords Go.Proofs.YtlggehdfigkliaaW.PrintLast Go.Proofs.YtlggehdfigkliaaW.PrintMore
theorem rdRat (l : List S27) (i : Nat) : rd_T27 l (i : Int) = l.getD i z27 := by simp [rd_T27]
end Go.Proofs.Ytlggehdfigkliaa.Pu
set_option linter.unusedVariables false
set_option linter.unusedSimpArgs false
namespace Go.Proofs.Ytlggehdfigkliaa.Pu
open Go.RowKit Go.Proofs.Ytlggehdfigkliaa.Q Go.Proofs.YtlggehdfigkliaaW.PrintWords Go.Proofs.YtlggehdfigkliaaW.PrintLast Go.Proofs.YtlggehdfigkliaaW.PrintMore
theorem rdPoint (l : List S57) (i : Nat) : rd_T57 l (i : Int) = l.getD i z57 := by simp [rd_T57]
theorem rdlPoint (l : List S60) (i : Nat) : rd_T60 l (i : Int) = l.getD i z60 := by simp [rd_T60]
def cvPoint (x : S60) : S57 := ⟨⟨x.f0.f0, x.f0.f1⟩, ⟨x.f1.f0, x.f1.f1⟩⟩
theorem cvPoint_getD (l : List S60) (i : Nat) (h : i < l.length) : (l.map cvPoint).getD i z57 = cvPoint (l.getD i z60) := by
  simp [List.getD_eq_getElem?_getD, h]
theorem toPointS_l (x0 : List S60) (hb : x0.length ≤ 9000000000000000000) : ∀ (d k : Nat) (x3 : List S57) (i : Nat), i + d = x0.length → x3.length = x0.length → (∀ j, j < i → x3.getD j z57 = cvPoint (x0.getD j z60)) → d < k → laws_toPointS.l0 k x0 x3 (i : Int) = some (x0.map cvPoint) := by
  intro d
  induction d with
  | zero =>
    intro k x3 i hi hl hj hk
    obtain ⟨k, rfl⟩ : ∃ m, k = m + 1 := ⟨k - 1, by omega⟩
    simp only [laws_toPointS.l0]
    rw [if_neg (by omega), ext_getDG z57 x3 (x0.map cvPoint) (by simpa using hl) (fun j h => by rw [hj j (by omega), cvPoint_getD _ _ (by omega)])]
  | succ d ih =>
    intro k x3 i hi hl hj hk
    obtain ⟨k, rfl⟩ : ∃ m, k = m + 1 := ⟨k - 1, by omega⟩
    simp only [laws_toPointS.l0, laws_toPoint.f, laws_toRat.f, Option.bind_some]
    rw [if_pos (by omega), if_pos (by omega), if_pos (by omega), wr _ (by omega), Int.toNat_natCast, rdlPoint]
    refine ih k _ (i + 1) (by omega) (by simpa using hl) (fun j h => ?_) (by omega)
    rw [getD_setG _ _ _ _ _ (by omega)]
    split
    · rename_i e; rw [← e]; rfl
    · exact hj j (by omega)
theorem toPointS (l : List S60) (hb : l.length ≤ 1048576) (k : Nat) (hk : l.length < k) : laws_toPointS.f k l = some (l.map cvPoint) := by
  unfold laws_toPointS.f
  rw [if_pos (by omega), if_pos (by omega)]
  exact toPointS_l l (by omega) l.length k _ 0 (by omega) (by simp) (fun j h => by omega) hk
theorem eqPoint_self (x : S57) : laws_eqPoint.f x.f0.f0 x.f0.f1 x.f1.f0 x.f1.f1 x.f0.f0 x.f0.f1 x.f1.f0 x.f1.f1 = some true := by
  simp [laws_eqPoint.f, laws_eqRat.f]
theorem eqPointS_l (a : List S57) (hb : a.length ≤ 9000000000000000000) : ∀ (d k : Nat) (i : Nat), i + d = a.length → d < k → laws_eqPointS.l0 k a a (i : Int) = some true := by
  intro d
  induction d with
  | zero =>
    intro k i hi hk
    obtain ⟨k, rfl⟩ : ∃ m, k = m + 1 := ⟨k - 1, by omega⟩
    simp only [laws_eqPointS.l0]
    rw [if_neg (by omega)]
  | succ d ih =>
    intro k i hi hk
    obtain ⟨k, rfl⟩ : ∃ m, k = m + 1 := ⟨k - 1, by omega⟩
    simp only [laws_eqPointS.l0, eqPoint_self, Option.bind_some]
    rw [if_pos (by omega), if_pos (by omega), if_pos (by omega), wr _ (by omega)]
    exact ih k (i + 1) (by omega) (by omega)
theorem eqPointS_self (a : List S57) (hb : a.length ≤ 9000000000000000000) (k : Nat) (hk : a.length < k) : laws_eqPointS.f k a a = some true := by
  unfold laws_eqPointS.f
  rw [if_pos rfl]
  exact eqPointS_l a hb a.length k 0 (by omega) hk
def mPoint (q : Int) : S57 := ⟨⟨q, q + 1⟩, ⟨q + 1 + 1, q + 1 + 1 + 1⟩⟩
def marksPoint (q : Int) (n : Nat) : List S57 := (List.range n).map fun (j : Nat) => mPoint (q + 4 * (j : Int))
theorem marksPoint_length (q : Int) (n : Nat) : (marksPoint q n).length = n := by simp [marksPoint]
theorem marksPoint_getD (q : Int) (n j : Nat) (h : j < n) : (marksPoint q n).getD j z57 = mPoint (q + 4 * (j : Int)) := by
  simp [marksPoint, List.getD_eq_getElem?_getD, h]
theorem markPointS_l (n : Nat) (q : Int) (hq : -4000000000000000 ≤ q ∧ q ≤ 4000000000000000) (hb : n ≤ 4000000000000000) : ∀ (d k : Nat) (x : List S57) (i : Nat), i + d = n → x.length = n → (∀ j, j < i → x.getD j z57 = mPoint (q + 4 * (j : Int))) → d < k → laws_markPointS.l0 k x (q + 4 * (i : Int)) (i : Int) = some (q + 4 * (n : Int), marksPoint q n) := by
  intro d
  induction d with
  | zero =>
    intro k x i hi hl hj hk
    obtain ⟨k, rfl⟩ : ∃ m, k = m + 1 := ⟨k - 1, by omega⟩
    simp only [laws_markPointS.l0]
    rw [if_neg (by omega), ext_getDG z57 x (marksPoint q n) (by rw [marksPoint_length, hl]) (fun j h => by rw [hj j (by omega), marksPoint_getD _ _ _ (by omega)])]
    rw [show i = n by omega]
  | succ d ih =>
    intro k x i hi hl hj hk
    obtain ⟨k, rfl⟩ : ∃ m, k = m + 1 := ⟨k - 1, by omega⟩
    simp only [laws_markPointS.l0, Option.bind_some, Int.toNat_natCast]
    rw [if_pos (by omega), if_pos (by omega)]
    repeat rw [wr _ (by omega)]
    have := ih k (x.set i (mPoint (q + 4 * (i : Int)))) (i + 1) (by omega) (by simpa using hl) (fun j h => by
      rw [getD_setG _ _ _ _ _ (by omega)]
      split
      · rename_i e; rw [e]
      · exact hj j (by omega)) (by omega)
    rw [show q + 4 * ((i + 1 : Nat) : Int) = q + 4 * (i : Int) + 1 + 1 + 1 + 1 by omega] at this
    rw [← this]
    congr 1
    simp only [rdPoint, List.set_set, getD_setG _ _ _ _ _ (show i < x.length by omega), List.length_set, if_true]
    try rfl
theorem markPointS (l : List S57) (q : Int) (hq : -4000000000000000 ≤ q ∧ q ≤ 4000000000000000) (hb : l.length ≤ 4000000000000000) (k : Nat) (hk : l.length < k) : laws_markPointS.f k l q = some (q + 4 * (l.length : Int), marksPoint q l.length) := by
  unfold laws_markPointS.f
  have := markPointS_l l.length q hq hb l.length k l 0 (by omega) rfl (fun j h => by omega) hk
  simpa using this
end Go.Proofs.Ytlggehdfigkliaa.Pu
set_option linter.unusedVariables false
set_option linter.unusedSimpArgs false
namespace Go.Proofs.Ytlggehdfigkliaa.Pu
open Go.RowKit Go.Proofs.Ytlggehdfigkliaa.Q Go.Proofs.YtlggehdfigkliaaW.PrintWords Go.Proofs.YtlggehdfigkliaaW.PrintLast Go.Proofs.YtlggehdfigkliaaW.PrintMore
theorem mul_bd (x y : Int) (B C : Nat) (hx : x.natAbs ≤ B) (hy : y.natAbs ≤ C) : (x * y).natAbs ≤ B * C := by
  rw [Int.natAbs_mul]
  exact Nat.mul_le_mul hx hy
def Bd (n d : Int) : Prop := n.natAbs ≤ 1000000000 ∧ d.natAbs ≤ 1000000000
theorem OkR.bd {n d : Int} (h : OkR n d) : Bd n d := by
  obtain ⟨h1, h2, h3, h4, _⟩ := h
  exact ⟨by omega, by omega⟩
theorem cross_bd {a b c d : Int} (h1 : Bd a b) (h2 : Bd c d) : (a * d).natAbs ≤ 1000000000000000000 ∧ (c * b).natAbs ≤ 1000000000000000000 ∧ (b * d).natAbs ≤ 1000000000000000000 ∧ (a * c).natAbs ≤ 1000000000000000000 :=
  ⟨mul_bd a d _ _ h1.1 h2.2, mul_bd c b _ _ h2.1 h1.2, mul_bd b d _ _ h1.2 h2.2, mul_bd a c _ _ h1.1 h2.1⟩
theorem less_eq {a b c d : Int} (h1 : Bd a b) (h2 : Bd c d) : impl_less.f a b c d = some (decide (a * d < c * b)) := by
  obtain ⟨m1, m2, _⟩ := cross_bd h1 h2
  unfold impl_less.f impl_compare.f
  generalize a * d = p at *
  generalize c * b = q at *
  rw [wr p (by omega), wr q (by omega)]
  by_cases h : p < q
  · rw [if_pos h]; simp [h]
  · rw [if_neg h]
    by_cases h3 : p > q
    · rw [if_pos h3]; simp [h]
    · rw [if_neg h3]; simp [h]
theorem raCmp_eq {a b c d : Int} (h1 : Bd a b) (h2 : Bd c d) : ∃ t, spec_raCmp.f a b c d = some t ∧ (t < 0 ↔ a * d < c * b) ∧ (t = 0 ↔ a * d = c * b) := by
  obtain ⟨m1, m2, _⟩ := cross_bd h1 h2
  unfold spec_raCmp.f spec_l1Sign.f
  generalize a * d = p at *
  generalize c * b = q at *
  rw [wr p (by omega), wr q (by omega), wr (p - q) (by omega)]
  by_cases h : p - q > 0
  · rw [if_pos h]
    exact ⟨1, rfl, by omega, by omega⟩
  · rw [if_neg h]
    by_cases h3 : p - q < 0
    · rw [if_pos h3]
      exact ⟨-1, rfl, by omega, by omega⟩
    · rw [if_neg h3]
      exact ⟨0, rfl, by omega, by omega⟩
def OkU (n d : Int) : Prop := OkR n d ∧ 0 ≤ n ∧ n ≤ d
instance (n d : Int) : Decidable (OkU n d) := by unfold OkU; infer_instance
def Co (n d : Int) : Prop := OkU n d ∧ d ≤ 100
instance (n d : Int) : Decidable (Co n d) := by unfold Co; infer_instance
theorem isUnit_eq (n d : Int) (k : Nat) (hk : 200 ≤ k) : impl_isUnit.f k n d = some (decide (OkU n d)) := by
  unfold impl_isUnit.f OkU
  rw [isRat_eq n d k hk]
  simp only [Option.bind_some, decide_eq_true_eq]
  by_cases h : OkR n d
  · rw [if_pos h]
    by_cases h2 : n ≥ 0
    · rw [if_pos h2]; simp [h, h2]
    · rw [if_neg h2]; simp [h2]
  · rw [if_neg h]; simp [h]
theorem raUnit_eq (n d : Int) (k : Nat) (hk : 200 ≤ k) : spec_raUnit.f k n d = some (decide (OkU n d)) := by
  unfold spec_raUnit.f spec_l1In.f OkU
  rw [raGood_eq n d k hk]
  simp only [Option.bind_some, decide_eq_true_eq]
  by_cases h : OkR n d
  · rw [if_pos h]
    by_cases h2 : n ≥ 0
    · rw [if_pos h2]; simp [h, h2]
    · rw [if_neg h2]; simp [h2]
  · rw [if_neg h]; simp [h]
theorem isCoord_eq (n d : Int) (k : Nat) (hk : 200 ≤ k) : impl_isCoord.f k n d = some (decide (Co n d)) := by
  unfold impl_isCoord.f Co
  rw [isUnit_eq n d k hk]
  simp only [Option.bind_some, decide_eq_true_eq]
  by_cases h : OkU n d
  · rw [if_pos h]; simp [h]
  · rw [if_neg h]; simp [h]
theorem imCoord_eq (n d : Int) (k : Nat) (hk : 200 ≤ k) : spec_imCoord.f k n d = some (decide (Co n d)) := by
  unfold spec_imCoord.f Co
  rw [raUnit_eq n d k hk]
  simp only [Option.bind_some, decide_eq_true_eq]
  by_cases h : OkU n d
  · rw [if_pos h]; simp [h]
  · rw [if_neg h]; simp [h]
abbrev Ra := S27
abbrev Pt := S57
def nr (l : List Ra) (i : Nat) : Ra := l.getD i z27
def np (l : List Pt) (i : Nat) : Pt := l.getD i z57
theorem rd_nr (l : List Ra) (i : Nat) : rd_T27 l (i : Int) = nr l i := rdRat l i
theorem rd_np (l : List Pt) (i : Nat) : rd_T57 l (i : Int) = np l i := rdPoint l i
theorem rd_np0 (l : List Pt) : rd_T57 l 0 = np l 0 := rdPoint l 0
theorem nr_mem (l : List Ra) (i : Nat) (h : i < l.length) : nr l i ∈ l := getD_mem l i _ h
theorem np_mem (l : List Pt) (i : Nat) (h : i < l.length) : np l i ∈ l := getD_mem l i _ h
theorem mem_np (l : List Pt) (x : Pt) (h : x ∈ l) : ∃ i, i < l.length ∧ np l i = x := by
  obtain ⟨i, hi, e⟩ := List.mem_iff_getElem.1 h
  exact ⟨i, hi, by simp [np, List.getD_eq_getElem?_getD, hi, e]⟩
def Lt (a b : Ra) : Prop := a.f0 * b.f1 < b.f0 * a.f1
instance (a b : Ra) : Decidable (Lt a b) := by unfold Lt; infer_instance
def BdR (a : Ra) : Prop := Bd a.f0 a.f1
theorem rising_l (l : List Ra) (hl : l.length ≤ 1048576) (hb : ∀ x ∈ l, BdR x) : ∀ (d k i : Nat), 1 ≤ i → i + d = l.length ∨ d = 0 ∧ l.length ≤ i ∧ i ≤ 1048577 → d < k →
    ∃ b, impl_isRising.l0 k l (i : Int) = some b ∧ (b = true ↔ ∀ j, i ≤ j → j < l.length → Lt (nr l (j - 1)) (nr l j)) := by
  intro d
  induction d with
  | zero =>
    intro k i h1 hi hk
    obtain ⟨k, rfl⟩ : ∃ m, k = m + 1 := ⟨k - 1, by omega⟩
    simp only [impl_isRising.l0]
    rw [if_neg (by omega)]
    exact ⟨true, rfl, by simp; intro j _ _; omega⟩
  | succ d ih =>
    intro k i h1 hi hk
    obtain ⟨k, rfl⟩ : ∃ m, k = m + 1 := ⟨k - 1, by omega⟩
    simp only [impl_isRising.l0]
    rw [wr (_ - 1) (by omega), wr (_ + 1) (by omega), if_pos (by omega), if_pos (by omega), if_pos (by omega), if_pos (by omega),
      show (i : Int) - 1 = ((i - 1 : Nat) : Int) by omega, show (i : Int) + 1 = ((i + 1 : Nat) : Int) by omega, rd_nr, rd_nr, less_eq (hb _ (nr_mem l _ (by omega))) (hb _ (nr_mem l _ (by omega)))]
    simp only [Option.bind_some, decide_eq_true_eq]
    by_cases h : Lt (nr l (i - 1)) (nr l i)
    · rw [if_pos (show (nr l (i - 1)).f0 * (nr l i).f1 < (nr l i).f0 * (nr l (i - 1)).f1 from h)]
      obtain ⟨b, e, hb2⟩ := ih k (i + 1) (by omega) (by omega) (by omega)
      refine ⟨b, e, hb2.trans ⟨fun hh j hj hl2 => ?_, fun hh j hj hl2 => hh j (by omega) hl2⟩⟩
      by_cases ej : j = i
      · subst ej; exact h
      · exact hh j (by omega) hl2
    · rw [if_neg (show ¬ (nr l (i - 1)).f0 * (nr l i).f1 < (nr l i).f0 * (nr l (i - 1)).f1 from h)]
      exact ⟨false, rfl, by simp; exact ⟨i, Nat.le_refl _, by omega, h⟩⟩
def Rising (l : List Ra) : Prop := ∀ j, 1 ≤ j → j < l.length → Lt (nr l (j - 1)) (nr l j)
theorem rising_eq (l : List Ra) (hl : l.length ≤ 1048576) (hb : ∀ x ∈ l, BdR x) (k : Nat) (hk : l.length < k) : ∃ b, impl_isRising.f k l = some b ∧ (b = true ↔ Rising l) := by
  unfold impl_isRising.f
  exact rising_l l hl hb (l.length - 1) k 1 (by omega) (by omega) (by omega)
theorem xsOf_l (l : List Pt) (hl : l.length ≤ 1048576) : ∀ (d k i : Nat) (out : List Ra), i + d = l.length → out.length ≤ i → d < k → impl_xsOf.l0 k out l (l.length : Int) (i : Int) = some (out ++ (l.drop i).map fun p => p.f0) := by
  intro d
  induction d with
  | zero =>
    intro k i out hi ho hk
    obtain ⟨k, rfl⟩ : ∃ m, k = m + 1 := ⟨k - 1, by omega⟩
    simp only [impl_xsOf.l0]
    rw [if_neg (by omega), List.drop_of_length_le (by omega)]
    simp
  | succ d ih =>
    intro k i out hi ho hk
    obtain ⟨k, rfl⟩ : ∃ m, k = m + 1 := ⟨k - 1, by omega⟩
    simp only [impl_xsOf.l0]
    rw [wr (_ + 1) (by omega), if_pos (by omega), if_pos (by omega), if_pos (by omega), if_pos (by omega), show (i : Int) + 1 = ((i + 1 : Nat) : Int) by omega, rd_np, ih k (i + 1) _ (by omega) (by simp; omega) (by omega),
      drop_getD l i z57 (by omega)]
    simp [np]
theorem xsOf_eq (l : List Pt) (hl : l.length ≤ 1048576) (k : Nat) (hk : l.length < k) : impl_xsOf.f k l = some (l.map fun p => p.f0) := by
  unfold impl_xsOf.f
  have := xsOf_l l hl l.length k 0 [] (by omega) (by simp) hk
  simpa using this
theorem nr_xs (l : List Pt) (i : Nat) (h : i < l.length) : nr (l.map fun p => p.f0) i = (np l i).f0 := by
  simp [nr, np, List.getD_eq_getElem?_getD, h]
def CoP (p : Pt) : Prop := Co p.f0.f0 p.f0.f1 ∧ Co p.f1.f0 p.f1.f1
instance (p : Pt) : Decidable (CoP p) := by unfold CoP; infer_instance
structure IsMap (l : List Pt) : Prop where
  two : 2 ≤ l.length
  most : l.length ≤ 12
  co : ∀ i, i < l.length → CoP (np l i)
  up : ∀ i, 1 ≤ i → i < l.length → Lt (np l (i - 1)).f0 (np l i).f0
  first : (np l 0).f0 = ⟨0, 1⟩
  last : (np l (l.length - 1)).f0 = ⟨1, 1⟩
theorem CoP.bx {p : Pt} (h : CoP p) : BdR p.f0 := h.1.1.1.bd
theorem CoP.by {p : Pt} (h : CoP p) : BdR p.f1 := h.2.1.1.bd
theorem rat_ext {a : Ra} {n d : Int} (h0 : a.f0 = n) (h1 : a.f1 = d) : a = ⟨n, d⟩ := by cases a; simp_all
theorem isMap_eq (l : List Pt) (hl : l.length ≤ 1048576) (k : Nat) (hk : 1000 ≤ k) : ∃ b, impl_isMap.f k l = some b ∧ (b = true ↔ IsMap l) := by
  unfold impl_isMap.f impl_within.f
  obtain ⟨k, rfl⟩ : ∃ m, k = m + 1 := ⟨k - 1, by omega⟩
  by_cases h2 : (2 : Int) ≤ (l.length : Int)
  · rw [if_pos h2]
    simp only [Option.bind_some]
    by_cases h12 : (l.length : Int) ≤ 12
    · rw [if_pos (by simpa using h12)]
      have hc : ContainsFunc_impl_isMap_1.f (k + 1) l = some (l.any fun p => !decide (CoP p)) := by
        unfold ContainsFunc_impl_isMap_1.f
        apply anyS_of
        intro x _
        unfold impl_isMap_1.f
        rw [isCoord_eq _ _ _ (by omega), isCoord_eq _ _ _ (by omega)]
        simp only [Option.bind_some, decide_eq_true_eq]
        by_cases h : Co x.f0.f0 x.f0.f1
        · rw [if_pos h]; simp [CoP, h]
        · rw [if_neg h]; simp [CoP, h]
      rw [hc]
      simp only [Option.bind_some, impl_isMap.j0]
      by_cases ha : (l.any fun p => !decide (CoP p)) = true
      · rw [if_pos ha]
        refine ⟨false, rfl, ⟨fun h => (by cases h), fun hm => ?_⟩⟩
        obtain ⟨x, hx, hn⟩ := List.any_eq_true.1 ha
        obtain ⟨i, hi, e⟩ := mem_np l x hx
        have := hm.co i hi
        rw [e] at this
        simp [this] at hn
      · rw [if_neg ha]
        have hco : ∀ x ∈ l, CoP x := fun x hx => by
          have : ¬ ((!decide (CoP x)) = true) := fun hh => ha (List.any_eq_true.2 ⟨x, hx, hh⟩)
          simpa using this
        rw [if_pos (by omega)]
        unfold impl_zero.f impl_oneRat.f
        simp only [Option.bind_some]
        rw [wr (_ - 1) (by omega), rd_np0, show (l.length : Int) - 1 = ((l.length - 1 : Nat) : Int) by omega, rd_np]
        by_cases hf : ((np l 0).f0.f0 == 0 && (np l 0).f0.f1 == 1) = true
        · rw [if_pos hf, if_pos (by omega), if_pos (by omega)]
          have hf' : (np l 0).f0 = ⟨0, 1⟩ := by
            simp only [Bool.and_eq_true, beq_iff_eq] at hf
            exact rat_ext hf.1 hf.2
          by_cases hg : ((np l (l.length - 1)).f0.f0 == 1 && (np l (l.length - 1)).f0.f1 == 1) = true
          · rw [if_pos hg]
            have hg' : (np l (l.length - 1)).f0 = ⟨1, 1⟩ := by
              simp only [Bool.and_eq_true, beq_iff_eq] at hg
              exact rat_ext hg.1 hg.2
            rw [xsOf_eq l (by omega) _ (by omega)]
            simp only [Option.bind_some]
            obtain ⟨b, e, hb⟩ := rising_eq (l.map fun p => p.f0) (by simp; omega) (fun x hx => by
              obtain ⟨p, hp, rfl⟩ := List.mem_map.1 hx
              exact (hco p hp).bx) k (by simp; omega)
            rw [e]
            refine ⟨b, rfl, hb.trans ⟨fun hr => ⟨by omega, by omega, fun i hi => hco _ (np_mem l i hi), fun i h1 hi => ?_, hf', hg'⟩, fun hm j h1 hj => ?_⟩⟩
            · have := hr i h1 (by simpa using hi)
              rwa [nr_xs _ _ (by omega), nr_xs _ _ hi] at this
            · rw [nr_xs _ _ (by simp at hj; omega), nr_xs _ _ (by simpa using hj)]
              exact hm.up j h1 (by simpa using hj)
          · rw [if_neg hg]
            exact ⟨false, rfl, by simp; intro hm; exact hg (by rw [hm.last]; rfl)⟩
        · rw [if_neg hf]
          exact ⟨false, rfl, by simp; intro hm; exact hf (by rw [hm.first]; rfl)⟩
    · rw [if_neg (by simpa using h12)]
      simp only [impl_isMap.j0, if_true]
      exact ⟨false, rfl, by simp; intro hm; have := hm.most; omega⟩
  · rw [if_neg h2]
    simp only [Option.bind_some, impl_isMap.j0, if_true]
    exact ⟨false, rfl, by simp; intro hm; have := hm.two; omega⟩
theorem imGood_l (l : List Pt) (h2 : 2 ≤ l.length) (h12 : l.length ≤ 12) : ∀ (d k i : Nat), i + d = l.length → (∀ j, j < i → CoP (np l j)) → (∀ j, 1 ≤ j → j < i → Lt (np l (j - 1)).f0 (np l j).f0) → 500 + d < k →
    ∃ b, spec_imGood.l0 k l l (l.length : Int) (i : Int) = some b ∧ (b = true ↔ IsMap l) := by
  intro d
  induction d with
  | zero =>
    intro k i hi hco hup hk
    obtain ⟨k, rfl⟩ : ∃ m, k = m + 1 := ⟨k - 1, by omega⟩
    simp only [spec_imGood.l0, spec_raInt.f, Option.bind_some]
    rw [if_neg (by omega), if_pos (by omega), rd_np0, wr (_ - 1) (by omega), show (l.length : Int) - 1 = ((l.length - 1 : Nat) : Int) by omega, rd_np]
    obtain ⟨t, e, _, h0⟩ := raCmp_eq (hco 0 (by omega)).bx (show Bd 0 1 by unfold Bd; omega)
    obtain ⟨t2, e2, _, h02⟩ := raCmp_eq (hco (l.length - 1) (by omega)).bx (show Bd 1 1 by unfold Bd; omega)
    rw [e, e2]
    simp only [Option.bind_some]
    have c0 := (hco 0 (by omega)).1.1
    have c1 := (hco (l.length - 1) (by omega)).1.1
    by_cases ht : t = 0
    · rw [if_pos ht, if_pos (by omega), if_pos (by omega)]
      refine ⟨_, rfl, ?_⟩
      have hz := h0.1 ht
      have hz0 : (np l 0).f0.f0 = 0 := by omega
      have hf' : (np l 0).f0 = ⟨0, 1⟩ := by
        refine rat_ext hz0 ?_
        have hg := c0.1.2.2.2.2
        have hp := c0.1.1
        rw [hz0, Int.gcd_zero_left] at hg
        omega
      simp only [beq_iff_eq]
      rw [h02]
      constructor
      · intro hh
        have hz1 : (np l (l.length - 1)).f0.f0 = (np l (l.length - 1)).f0.f1 := by omega
        have hg' : (np l (l.length - 1)).f0 = ⟨1, 1⟩ := by
          have hg := c1.1.2.2.2.2
          have hp := c1.1.1
          rw [hz1, Int.gcd_self] at hg
          exact rat_ext (by omega) (by omega)
        exact ⟨by omega, by omega, fun j hj => hco j (by omega), fun j h1 hj => hup j h1 (by omega), hf', hg'⟩
      · intro hm
        rw [hm.last]
    · rw [if_neg ht]
      refine ⟨false, rfl, ⟨fun h => (by cases h), fun hm => absurd (h0.2 (by rw [hm.first])) ht⟩⟩
  | succ d ih =>
    intro k i hi hco hup hk
    obtain ⟨k, rfl⟩ : ∃ m, k = m + 1 := ⟨k - 1, by omega⟩
    simp only [spec_imGood.l0]
    rw [if_pos (by omega), if_pos (by omega), if_pos (by omega), rd_np, imCoord_eq _ _ k (by omega), imCoord_eq _ _ k (by omega)]
    simp only [Option.bind_some, decide_eq_true_eq]
    by_cases hx : Co (np l i).f0.f0 (np l i).f0.f1
    · rw [if_pos hx]
      by_cases hy : Co (np l i).f1.f0 (np l i).f1.f1
      · rw [if_pos hy, wr (_ + 1) (by omega), show (i : Int) + 1 = ((i + 1 : Nat) : Int) by omega]
        have hci : CoP (np l i) := ⟨hx, hy⟩
        have hco' : ∀ j, j < i + 1 → CoP (np l j) := fun j hj => by
          by_cases ej : j = i
          · subst ej; exact hci
          · exact hco j (by omega)
        by_cases h0 : (i : Int) > 0
        · rw [if_pos h0, wr (_ - 1) (by omega), if_pos (by omega), if_pos (by omega), show (i : Int) - 1 = ((i - 1 : Nat) : Int) by omega, rd_np]
          obtain ⟨t, e, hlt, _⟩ := raCmp_eq (hco (i - 1) (by omega)).bx hci.bx
          rw [e]
          simp only [Option.bind_some]
          by_cases ht : t ≥ 0
          · rw [if_pos ht]
            refine ⟨false, rfl, ⟨fun h => (by cases h), fun hm => ?_⟩⟩
            have := hm.up i (by omega) (by omega)
            have := hlt.2 this
            omega
          · rw [if_neg ht]
            refine ih k (i + 1) (by omega) hco' (fun j h1 hj => ?_) (by omega)
            by_cases ej : j = i
            · subst ej; exact hlt.1 (by omega)
            · exact hup j h1 (by omega)
        · rw [if_neg h0]
          exact ih k (i + 1) (by omega) hco' (fun j h1 hj => by omega) (by omega)
      · rw [if_neg hy]
        exact ⟨false, rfl, by simp; intro hm; exact hy (hm.co i (by omega)).2⟩
    · rw [if_neg hx]
      exact ⟨false, rfl, by simp; intro hm; exact hx (hm.co i (by omega)).1⟩
theorem imGood_eq (l : List Pt) (hl : l.length ≤ 1048576) (k : Nat) (hk : 1000 ≤ k) : ∃ b, spec_imGood.f k l = some b ∧ (b = true ↔ IsMap l) := by
  unfold spec_imGood.f spec_l1In.f
  by_cases h2 : (l.length : Int) ≥ 2
  · rw [if_pos h2]
    simp only [Option.bind_some]
    by_cases h12 : (l.length : Int) ≤ 12
    · rw [if_pos (by simpa using h12)]
      exact imGood_l l (by omega) (by omega) l.length k 0 (by omega) (fun j hj => by omega) (fun j _ hj => by omega) (by omega)
    · rw [if_neg (by simpa using h12)]
      exact ⟨false, rfl, by simp; intro hm; have := hm.most; omega⟩
  · rw [if_neg h2]
    simp only [Option.bind_some]
    exact ⟨false, rfl, by simp; intro hm; have := hm.two; omega⟩
open Classical in
noncomputable def mapB (l : List Pt) : Bool := decide (IsMap l)
theorem mapB_iff (l : List Pt) : mapB l = true ↔ IsMap l := by unfold mapB; simp
theorem isMapB (l : List Pt) (hl : l.length ≤ 1048576) (k : Nat) (hk : 1000 ≤ k) : impl_isMap.f k l = some (mapB l) := by
  obtain ⟨b, e, h⟩ := isMap_eq l hl k hk
  rw [e]
  congr 1
  rw [Bool.eq_iff_iff, h, mapB_iff]
theorem imGoodB (l : List Pt) (hl : l.length ≤ 1048576) (k : Nat) (hk : 1000 ≤ k) : spec_imGood.f k l = some (mapB l) := by
  obtain ⟨b, e, h⟩ := imGood_eq l hl k hk
  rw [e]
  congr 1
  rw [Bool.eq_iff_iff, h, mapB_iff]
end Go.Proofs.Ytlggehdfigkliaa.Pu
set_option linter.unusedVariables false
set_option linter.unusedSimpArgs false
namespace Go.Proofs.Ytlggehdfigkliaa.Pu
open Go.RowKit Go.Proofs.Ytlggehdfigkliaa.Q Go.Proofs.YtlggehdfigkliaaW.PrintWords Go.Proofs.YtlggehdfigkliaaW.PrintLast Go.Proofs.YtlggehdfigkliaaW.PrintMore
abbrev Tri := Int × Int × Bool
def kp (s : Bool) (m : Tri) : Tri := if m.2.2 = true then (m.1, m.2.1, s) else (0, 1, true)
theorem keep_eq (s : Bool) (m : Tri) : impl_calc_keep.f s m.1 m.2.1 m.2.2 = some (kp s m) := by
  unfold impl_calc_keep.f kp impl_zero.f
  split <;> rfl
theorem ok_zero : OkR 0 1 := by unfold OkR; decide
theorem kp_ok {s : Bool} {m : Tri} (h : m.2.2 = true → OkR m.1 m.2.1) : OkR (kp s m).1 (kp s m).2.1 := by
  unfold kp
  split
  · rename_i h1; exact h h1
  · exact ok_zero
theorem kp_bad (s : Bool) (m : Tri) : (kp s m).2.2 = (s || !m.2.2) := by
  unfold kp
  cases m.2.2 <;> simp
theorem kp_val {s : Bool} {m : Tri} (h : m.2.2 = true) : kp s m = (m.1, m.2.1, s) := by
  unfold kp
  rw [if_pos h]
theorem areRats2 (a b : Ra) (k : Nat) (hk : 300 ≤ k) : impl_areRats.f k [a, b] = some (decide (OkR a.f0 a.f1) && decide (OkR b.f0 b.f1)) := by
  unfold impl_areRats.f
  obtain ⟨k, rfl⟩ : ∃ m, k = m + 3 := ⟨k - 3, by omega⟩
  have r0 : rd_T27 [a, b] 0 = a := rfl
  have r1 : rd_T27 [a, b] 1 = b := rfl
  simp only [impl_areRats.l0, List.length_cons, List.length_nil]
  rw [if_pos (by decide), if_pos (by decide), if_pos (by decide), r0, isRat_eq _ _ _ (by omega)]
  simp only [Option.bind_some, decide_eq_true_eq]
  by_cases h : OkR a.f0 a.f1
  · rw [if_pos h]
    have e1 : wrap64 (0 + 1) = 1 := wr _ (by decide)
    have e2 : wrap64 (1 + 1) = 2 := wr _ (by decide)
    rw [e1, if_pos (by decide), if_pos (by decide), if_pos (by decide), r1, isRat_eq _ _ _ (by omega)]
    simp only [Option.bind_some, decide_eq_true_eq]
    by_cases h2 : OkR b.f0 b.f1
    · rw [if_pos h2, e2, if_neg (by decide)]
      simp [h, h2]
    · rw [if_neg h2]; simp [h2]
  · rw [if_neg h]; simp [h]
def addT (a b c d : Int) : Tri := mk (a * d + c * b) (b * d)
def subT (a b c d : Int) : Tri := mk (a * d - c * b) (b * d)
def mulT (a b c d : Int) : Tri := mk (a * c) (b * d)
def divT (a b c d : Int) : Tri := if c = 0 then (0, 0, false) else mk (a * d) (b * c)
theorem addT_ok (a b c d : Int) (h : (addT a b c d).2.2 = true) : OkR (addT a b c d).1 (addT a b c d).2.1 := mk_ok _ _ h
theorem subT_ok (a b c d : Int) (h : (subT a b c d).2.2 = true) : OkR (subT a b c d).1 (subT a b c d).2.1 := mk_ok _ _ h
theorem mulT_ok (a b c d : Int) (h : (mulT a b c d).2.2 = true) : OkR (mulT a b c d).1 (mulT a b c d).2.1 := mk_ok _ _ h
theorem den_pos {a b c d : Int} (h1 : OkR a b) (h2 : OkR c d) : b * d ≠ 0 := by
  have := Int.mul_pos (show 0 < b by have := h1.1; omega) (show 0 < d by have := h2.1; omega)
  omega
section
variable {a b c d : Int} (h1 : OkR a b) (h2 : OkR c d) (k : Nat)
include h1 h2
theorem addRats_eq (hk : 300 ≤ k) : impl_AddRats.f k a b c d = some (addT a b c d) := by
  unfold impl_AddRats.f
  rw [areRats2 _ _ k hk, decide_eq_true h1, decide_eq_true h2]
  simp only [Option.bind_some, Bool.and_true, if_true]
  obtain ⟨m1, m2, m3, _⟩ := cross_bd h1.bd h2.bd
  have hd := den_pos h1 h2
  rw [wr (a * d) (by omega), wr (c * b) (by omega), wr (b * d) (by omega), wr _ (by omega), lowest_eq _ _ hd (by omega) (by omega) k (by omega)]
  rfl
theorem raAdd_eq (hk : 300 ≤ k) : spec_raAdd.f k a b c d = some (addT a b c d) := by
  unfold spec_raAdd.f
  obtain ⟨m1, m2, m3, _⟩ := cross_bd h1.bd h2.bd
  have hd := den_pos h1 h2
  rw [wr (a * d) (by omega), wr (c * b) (by omega), wr (b * d) (by omega), wr _ (by omega), raMake_eq _ _ hd (by omega) (by omega) k (by omega)]
  rfl
theorem raSub_eq (hk : 300 ≤ k) : spec_raSub.f k a b c d = some (subT a b c d) := by
  unfold spec_raSub.f
  obtain ⟨m1, m2, m3, _⟩ := cross_bd h1.bd h2.bd
  have hd := den_pos h1 h2
  rw [wr (a * d) (by omega), wr (c * b) (by omega), wr (b * d) (by omega), wr _ (by omega), raMake_eq _ _ hd (by omega) (by omega) k (by omega)]
  rfl
theorem raMul_eq (hk : 300 ≤ k) : spec_raMul.f k a b c d = some (mulT a b c d) := by
  unfold spec_raMul.f
  obtain ⟨m1, m2, m3, m4⟩ := cross_bd h1.bd h2.bd
  have hd := den_pos h1 h2
  rw [wr (a * c) (by omega), wr (b * d) (by omega), raMake_eq _ _ hd (by omega) (by omega) k (by omega)]
  rfl
theorem raDiv_eq (hk : 300 ≤ k) : spec_raDiv.f k a b c d = some (divT a b c d) := by
  unfold spec_raDiv.f divT
  obtain ⟨m1, m2, m3, m4⟩ := cross_bd h1.bd h2.bd
  split
  · rfl
  · rename_i hc
    have hd : b * c ≠ 0 := Int.mul_ne_zero (by have := h1.1; omega) hc
    have m5 := mul_bd b c _ _ h1.bd.2 h2.bd.1
    rw [wr (a * d) (by omega), wr (b * c) (by omega), raMake_eq _ _ hd (by omega) (by omega) k (by omega)]
    rfl
omit h1 in
theorem negated_ok : OkR (-c) d := by
  obtain ⟨e1, e2, e3, e4, e5⟩ := h2
  exact ⟨e1, e2, by omega, by omega, by rw [Int.neg_gcd]; exact e5⟩
theorem subRats_eq (hk : 300 ≤ k) : impl_SubtractRats.f k a b c d = some (subT a b c d) := by
  unfold impl_SubtractRats.f impl_negated.f
  have hb := h2.bd
  simp only [Option.bind_some]
  rw [wr (-c) (by unfold Bd at hb; omega), addRats_eq h1 (negated_ok h2) k hk]
  simp only [Option.bind_some]
  unfold addT subT
  rw [Int.neg_mul]
  rfl
theorem mulRats_eq (hk : 300 ≤ k) : impl_MultiplyRats.f k a b c d = some (mulT a b c d) := by
  unfold impl_MultiplyRats.f
  rw [areRats2 _ _ k hk, decide_eq_true h1, decide_eq_true h2]
  simp only [Option.bind_some, Bool.and_true, if_true]
  obtain ⟨m1, m2, m3, m4⟩ := cross_bd h1.bd h2.bd
  have hd := den_pos h1 h2
  rw [wr (a * c) (by omega), wr (b * d) (by omega), lowest_eq _ _ hd (by omega) (by omega) k (by omega)]
  rfl
theorem divRats_eq (hk : 300 ≤ k) : impl_DivideRats.f k a b c d = some (divT a b c d) := by
  unfold impl_DivideRats.f divT
  rw [areRats2 _ _ k hk, decide_eq_true h1, decide_eq_true h2]
  simp only [Option.bind_some, Bool.and_true, if_true]
  obtain ⟨m1, m2, m3, m4⟩ := cross_bd h1.bd h2.bd
  split
  · rfl
  · rename_i hc
    have hd : b * c ≠ 0 := Int.mul_ne_zero (by have := h1.1; omega) hc
    have m5 := mul_bd b c _ _ h1.bd.2 h2.bd.1
    rw [wr (a * d) (by omega), wr (b * c) (by omega), lowest_eq _ _ hd (by omega) (by omega) k (by omega)]
    rfl
theorem calc_add (s : Bool) (hk : 300 ≤ k) : impl_calc_add.f k s a b c d = some (kp s (addT a b c d)) := by
  unfold impl_calc_add.f
  rw [addRats_eq h1 h2 k hk, Option.bind_some, keep_eq, Option.bind_some]
theorem calc_sub (s : Bool) (hk : 300 ≤ k) : impl_calc_sub.f k s a b c d = some (kp s (subT a b c d)) := by
  unfold impl_calc_sub.f
  rw [subRats_eq h1 h2 k hk, Option.bind_some, keep_eq, Option.bind_some]
theorem calc_mul (s : Bool) (hk : 300 ≤ k) : impl_calc_mul.f k s a b c d = some (kp s (mulT a b c d)) := by
  unfold impl_calc_mul.f
  rw [mulRats_eq h1 h2 k hk, Option.bind_some, keep_eq, Option.bind_some]
theorem calc_div (s : Bool) (hk : 300 ≤ k) : impl_calc_div.f k s a b c d = some (kp s (divT a b c d)) := by
  unfold impl_calc_div.f
  rw [divRats_eq h1 h2 k hk, Option.bind_some, keep_eq, Option.bind_some]
end
def slT (p q : Pt) : Tri := divT (subT q.f1.f0 q.f1.f1 p.f1.f0 p.f1.f1).1 (subT q.f1.f0 q.f1.f1 p.f1.f0 p.f1.f1).2.1 (subT q.f0.f0 q.f0.f1 p.f0.f0 p.f0.f1).1 (subT q.f0.f0 q.f0.f1 p.f0.f0 p.f0.f1).2.1
theorem co_sub {a b c d : Int} (h1 : Co a b) (h2 : Co c d) : (subT a b c d).2.2 = true ∧ OkR (subT a b c d).1 (subT a b c d).2.1 ∧ (subT a b c d).1.natAbs ≤ 10000 ∧ (subT a b c d).2.1.natAbs ≤ 10000 := by
  obtain ⟨⟨⟨b1, b2, _, _, _⟩, b3, b4⟩, b5⟩ := h1
  obtain ⟨⟨⟨d1, d2, _, _, _⟩, d3, d4⟩, d5⟩ := h2
  have m1 := mul_bd a d 100 100 (by omega) (by omega)
  have m2 := mul_bd c b 100 100 (by omega) (by omega)
  have m3 := mul_bd b d 100 100 (by omega) (by omega)
  have n1 := Int.mul_nonneg b3 (show (0 : Int) ≤ d by omega)
  have n2 := Int.mul_nonneg d3 (show (0 : Int) ≤ b by omega)
  have n3 := Int.mul_pos (show (0 : Int) < b by omega) (show (0 : Int) < d by omega)
  unfold subT
  generalize a * d = x at *
  generalize c * b = y at *
  generalize b * d = z at *
  obtain ⟨e1, e2, e3, e4⟩ := mk_small (x - y) z (by omega) (by omega) (by omega)
  rw [e4]
  exact ⟨rfl, e1, by show (Int.tdiv _ _).natAbs ≤ _; omega, by show (Int.tdiv _ _).natAbs ≤ _; omega⟩
theorem sub_ne {a b c d : Int} (h1 : OkR a b) (h2 : OkR c d) (hlt : c * b < a * d) (hok : (subT a b c d).2.2 = true) : (subT a b c d).1 ≠ 0 := by
  have hd := den_pos h1 h2
  unfold subT mk at hok ⊢
  split at hok
  · rename_i h
    rw [if_pos h]
    intro h0
    have h0' : (a * d - c * b).tdiv (sg (a * d - c * b) (b * d)) = 0 := h0
    have hdv : (sg (a * d - c * b) (b * d)) ∣ (a * d - c * b) := by
      unfold sg
      split
      · exact Int.neg_dvd.2 (Int.gcd_dvd_left _ _)
      · exact Int.gcd_dvd_left _ _
    obtain ⟨t, ht⟩ := hdv
    have hs : sg (a * d - c * b) (b * d) ≠ 0 := by
      have := gcd_pos (a * d - c * b) (b * d) hd
      unfold sg
      split <;> omega
    have : (sg (a * d - c * b) (b * d) * t).tdiv (sg (a * d - c * b) (b * d)) = t := Int.mul_tdiv_cancel_left _ hs
    generalize hg : sg (a * d - c * b) (b * d) = g at *
    rw [ht, this] at h0'
    rw [h0', Int.mul_zero] at ht
    omega
  · cases hok
structure Seg (p q : Pt) : Prop where
  cp : CoP p
  cq : CoP q
  lt : Lt p.f0 q.f0
theorem IsMap.seg {l : List Pt} (h : IsMap l) (i : Nat) (hi : i + 1 < l.length) : Seg (np l i) (np l (i + 1)) :=
  ⟨h.co i (by omega), h.co (i + 1) hi, by have := h.up (i + 1) (by omega) hi; rwa [Nat.add_sub_cancel] at this⟩
theorem seg_slope {p q : Pt} (h : Seg p q) : (slT p q).2.2 = true ∧ OkR (slT p q).1 (slT p q).2.1 := by
  obtain ⟨u1, u2, u3, u4⟩ := co_sub h.cq.2 h.cp.2
  obtain ⟨v1, v2, v3, v4⟩ := co_sub h.cq.1 h.cp.1
  have v5 := sub_ne h.cq.1.1.1 h.cp.1.1.1 h.lt v1
  unfold slT
  generalize hx : subT q.f1.f0 q.f1.f1 p.f1.f0 p.f1.f1 = x at *
  generalize hy : subT q.f0.f0 q.f0.f1 p.f0.f0 p.f0.f1 = y at *
  unfold divT
  rw [if_neg v5]
  have m1 := mul_bd x.1 y.2.1 10000 10000 u3 v4
  have m2 := mul_bd x.2.1 y.1 10000 10000 u4 v3
  have hd : x.2.1 * y.1 ≠ 0 := Int.mul_ne_zero (by have := u2.1; omega) v5
  obtain ⟨e1, e2, e3, e4⟩ := mk_small (x.1 * y.2.1) (x.2.1 * y.1) hd (by omega) (by omega)
  rw [e4]
  exact ⟨rfl, e1⟩
theorem slope_eq {p q : Pt} (h : Seg p q) (s : Bool) (k : Nat) (hk : 300 ≤ k) : impl_calc_slope.f k s p.f0.f0 p.f0.f1 p.f1.f0 p.f1.f1 q.f0.f0 q.f0.f1 q.f1.f0 q.f1.f1 = some ((slT p q).1, (slT p q).2.1, s) := by
  obtain ⟨u1, u2, u3, u4⟩ := co_sub h.cq.2 h.cp.2
  obtain ⟨v1, v2, v3, v4⟩ := co_sub h.cq.1 h.cp.1
  unfold impl_calc_slope.f
  rw [calc_sub h.cq.2.1.1 h.cp.2.1.1 k s hk, kp_val u1, Option.bind_some, calc_sub h.cq.1.1.1 h.cp.1.1.1 k s hk, kp_val v1, Option.bind_some, calc_div u2 v2 k s hk, Option.bind_some]
  have := kp_val (s := s) (seg_slope h).1
  unfold slT at this ⊢
  rw [this]
theorem imSlope_eq {p q : Pt} (h : Seg p q) (k : Nat) (hk : 300 ≤ k) : spec_imSlope.f k p.f0.f0 p.f0.f1 p.f1.f0 p.f1.f1 q.f0.f0 q.f0.f1 q.f1.f0 q.f1.f1 = some ((slT p q).1, (slT p q).2.1) := by
  obtain ⟨u1, u2, u3, u4⟩ := co_sub h.cq.2 h.cp.2
  obtain ⟨v1, v2, v3, v4⟩ := co_sub h.cq.1 h.cp.1
  unfold spec_imSlope.f
  rw [raSub_eq h.cq.2.1.1 h.cp.2.1.1 k hk, Option.bind_some, raSub_eq h.cq.1.1.1 h.cp.1.1.1 k hk, Option.bind_some, raDiv_eq u2 v2 k hk, Option.bind_some]
  rfl
end Go.Proofs.Ytlggehdfigkliaa.Pu
set_option linter.unusedVariables false
set_option linter.unusedSimpArgs false
namespace Go.Proofs.Ytlggehdfigkliaa.Pu
open Go.RowKit Go.Proofs.Ytlggehdfigkliaa.Q Go.Proofs.YtlggehdfigkliaaW.PrintWords Go.Proofs.YtlggehdfigkliaaW.PrintLast Go.Proofs.YtlggehdfigkliaaW.PrintMore
structure Rel (s : Bool) (v m : Tri) : Prop where
  ok : OkR v.1 v.2.1
  bad : v.2.2 = (s || !m.2.2)
  val : m.2.2 = true → v.1 = m.1 ∧ v.2.1 = m.2.1
theorem rel_kp {s : Bool} {m : Tri} (h : m.2.2 = true → OkR m.1 m.2.1) : Rel s (kp s m) m :=
  ⟨kp_ok h, kp_bad s m, fun hm => by rw [kp_val hm]; exact ⟨rfl, rfl⟩⟩
def pcq (x0 x1 : Int) (p : Pt) : Bool := !decide (p.f0.f0 * x1 < x0 * p.f0.f1)
def pc (l : List Pt) (x0 x1 : Int) : Nat := (idxOf (pcq x0 x1) l - 1).toNat
theorem imPiece_l (l : List Pt) (x0 x1 : Int) (hm : IsMap l) (hx : OkR x0 x1) (j : Nat) (hj : j < l.length) (h1 : 1 ≤ j) (hq : ¬ (np l j).f0.f0 * x1 < x0 * (np l j).f0.f1) (hlt : ∀ m, m < j → (np l m).f0.f0 * x1 < x0 * (np l m).f0.f1) :
    ∀ (d k i : Nat), i + d = j - 1 → d < k → spec_imPiece.l0 k l (i : Int) x0 x1 = some ((j - 1 : Nat) : Int) := by
  have hmost := hm.most
  intro d
  induction d with
  | zero =>
    intro k i hi hk
    obtain ⟨k, rfl⟩ : ∃ m, k = m + 1 := ⟨k - 1, by omega⟩
    simp only [spec_imPiece.l0]
    rw [wr (_ + 2) (by omega), wr (_ + 1) (by omega)]
    by_cases h2 : (i : Int) + 2 < (l.length : Int)
    · rw [if_pos h2, if_pos (by omega), if_pos (by omega), show (i : Int) + 1 = ((i + 1 : Nat) : Int) by omega, rd_np]
      obtain ⟨t, e, ht, _⟩ := raCmp_eq (hm.co (i + 1) (by omega)).bx hx.bd
      rw [e, Option.bind_some]
      have ej : i + 1 = j := by omega
      rw [ej] at ht
      rw [if_neg (fun h => hq (ht.1 h))]
      congr 1
      omega
    · rw [if_neg h2]
      congr 1
      omega
  | succ d ih =>
    intro k i hi hk
    obtain ⟨k, rfl⟩ : ∃ m, k = m + 1 := ⟨k - 1, by omega⟩
    simp only [spec_imPiece.l0]
    rw [wr (_ + 2) (by omega), wr (_ + 1) (by omega), if_pos (by omega), if_pos (by omega), if_pos (by omega), show (i : Int) + 1 = ((i + 1 : Nat) : Int) by omega, rd_np]
    obtain ⟨t, e, ht, _⟩ := raCmp_eq (hm.co (i + 1) (by omega)).bx hx.bd
    rw [e, Option.bind_some, if_pos (ht.2 (hlt (i + 1) (by omega)))]
    exact ih k (i + 1) (by omega) (by omega)
theorem piece_eq (l : List Pt) (x0 x1 : Int) (hm : IsMap l) (hx : OkU x0 x1) : pc l x0 x1 + 1 < l.length ∧ impl_pieceAt.f l x0 x1 = some (pc l x0 x1 : Int) ∧ (∀ k, 100 ≤ k → spec_imPiece.f k l x0 x1 = some (pc l x0 x1 : Int)) ∧
    (np l (pc l x0 x1)).f0.f0 * x1 ≤ x0 * (np l (pc l x0 x1)).f0.f1 ∧ x0 * (np l (pc l x0 x1 + 1)).f0.f1 ≤ (np l (pc l x0 x1 + 1)).f0.f0 * x1 := by
  have h2 := hm.two
  have hmost := hm.most
  have hne : idxOf (pcq x0 x1) l ≠ -1 := fun h => by
    have := idxOf_neg _ _ h (np l (l.length - 1)) (np_mem l _ (by omega))
    unfold pcq at this
    rw [hm.last] at this
    have h3 := hx.2.2
    simp at this
    omega
  obtain ⟨j, ej, hj, hq, hlt⟩ := idxOf_pos _ _ z57 hne
  have hqj : ¬ (np l j).f0.f0 * x1 < x0 * (np l j).f0.f1 := by
    have : pcq x0 x1 (np l j) = true := hq
    unfold pcq at this
    simpa using this
  have hltj : ∀ m, m < j → (np l m).f0.f0 * x1 < x0 * (np l m).f0.f1 := fun m hmj => by
    have : pcq x0 x1 (np l m) = false := hlt m hmj
    unfold pcq at this
    simpa using this
  have himpl : impl_pieceAt.f l x0 x1 = some (if (j : Int) ≤ 1 then 0 else (j : Int) - 1) := by
    unfold impl_pieceAt.f
    rw [idxS_of (p := pcq x0 x1) (fun p hp => by
      obtain ⟨i, hi, e⟩ := mem_np l p hp
      have hb := (hm.co i hi).bx
      rw [e] at hb
      rw [less_eq hb hx.1.bd]
      rfl)]
    rw [Option.bind_some, ej]
  have hpc : pc l x0 x1 = j - 1 := by
    unfold pc
    rw [ej]
    omega
  rw [hpc]
  rcases Nat.eq_zero_or_pos j with h0 | hpos
  · subst h0
    rw [hm.first] at hqj
    simp at hqj
    have hx0 : x0 = 0 := by have := hx.2.1; omega
    subst hx0
    have hx1 := hx.1.1
    refine ⟨by omega, himpl, fun k hk => ?_, by simp [hm.first], ?_⟩
    · obtain ⟨k, rfl⟩ : ∃ m, k = m + 1 := ⟨k - 1, by omega⟩
      unfold spec_imPiece.f
      simp only [spec_imPiece.l0]
      rw [wr (0 + 2) (by omega), wr (0 + 1) (by omega)]
      by_cases h3 : (0 : Int) + 2 < (l.length : Int)
      · rw [if_pos h3, if_pos (by omega), if_pos (by omega), show (0 : Int) + 1 = ((1 : Nat) : Int) by omega, rd_np]
        obtain ⟨t, e, ht, _⟩ := raCmp_eq (hm.co 1 (by omega)).bx hx.1.bd
        rw [e, Option.bind_some, if_neg (fun h => by
          have h4 := ht.1 h
          have h5 := Int.mul_nonneg (hm.co 1 (by omega)).1.1.2.1 (show (0 : Int) ≤ x1 by omega)
          omega)]
        rfl
      · rw [if_neg h3]; rfl
    · have h5 := Int.mul_nonneg (hm.co (0 - 1 + 1) (by omega)).1.1.2.1 (show (0 : Int) ≤ x1 by omega)
      omega
  · have e1 : j - 1 + 1 = j := by omega
    refine ⟨by omega, ?_, fun k hk => ?_, ?_, ?_⟩
    · rw [himpl]
      congr 1
      split <;> omega
    · unfold spec_imPiece.f
      exact imPiece_l l x0 x1 hm hx.1 j hj hpos hqj hltj (j - 1) k 0 (by omega) (by omega)
    · exact Int.le_of_lt (hltj (j - 1) (by omega))
    · rw [e1]
      omega
def onT (p q : Pt) (x0 x1 : Int) : Tri :=
  if (subT x0 x1 p.f0.f0 p.f0.f1).2.2 = true then
    if (mulT (subT x0 x1 p.f0.f0 p.f0.f1).1 (subT x0 x1 p.f0.f0 p.f0.f1).2.1 (slT p q).1 (slT p q).2.1).2.2 = true then
      addT p.f1.f0 p.f1.f1 (mulT (subT x0 x1 p.f0.f0 p.f0.f1).1 (subT x0 x1 p.f0.f0 p.f0.f1).2.1 (slT p q).1 (slT p q).2.1).1 (mulT (subT x0 x1 p.f0.f0 p.f0.f1).1 (subT x0 x1 p.f0.f0 p.f0.f1).2.1 (slT p q).1 (slT p q).2.1).2.1
    else (0, 0, false)
  else (0, 0, false)
theorem onT_ok {p q : Pt} {x0 x1 : Int} (h : (onT p q x0 x1).2.2 = true) : OkR (onT p q x0 x1).1 (onT p q x0 x1).2.1 := by
  unfold onT at h ⊢
  split at h
  · rename_i h1
    rw [if_pos h1]
    split at h
    · rename_i h2
      rw [if_pos h2]
      exact addT_ok _ _ _ _ h
    · cases h
  · cases h
theorem imOn_eq {p q : Pt} (h : Seg p q) {x0 x1 : Int} (hx : OkR x0 x1) (k : Nat) (hk : 300 ≤ k) : spec_imOn.f k p.f0.f0 p.f0.f1 p.f1.f0 p.f1.f1 q.f0.f0 q.f0.f1 q.f1.f0 q.f1.f1 x0 x1 = some (onT p q x0 x1) := by
  unfold spec_imOn.f onT
  rw [raSub_eq hx h.cp.1.1.1 k hk, Option.bind_some, imSlope_eq h k hk, Option.bind_some]
  have hsl := (seg_slope h).2
  cases hf : (subT x0 x1 p.f0.f0 p.f0.f1).2.2 with
  | true =>
    have hfo := subT_ok _ _ _ _ hf
    rw [raMul_eq hfo hsl k hk, Option.bind_some, if_pos rfl, if_pos rfl]
    cases hu : (mulT (subT x0 x1 p.f0.f0 p.f0.f1).1 (subT x0 x1 p.f0.f0 p.f0.f1).2.1 (slT p q).1 (slT p q).2.1).2.2 with
    | true =>
      rw [if_pos rfl, if_pos rfl, raAdd_eq h.cp.2.1.1 (mulT_ok _ _ _ _ hu) k hk, Option.bind_some]
    | false => rw [if_neg (by decide), if_neg (by decide)]
  | false =>
    have e : subT x0 x1 p.f0.f0 p.f0.f1 = (0, 0, false) := mk_bad _ _ hf
    rw [e]
    unfold spec_raMul.f
    rw [Int.zero_mul, Int.zero_mul, wr 0 (by omega), raMake_zero]
    rfl
theorem line_eq {p q : Pt} (h : Seg p q) {x0 x1 : Int} (hx : OkR x0 x1) (s : Bool) (k : Nat) (hk : 300 ≤ k) : ∃ v, impl_calc_line.f k s p.f0.f0 p.f0.f1 p.f1.f0 p.f1.f1 (slT p q).1 (slT p q).2.1 x0 x1 = some v ∧ Rel s v (onT p q x0 x1) := by
  unfold impl_calc_line.f onT
  have hsl := (seg_slope h).2
  have r1 : Rel s (kp s (subT x0 x1 p.f0.f0 p.f0.f1)) (subT x0 x1 p.f0.f0 p.f0.f1) := rel_kp (subT_ok _ _ _ _)
  rw [calc_sub hx h.cp.1.1.1 k s hk, Option.bind_some]
  generalize kp s (subT x0 x1 p.f0.f0 p.f0.f1) = v1 at r1 ⊢
  generalize subT x0 x1 p.f0.f0 p.f0.f1 = m1 at r1 ⊢
  rw [calc_mul hsl r1.ok k v1.2.2 hk, Option.bind_some]
  have r2 : Rel v1.2.2 (kp v1.2.2 (mulT (slT p q).1 (slT p q).2.1 v1.1 v1.2.1)) (mulT (slT p q).1 (slT p q).2.1 v1.1 v1.2.1) := rel_kp (mulT_ok _ _ _ _)
  have ec : mulT (slT p q).1 (slT p q).2.1 v1.1 v1.2.1 = mulT v1.1 v1.2.1 (slT p q).1 (slT p q).2.1 := by
    unfold mulT
    rw [Int.mul_comm (slT p q).1, Int.mul_comm (slT p q).2.1]
  generalize kp v1.2.2 (mulT (slT p q).1 (slT p q).2.1 v1.1 v1.2.1) = v2 at r2 ⊢
  rw [ec] at r2
  rw [calc_add h.cp.2.1.1 r2.ok k v2.2.2 hk, Option.bind_some]
  have r3 : Rel v2.2.2 (kp v2.2.2 (addT p.f1.f0 p.f1.f1 v2.1 v2.2.1)) (addT p.f1.f0 p.f1.f1 v2.1 v2.2.1) := rel_kp (addT_ok _ _ _ _)
  generalize kp v2.2.2 (addT p.f1.f0 p.f1.f1 v2.1 v2.2.1) = v3 at r3 ⊢
  refine ⟨_, rfl, r3.ok, ?_, ?_⟩
  · show v3.2.2 = _
    rw [r3.bad, r2.bad, r1.bad]
    cases hm1 : m1.2.2 with
    | false => simp
    | true =>
      obtain ⟨e1, e2⟩ := r1.val hm1
      rw [if_pos rfl, e1, e2]
      rw [e1, e2] at r2
      cases hm2 : (mulT m1.1 m1.2.1 (slT p q).1 (slT p q).2.1).2.2 with
      | false => simp
      | true =>
        obtain ⟨e3, e4⟩ := r2.val hm2
        rw [if_pos rfl, e3, e4]
        simp
  · intro hok
    show v3.1 = _ ∧ v3.2.1 = _
    split at hok
    · rename_i hm1
      obtain ⟨e1, e2⟩ := r1.val hm1
      rw [e1, e2] at r2
      rw [if_pos hm1]
      split at hok
      · rename_i hm2
        obtain ⟨e3, e4⟩ := r2.val hm2
        rw [e3, e4] at r3
        rw [if_pos hm2]
        exact r3.val hok
      · cases hok
    · cases hok
def atT (l : List Pt) (x0 x1 : Int) : Tri := onT (np l (pc l x0 x1)) (np l (pc l x0 x1 + 1)) x0 x1
theorem imAt_eq {l : List Pt} (hm : IsMap l) {x0 x1 : Int} (hx : OkU x0 x1) (k : Nat) (hk : 300 ≤ k) : spec_imAt.f k l x0 x1 = some (atT l x0 x1) := by
  obtain ⟨h1, _, h3, _⟩ := piece_eq l x0 x1 hm hx
  have hmost := hm.most
  unfold spec_imAt.f atT
  rw [h3 k (by omega), Option.bind_some, wr (_ + 1) (by omega), if_pos (by omega), if_pos (by omega), if_pos (by omega), if_pos (by omega), show ((pc l x0 x1 : Nat) : Int) + 1 = ((pc l x0 x1 + 1 : Nat) : Int) by omega, rd_np, rd_np, imOn_eq (hm.seg _ h1) hx.1 k hk, Option.bind_some]
theorem value_eq {l : List Pt} (hm : IsMap l) {x0 x1 : Int} (hx : OkU x0 x1) (s : Bool) (k : Nat) (hk : 300 ≤ k) : ∃ v, impl_calc_value.f k s l x0 x1 = some v ∧ Rel s v (atT l x0 x1) := by
  obtain ⟨h1, h2, _, _⟩ := piece_eq l x0 x1 hm hx
  have hmost := hm.most
  unfold impl_calc_value.f atT
  rw [h2, Option.bind_some, wr (_ + 1) (by omega), if_pos (by omega), if_pos (by omega), if_pos (by omega), if_pos (by omega), show ((pc l x0 x1 : Nat) : Int) + 1 = ((pc l x0 x1 + 1 : Nat) : Int) by omega, rd_np, rd_np, slope_eq (hm.seg _ h1) s k hk, Option.bind_some]
  obtain ⟨v, e, r⟩ := line_eq (hm.seg _ h1) hx.1 s k hk
  exact ⟨v, by rw [e]; rfl, r⟩
def Units (l : List Ra) : Prop := ∀ x ∈ l, OkU x.f0 x.f1
instance (l : List Ra) : Decidable (Units l) := by unfold Units; infer_instance
def Pseudo (l : List Ra) : Prop := 1 ≤ l.length ∧ l.length ≤ 20 ∧ Units l
instance (l : List Ra) : Decidable (Pseudo l) := by unfold Pseudo; infer_instance
end Go.Proofs.Ytlggehdfigkliaa.Pu
set_option linter.unusedVariables false
set_option linter.unusedSimpArgs false
namespace Go.Proofs.Ytlggehdfigkliaa.Pu
open Go.RowKit Go.Proofs.Ytlggehdfigkliaa.Q Go.Proofs.YtlggehdfigkliaaW.PrintWords Go.Proofs.YtlggehdfigkliaaW.PrintLast Go.Proofs.YtlggehdfigkliaaW.PrintMore
def rq (n d : Int) : Rat := (n : Rat) / (d : Rat)
theorem rq_cross {a b c d : Int} (hb : b ≠ 0) (hd : d ≠ 0) (h : a * d = c * b) : rq a b = rq c d := by
  unfold rq
  have hb' : (b : Rat) ≠ 0 := by simpa using hb
  have hd' : (d : Rat) ≠ 0 := by simpa using hd
  have h' : (a : Rat) * (d : Rat) = (c : Rat) * (b : Rat) := by
    rw [← Rat.intCast_mul, ← Rat.intCast_mul, h]
  grind
theorem sg_dvd (n d : Int) : sg n d ∣ n ∧ sg n d ∣ d := by
  unfold sg
  split
  · exact ⟨Int.neg_dvd.2 (Int.gcd_dvd_left _ _), Int.neg_dvd.2 (Int.gcd_dvd_right _ _)⟩
  · exact ⟨Int.gcd_dvd_left _ _, Int.gcd_dvd_right _ _⟩
theorem sg_ne (n d : Int) (hd : d ≠ 0) : sg n d ≠ 0 := by
  have := gcd_pos n d hd
  unfold sg
  split <;> omega
theorem mk_rq (n d : Int) (hd : d ≠ 0) (h : (mk n d).2.2 = true) : rq (mk n d).1 (mk n d).2.1 = rq n d := by
  have hok := mk_ok n d h
  have hp := hok.1
  unfold mk at h hp ⊢
  split at h
  · rename_i h1
    rw [if_pos h1] at hp ⊢
    obtain ⟨⟨x, hx⟩, ⟨y, hy⟩⟩ := sg_dvd n d
    have hs := sg_ne n d hd
    have ex : n.tdiv (sg n d) = x := by
      conv => lhs; lhs; rw [hx]
      exact Int.mul_tdiv_cancel_left _ hs
    have ey : d.tdiv (sg n d) = y := by
      conv => lhs; lhs; rw [hy]
      exact Int.mul_tdiv_cancel_left _ hs
    refine rq_cross (by omega) hd ?_
    show n.tdiv (sg n d) * d = n * d.tdiv (sg n d)
    rw [ex, ey]
    generalize sg n d = g at *
    rw [hx, hy]
    rw [Int.mul_comm x (g * y), Int.mul_assoc, Int.mul_assoc, Int.mul_comm y x]
  · cases h
theorem rq_pos {d : Int} (hd : 0 < d) : (d : Rat) ≠ 0 := by
  have : d ≠ 0 := by omega
  simpa using this
theorem rq_add {a b c d : Int} (hb : b ≠ 0) (hd : d ≠ 0) : rq (a * d + c * b) (b * d) = rq a b + rq c d := by
  unfold rq
  have hb' : (b : Rat) ≠ 0 := by simpa using hb
  have hd' : (d : Rat) ≠ 0 := by simpa using hd
  rw [Rat.intCast_add, Rat.intCast_mul, Rat.intCast_mul, Rat.intCast_mul]
  grind
theorem rq_sub {a b c d : Int} (hb : b ≠ 0) (hd : d ≠ 0) : rq (a * d - c * b) (b * d) = rq a b - rq c d := by
  unfold rq
  have hb' : (b : Rat) ≠ 0 := by simpa using hb
  have hd' : (d : Rat) ≠ 0 := by simpa using hd
  rw [Rat.intCast_sub, Rat.intCast_mul, Rat.intCast_mul, Rat.intCast_mul]
  grind
theorem rq_mul {a b c d : Int} (hb : b ≠ 0) (hd : d ≠ 0) : rq (a * c) (b * d) = rq a b * rq c d := by
  unfold rq
  have hb' : (b : Rat) ≠ 0 := by simpa using hb
  have hd' : (d : Rat) ≠ 0 := by simpa using hd
  rw [Rat.intCast_mul, Rat.intCast_mul]
  grind
theorem rq_div {a b c d : Int} (hb : b ≠ 0) (hd : d ≠ 0) (hc : c ≠ 0) : rq (a * d) (b * c) = rq a b / rq c d := by
  unfold rq
  have hb' : (b : Rat) ≠ 0 := by simpa using hb
  have hd' : (d : Rat) ≠ 0 := by simpa using hd
  have hc' : (c : Rat) ≠ 0 := by simpa using hc
  rw [Rat.intCast_mul, Rat.intCast_mul]
  grind
theorem inv_nn {r : Rat} (h : 0 < r) : 0 ≤ r⁻¹ := by
  by_cases hn : 0 ≤ r⁻¹
  · exact hn
  · have h1 : 0 ≤ -r⁻¹ := by grind
    have h2 := Rat.mul_nonneg (Rat.le_of_lt h) h1
    have h3 : r ≠ 0 := by grind
    have h4 : r * r⁻¹ = 1 := Rat.mul_inv_cancel r h3
    grind
theorem cast_pos {d : Int} (hd : 0 < d) : (0 : Rat) < (d : Rat) := by
  have h1 : (0 : Rat) ≤ (d : Rat) := Rat.intCast_nonneg.2 (by omega)
  have h2 : (d : Rat) ≠ 0 := rq_pos hd
  grind
theorem rq_nn {n d : Int} (hn : 0 ≤ n) (hd : 0 < d) : 0 ≤ rq n d := by
  unfold rq
  rw [Rat.div_def]
  exact Rat.mul_nonneg (Rat.intCast_nonneg.2 hn) (inv_nn (cast_pos hd))
theorem nn_rq {n d : Int} (hd : 0 < d) (h : 0 ≤ rq n d) : 0 ≤ n := by
  have h1 := Rat.mul_nonneg h (Rat.le_of_lt (cast_pos hd))
  have h2 : rq n d * (d : Rat) = (n : Rat) := by
    unfold rq
    have := rq_pos hd
    grind
  rw [h2] at h1
  exact Rat.intCast_nonneg.1 h1
theorem le_rq {a b c d : Int} (hb : 0 < b) (hd : 0 < d) (h : a * d ≤ c * b) : rq a b ≤ rq c d := by
  have h1 := rq_nn (show 0 ≤ c * b - a * d by omega) (Int.mul_pos hd hb)
  rw [rq_sub (by omega) (by omega)] at h1
  grind
theorem le_one {n d : Int} (hd : 0 < d) (h : rq n d ≤ 1) : n ≤ d := by
  have h1 : rq (d - n) d = 1 - rq n d := by
    unfold rq
    have := rq_pos hd
    rw [Rat.intCast_sub]
    grind
  have h2 := nn_rq (n := d - n) hd (by rw [h1]; grind)
  omega
theorem rq_one {n d : Int} (hd : 0 < d) (h : n ≤ d) : rq n d ≤ 1 := by
  have h1 : rq (d - n) d = 1 - rq n d := by
    unfold rq
    have := rq_pos hd
    rw [Rat.intCast_sub]
    grind
  have h2 := rq_nn (n := d - n) (by omega) hd
  rw [h1] at h2
  grind
theorem between01 (xp xq yp yq x : Rat) (h1 : xp ≤ x) (h2 : x ≤ xq) (h3 : xp < xq) (a1 : 0 ≤ yp) (a2 : yp ≤ 1) (b1 : 0 ≤ yq) (b2 : yq ≤ 1) :
    0 ≤ yp + (x - xp) * ((yq - yp) / (xq - xp)) ∧ yp + (x - xp) * ((yq - yp) / (xq - xp)) ≤ 1 := by
  have hp : 0 < xq - xp := by grind
  have hi := inv_nn hp
  have hc : (xq - xp) * (xq - xp)⁻¹ = 1 := Rat.mul_inv_cancel _ (by grind)
  rw [Rat.div_def]
  generalize (xq - xp)⁻¹ = i at *
  have ht0 : 0 ≤ (x - xp) * i := Rat.mul_nonneg (by grind) hi
  have ht1 : 0 ≤ (xq - x) * i := Rat.mul_nonneg (by grind) hi
  have e : 1 - (x - xp) * i = (xq - x) * i := by grind
  have e2 : yp + (x - xp) * ((yq - yp) * i) = yp * (1 - (x - xp) * i) + yq * ((x - xp) * i) := by grind
  rw [e2]
  generalize (x - xp) * i = t at *
  rw [← e] at ht1
  have m1 := Rat.mul_nonneg a1 ht1
  have m2 := Rat.mul_nonneg b1 ht0
  have m3 := Rat.mul_nonneg (show 0 ≤ 1 - yp by grind) ht1
  have m4 := Rat.mul_nonneg (show 0 ≤ 1 - yq by grind) ht0
  constructor
  · grind
  · grind
theorem onT_unit {p q : Pt} (hs : Seg p q) {x0 x1 : Int} (hx : OkU x0 x1) (h1 : p.f0.f0 * x1 ≤ x0 * p.f0.f1) (h2 : x0 * q.f0.f1 ≤ q.f0.f0 * x1) (hok : (onT p q x0 x1).2.2 = true) : OkU (onT p q x0 x1).1 (onT p q x0 x1).2.1 := by
  have hR := onT_ok hok
  obtain ⟨u1, u2, _, _⟩ := co_sub hs.cq.2 hs.cp.2
  obtain ⟨v1, v2, _, _⟩ := co_sub hs.cq.1 hs.cp.1
  have v5 := sub_ne hs.cq.1.1.1 hs.cp.1.1.1 hs.lt v1
  have pd := hs.cp.1.1.1.1
  have pd2 := hs.cp.2.1.1.1
  have qd := hs.cq.1.1.1.1
  have qd2 := hs.cq.2.1.1.1
  have xd := hx.1.1
  have hsl := seg_slope hs
  have eu : rq (subT q.f1.f0 q.f1.f1 p.f1.f0 p.f1.f1).1 (subT q.f1.f0 q.f1.f1 p.f1.f0 p.f1.f1).2.1 = rq q.f1.f0 q.f1.f1 - rq p.f1.f0 p.f1.f1 := by
    unfold subT at u1 ⊢
    rw [mk_rq _ _ (den_pos hs.cq.2.1.1 hs.cp.2.1.1) u1, rq_sub (by omega) (by omega)]
  have ev : rq (subT q.f0.f0 q.f0.f1 p.f0.f0 p.f0.f1).1 (subT q.f0.f0 q.f0.f1 p.f0.f0 p.f0.f1).2.1 = rq q.f0.f0 q.f0.f1 - rq p.f0.f0 p.f0.f1 := by
    unfold subT at v1 ⊢
    rw [mk_rq _ _ (den_pos hs.cq.1.1.1 hs.cp.1.1.1) v1, rq_sub (by omega) (by omega)]
  have es : rq (slT p q).1 (slT p q).2.1 = (rq q.f1.f0 q.f1.f1 - rq p.f1.f0 p.f1.f1) / (rq q.f0.f0 q.f0.f1 - rq p.f0.f0 p.f0.f1) := by
    have hk := hsl.1
    rw [← eu, ← ev]
    unfold slT divT at hk ⊢
    rw [if_neg v5] at hk ⊢
    have w1 := u2.1
    have w2 := v2.1
    rw [mk_rq _ _ (Int.mul_ne_zero (by omega) v5) hk, rq_div (by omega) (by omega) v5]
  unfold onT at hok hR ⊢
  split at hok
  · rename_i hf
    rw [if_pos hf] at hR ⊢
    split at hok
    · rename_i hm
      rw [if_pos hm] at hR ⊢
      have hfo := subT_ok _ _ _ _ hf
      have hmo := mulT_ok _ _ _ _ hm
      have ef : rq (subT x0 x1 p.f0.f0 p.f0.f1).1 (subT x0 x1 p.f0.f0 p.f0.f1).2.1 = rq x0 x1 - rq p.f0.f0 p.f0.f1 := by
        unfold subT at hf ⊢
        rw [mk_rq _ _ (den_pos hx.1 hs.cp.1.1.1) hf, rq_sub (by omega) (by omega)]
      generalize hfar : subT x0 x1 p.f0.f0 p.f0.f1 = far at *
      generalize hsll : slT p q = sl at *
      have em : rq (mulT far.1 far.2.1 sl.1 sl.2.1).1 (mulT far.1 far.2.1 sl.1 sl.2.1).2.1 = rq far.1 far.2.1 * rq sl.1 sl.2.1 := by
        have w1 := hfo.1
        have w2 := hsl.2.1
        unfold mulT at hm ⊢
        rw [mk_rq _ _ (den_pos hfo hsl.2) hm, rq_mul (by omega) (by omega)]
      generalize hmul : mulT far.1 far.2.1 sl.1 sl.2.1 = mu at *
      have ea : rq (addT p.f1.f0 p.f1.f1 mu.1 mu.2.1).1 (addT p.f1.f0 p.f1.f1 mu.1 mu.2.1).2.1 = rq p.f1.f0 p.f1.f1 + rq mu.1 mu.2.1 := by
        have w1 := hmo.1
        unfold addT at hok ⊢
        rw [mk_rq _ _ (den_pos hs.cp.2.1.1 hmo) hok, rq_add (by omega) (by omega)]
      rw [em, ef, es] at ea
      have hxx : rq p.f0.f0 p.f0.f1 < rq q.f0.f0 q.f0.f1 := by
        have g1 := rq_nn (n := (subT q.f0.f0 q.f0.f1 p.f0.f0 p.f0.f1).1) (d := (subT q.f0.f0 q.f0.f1 p.f0.f0 p.f0.f1).2.1)
        have g2 : rq p.f0.f0 p.f0.f1 ≤ rq q.f0.f0 q.f0.f1 := le_rq (by omega) (by omega) (Int.le_of_lt hs.lt)
        have g3 : rq p.f0.f0 p.f0.f1 ≠ rq q.f0.f0 q.f0.f1 := by
          intro hh
          have g4 : rq (subT q.f0.f0 q.f0.f1 p.f0.f0 p.f0.f1).1 (subT q.f0.f0 q.f0.f1 p.f0.f0 p.f0.f1).2.1 = 0 := by rw [ev, hh]; grind
          have g5 := rq_pos (show 0 < (subT q.f0.f0 q.f0.f1 p.f0.f0 p.f0.f1).2.1 by have := v2.1; omega)
          have g6 : ((subT q.f0.f0 q.f0.f1 p.f0.f0 p.f0.f1).1 : Rat) ≠ 0 := by simpa using v5
          unfold rq at g4
          grind
        grind
      have hb := between01 (rq p.f0.f0 p.f0.f1) (rq q.f0.f0 q.f0.f1) (rq p.f1.f0 p.f1.f1) (rq q.f1.f0 q.f1.f1) (rq x0 x1)
        (le_rq (by omega) (by omega) h1) (le_rq (by omega) (by omega) h2) hxx
        (rq_nn hs.cp.2.1.2.1 (by omega)) (rq_one (by omega) hs.cp.2.1.2.2) (rq_nn hs.cq.2.1.2.1 (by omega)) (rq_one (by omega) hs.cq.2.1.2.2)
      rw [← ea] at hb
      have hp := hR.1
      exact ⟨hR, nn_rq (by omega) hb.1, le_one (by omega) hb.2⟩
    · cases hok
  · cases hok
theorem atT_unit {l : List Pt} (hm : IsMap l) {x0 x1 : Int} (hx : OkU x0 x1) (hok : (atT l x0 x1).2.2 = true) : OkU (atT l x0 x1).1 (atT l x0 x1).2.1 := by
  obtain ⟨h1, _, _, h2, h3⟩ := piece_eq l x0 x1 hm hx
  exact onT_unit (hm.seg _ h1) hx h2 h3 hok
end Go.Proofs.Ytlggehdfigkliaa.Pu
set_option linter.unusedVariables false
set_option linter.unusedSimpArgs false
namespace Go.Proofs.Ytlggehdfigkliaa.Pu
open Go.RowKit Go.Proofs.Ytlggehdfigkliaa.Q Go.Proofs.YtlggehdfigkliaaW.PrintWords Go.Proofs.YtlggehdfigkliaaW.PrintLast Go.Proofs.YtlggehdfigkliaaW.PrintMore
theorem compare_eq {a b c d : Int} (h1 : Bd a b) (h2 : Bd c d) : ∃ t, impl_compare.f a b c d = some t ∧ (t < 0 ↔ a * d < c * b) := by
  obtain ⟨m1, m2, _⟩ := cross_bd h1 h2
  unfold impl_compare.f
  generalize a * d = p at *
  generalize c * b = q at *
  rw [wr p (by omega), wr q (by omega)]
  by_cases h : p < q
  · rw [if_pos h]; exact ⟨-1, rfl, by omega⟩
  · rw [if_neg h]
    by_cases h3 : p > q
    · rw [if_pos h3]; exact ⟨1, rfl, by omega⟩
    · rw [if_neg h3]; exact ⟨0, rfl, by omega⟩
end Go.Proofs.Ytlggehdfigkliaa.Pu
set_option linter.unusedVariables false
set_option linter.unusedSimpArgs false
namespace Go.Proofs.Ytlggehdfigkliaa.Pu
open Go.RowKit Go.Proofs.Ytlggehdfigkliaa.Q Go.Proofs.YtlggehdfigkliaaW.PrintWords Go.Proofs.YtlggehdfigkliaaW.PrintLast Go.Proofs.YtlggehdfigkliaaW.PrintMore
theorem nr_last (l : List Ra) (x : Ra) : nr (l ++ [x]) ((l ++ [x]).length - 1) = x := by
  unfold nr
  simp
def retL (o : Option (List Ra)) : List Ra × Bool := match o with | some l => (l, true) | none => ([], false)
theorem value_ok {l : List Pt} (hm : IsMap l) {x0 x1 : Int} (hx : OkU x0 x1) (k : Nat) (hk : 300 ≤ k) : ∃ v, impl_calc_value.f k false l x0 x1 = some v ∧ v.2.2 = !(atT l x0 x1).2.2 ∧ ((atT l x0 x1).2.2 = true → v.1 = (atT l x0 x1).1 ∧ v.2.1 = (atT l x0 x1).2.1) := by
  obtain ⟨v, e, r⟩ := value_eq hm hx false k hk
  refine ⟨v, e, ?_, r.val⟩
  rw [r.bad]
  rfl
def orbL (f : List Pt) : Nat → Ra → List Ra → List Ra
  | 0, _, out => out
  | n + 1, x, out => if (atT f x.f0 x.f1).2.2 = true then orbL f n ⟨(atT f x.f0 x.f1).1, (atT f x.f0 x.f1).2.1⟩ (out ++ [⟨(atT f x.f0 x.f1).1, (atT f x.f0 x.f1).2.1⟩]) else out
theorem orbL_len (f : List Pt) : ∀ n x out, (orbL f n x out).length ≤ out.length + n := by
  intro n
  induction n with
  | zero => intro x out; exact Nat.le_refl _
  | succ n ih =>
    intro x out
    unfold orbL
    split
    · refine Nat.le_trans (ih _ _) ?_
      simp
      omega
    · omega
theorem orbL_unit {f : List Pt} (hm : IsMap f) : ∀ n x out, OkU x.f0 x.f1 → Units out → Units (orbL f n x out) := by
  intro n
  induction n with
  | zero => intro x out _ h; exact h
  | succ n ih =>
    intro x out hx h
    unfold orbL
    split
    · rename_i ha
      have hu := atT_unit hm hx ha
      refine ih _ _ hu (fun y hy => ?_)
      rcases List.mem_append.1 hy with hy | hy
      · exact h y hy
      · rw [List.mem_singleton.1 hy]; exact hu
    · exact h
theorem impl_orbit_l (f : List Pt) (hm : IsMap f) (s : Nat) (hs : s ≤ 1000) : ∀ (n k i : Nat) (x : Ra) (out : List Ra), OkU x.f0 x.f1 → i + n = s → out.length ≤ i + 1 → 400 + n < k →
    impl_orbit.l0 k f out (s : Int) (i : Int) x.f0 x.f1 false = some (orbL f n x out) := by
  intro n
  induction n with
  | zero =>
    intro k i x out hx hi ho hk
    obtain ⟨k, rfl⟩ : ∃ m, k = m + 1 := ⟨k - 1, by omega⟩
    simp only [impl_orbit.l0]
    rw [if_neg (by omega)]
    rfl
  | succ n ih =>
    intro k i x out hx hi ho hk
    obtain ⟨k, rfl⟩ : ∃ m, k = m + 1 := ⟨k - 1, by omega⟩
    simp only [impl_orbit.l0]
    obtain ⟨v, e, r1, r2⟩ := value_ok hm hx k (by omega)
    rw [if_pos (by omega), e, Option.bind_some]
    unfold orbL
    cases ha : (atT f x.f0 x.f1).2.2 with
    | false => rw [r1, ha, if_pos (by rfl), if_neg (by decide)]
    | true =>
      have hu := atT_unit hm hx ha
      obtain ⟨e1, e2⟩ := r2 ha
      rw [r1, ha, if_neg (by decide), if_pos rfl, e1, e2, if_pos (by omega), wr _ (by omega), show (i : Int) + 1 = ((i + 1 : Nat) : Int) by omega]
      exact ih k (i + 1) ⟨_, _⟩ _ hu (by omega) (by simp; omega) (by omega)
theorem spec_orbit_l (f : List Pt) (hm : IsMap f) (s : Nat) (hs : s ≤ 1000) : ∀ (n k : Nat) (x : Ra) (out : List Ra), OkU x.f0 x.f1 → out.length + n = s + 1 → 1 ≤ out.length → nr out (out.length - 1) = x → 400 + n < k →
    spec_orRun.l0 k f (s : Int) out = some (orbL f n x out) := by
  intro n
  induction n with
  | zero =>
    intro k x out hx hi ho hl hk
    obtain ⟨k, rfl⟩ : ∃ m, k = m + 1 := ⟨k - 1, by omega⟩
    simp only [spec_orRun.l0]
    rw [if_neg (by omega)]
    rfl
  | succ n ih =>
    intro k x out hx hi ho hl hk
    obtain ⟨k, rfl⟩ : ∃ m, k = m + 1 := ⟨k - 1, by omega⟩
    simp only [spec_orRun.l0]
    rw [if_pos (by omega), wr _ (by omega), if_pos (by omega), if_pos (by omega), show (out.length : Int) - 1 = ((out.length - 1 : Nat) : Int) by omega, rd_nr, hl, imAt_eq hm hx k (by omega), Option.bind_some]
    unfold orbL
    cases ha : (atT f x.f0 x.f1).2.2 with
    | false => rw [if_neg (by decide), if_neg (by decide)]
    | true =>
      have hu := atT_unit hm hx ha
      rw [if_pos rfl, if_pos rfl, if_pos (by omega)]
      exact ih k ⟨_, _⟩ _ hu (by simp; omega) (by simp) (nr_last _ _) (by omega)
end Go.Proofs.Ytlggehdfigkliaa.Pu
set_option linter.unusedVariables false
set_option linter.unusedSimpArgs false
namespace Go.Proofs.Ytlggehdfigkliaa.Pu
open Go.RowKit Go.Proofs.Ytlggehdfigkliaa.Q Go.Proofs.YtlggehdfigkliaaW.PrintWords Go.Proofs.YtlggehdfigkliaaW.PrintLast Go.Proofs.YtlggehdfigkliaaW.PrintMore
theorem w64 (x : Int) (h : -9223372036854775808 ≤ x ∧ x ≤ 9223372036854775807) : wrap64 x = x := by unfold wrap64; omega
theorem rd_nat (l : List Int) (i : Nat) : rd l (i : Int) = l.getD i 0 := by simp [rd]
theorem getD_set (l : List Int) (i j : Nat) (v : Int) (hi : i < l.length) : (l.set i v).getD j 0 = if i = j then v else l.getD j 0 := by
  simp only [List.getD_eq_getElem?_getD, List.getElem?_set]
  by_cases e : i = j
  · subst e; simp [hi]
  · simp [e]
theorem ext_getD (a b : List Int) (hl : a.length = b.length) (h : ∀ j, j < a.length → a.getD j 0 = b.getD j 0) : a = b := by
  apply List.ext_getElem hl
  intro j h1 h2
  have := h j h1
  simpa [List.getD_eq_getElem?_getD, h1, h2] using this
theorem eqIntS_l (a b : List Int) (hl : a.length = b.length) (hb : a.length ≤ 9000000000000000000) : ∀ (d k : Nat) (i : Nat), i + d = a.length → (∀ j, j < i → a.getD j 0 = b.getD j 0) → d < k → laws_eqIntS.l0 k a b (i : Int) = some (decide (a = b)) := by
  intro d
  induction d with
  | zero =>
    intro k i hi hj hk
    obtain ⟨k, rfl⟩ : ∃ m, k = m + 1 := ⟨k - 1, by omega⟩
    simp only [laws_eqIntS.l0]
    have e : a = b := ext_getD a b hl (fun j h => hj j (by omega))
    rw [if_neg (by omega), decide_eq_true e]
  | succ d ih =>
    intro k i hi hj hk
    obtain ⟨k, rfl⟩ : ∃ m, k = m + 1 := ⟨k - 1, by omega⟩
    simp only [laws_eqIntS.l0]
    rw [if_pos (by omega), if_pos (by omega), if_pos (by omega), w64 _ (by omega), rd_nat, rd_nat]
    by_cases e : a.getD i 0 = b.getD i 0
    · rw [if_pos e]
      refine ih k (i + 1) (by omega) (fun j h => ?_) (by omega)
      by_cases e2 : j = i
      · rw [e2]; exact e
      · exact hj j (by omega)
    · rw [if_neg e, decide_eq_false (fun h => e (by rw [h]))]
theorem eqIntS (a b : List Int) (hb : a.length ≤ 9000000000000000000) (k : Nat) (hk : a.length < k) : laws_eqIntS.f k a b = some (decide (a = b)) := by
  unfold laws_eqIntS.f
  by_cases hl : a.length = b.length
  · rw [if_pos (by omega)]
    exact eqIntS_l a b hl hb a.length k 0 (by omega) (fun j h => by omega) hk
  · rw [if_neg (by omega), decide_eq_false (fun h => hl (by rw [h]))]
theorem eqIntS_self (a : List Int) (hb : a.length ≤ 9000000000000000000) (k : Nat) (hk : a.length < k) : laws_eqIntS.f k a a = some true := by
  rw [eqIntS a a hb k hk]; simp
def marks (q : Int) : Nat → List Int
  | 0 => []
  | n + 1 => q :: marks (q + 1) n
theorem marks_length (q : Int) (n : Nat) : (marks q n).length = n := by
  induction n generalizing q with
  | zero => rfl
  | succ n ih => simp [marks, ih]
theorem marks_getD (q : Int) (n j : Nat) (h : j < n) : (marks q n).getD j 0 = q + j := by
  induction n generalizing q j with
  | zero => omega
  | succ n ih =>
    cases j with
    | zero => simp [marks]
    | succ j =>
      have := ih (q + 1) j (by omega)
      simp only [marks, List.getD_cons_succ, this]
      omega
theorem markIntS_l (n : Nat) (q : Int) (hq : -4000000000000000000 ≤ q ∧ q ≤ 4000000000000000000) (hb : n ≤ 4000000000000000000) : ∀ (d k : Nat) (x : List Int) (i : Nat), i + d = n → x.length = n → (∀ j, j < i → x.getD j 0 = q + j) → d < k → laws_markIntS.l0 k x (q + i) (i : Int) = some (q + n, marks q n) := by
  intro d
  induction d with
  | zero =>
    intro k x i hi hl hj hk
    obtain ⟨k, rfl⟩ : ∃ m, k = m + 1 := ⟨k - 1, by omega⟩
    simp only [laws_markIntS.l0]
    rw [if_neg (by omega), ext_getD x (marks q n) (by rw [marks_length, hl]) (fun j h => by rw [hj j (by omega), marks_getD _ _ _ (by omega)])]
    rw [show i = n by omega]
  | succ d ih =>
    intro k x i hi hl hj hk
    obtain ⟨k, rfl⟩ : ∃ m, k = m + 1 := ⟨k - 1, by omega⟩
    simp only [laws_markIntS.l0]
    rw [if_pos (by omega), if_pos (by omega), w64 _ (by omega), w64 _ (by omega), Int.toNat_natCast]
    have := ih k (x.set i (q + i)) (i + 1) (by omega) (by simpa using hl) (fun j h => by
      rw [getD_set _ _ _ _ (by omega)]
      split
      · rename_i e; rw [e]
      · exact hj j (by omega)) (by omega)
    rw [show q + ((i + 1 : Nat) : Int) = q + (i : Int) + 1 by omega] at this
    exact this
theorem markIntS (l : List Int) (q : Int) (hq : -4000000000000000000 ≤ q ∧ q ≤ 4000000000000000000) (hb : l.length ≤ 4000000000000000000) (k : Nat) (hk : l.length < k) : laws_markIntS.f k l q = some (q + l.length, marks q l.length) := by
  unfold laws_markIntS.f
  have := markIntS_l l.length q hq hb l.length k l 0 (by omega) rfl (fun j h => by omega) hk
  simpa using this
theorem heldIntS_l (n : Nat) (q : Int) (hq : -4000000000000000000 ≤ q ∧ q ≤ 4000000000000000000) (hb : n ≤ 4000000000000000000) : ∀ (d k : Nat) (i : Nat), i + d = n → d < k → laws_heldIntS.l0 k (marks q n) (q + i) (i : Int) = some (q + n) := by
  intro d
  induction d with
  | zero =>
    intro k i hi hk
    obtain ⟨k, rfl⟩ : ∃ m, k = m + 1 := ⟨k - 1, by omega⟩
    simp only [laws_heldIntS.l0, marks_length]
    rw [if_neg (by omega), show i = n by omega]
  | succ d ih =>
    intro k i hi hk
    obtain ⟨k, rfl⟩ : ∃ m, k = m + 1 := ⟨k - 1, by omega⟩
    simp only [laws_heldIntS.l0, marks_length]
    rw [if_pos (by omega), if_pos (by omega), rd_nat, marks_getD _ _ _ (by omega), if_pos rfl, w64 _ (by omega), w64 _ (by omega)]
    have := ih k (i + 1) (by omega) (by omega)
    rw [show q + ((i + 1 : Nat) : Int) = q + (i : Int) + 1 by omega] at this
    exact this
theorem heldIntS (n : Nat) (q : Int) (hq : -4000000000000000000 ≤ q ∧ q ≤ 4000000000000000000) (hb : n ≤ 4000000000000000000) (k : Nat) (hk : n < k) : laws_heldIntS.f k (marks q n) q = some (q + n) := by
  unfold laws_heldIntS.f
  have := heldIntS_l n q hq hb n k 0 (by omega) hk
  simpa using this
end Go.Proofs.Ytlggehdfigkliaa.Pu
set_option linter.unusedVariables false
set_option linter.unusedSimpArgs false
namespace Go.Proofs.Ytlggehdfigkliaa.Pu
open Go.RowKit Go.Proofs.Ytlggehdfigkliaa.Q Go.Proofs.YtlggehdfigkliaaW.PrintWords Go.Proofs.YtlggehdfigkliaaW.PrintLast Go.Proofs.YtlggehdfigkliaaW.PrintMore
theorem rd_natC (l : List Int) (i : Nat) : rd l (i : Int) = l.getD i 0 := by simp [rd]
theorem mem_getDC (l : List Int) (i : Nat) (h : i < l.length) : l.getD i 0 ∈ l := by
  rw [List.getD_eq_getElem?_getD, List.getElem?_eq_getElem h]
  exact List.getElem_mem h
def ofc (l : List Int) : Nat → Nat → List Int → List Int
  | 0, _, out => out
  | d + 1, i, out => ofc l d (i + 1) (out.set (l.getD i 0).toNat (l.getD ((i + 1) % l.length) 0))
theorem ofc_length (l : List Int) : ∀ d i out, (ofc l d i out).length = out.length := by
  intro d
  induction d with
  | zero => intros; rfl
  | succ d ih => intro i out; simp [ofc, ih]
theorem tmod_nat (a b : Nat) : Int.tmod (a : Int) (b : Int) = ((a % b : Nat) : Int) := by
  rw [Int.tmod_eq_emod_of_nonneg (by omega)]
  exact (Int.natCast_emod a b).symm
theorem ptOf_l (l : List Int) (hr : ∀ x ∈ l, 0 ≤ x ∧ x < (l.length : Int)) (hl : l.length ≤ 9) : ∀ (d k i : Nat) (out : List Int), i + d = l.length → out.length = l.length → d < k →
    spec_ptOf.l0 k l out l (l.length : Int) (i : Int) = some (ofc l d i out) := by
  intro d
  induction d with
  | zero =>
    intro k i out hi ho hk
    obtain ⟨k, rfl⟩ : ∃ m, k = m + 1 := ⟨k - 1, by omega⟩
    simp only [spec_ptOf.l0]
    rw [if_neg (by omega)]
    rfl
  | succ d ih =>
    intro k i out hi ho hk
    obtain ⟨k, rfl⟩ : ∃ m, k = m + 1 := ⟨k - 1, by omega⟩
    have hx := hr _ (mem_getDC l i (by omega))
    simp only [spec_ptOf.l0]
    rw [wr ((i : Int) + 1) (by omega), show (i : Int) + 1 = ((i + 1 : Nat) : Int) by omega, tmod_nat]
    have hm := Nat.mod_lt (i + 1) (show 0 < l.length by omega)
    rw [if_pos (by omega), if_pos (by omega), if_pos (by omega), if_neg (by omega), if_pos (by omega), if_pos (by omega), rd_natC, rd_natC, if_pos (by omega), if_pos (by omega)]
    exact ih k (i + 1) _ (by omega) (by simpa using ho) (by omega)
theorem ptOf (l : List Int) (hr : ∀ x ∈ l, 0 ≤ x ∧ x < (l.length : Int)) (hl : l.length ≤ 9) (k : Nat) (hk : 100 ≤ k) : spec_ptOf.f k l = some (ofc l l.length 0 (List.replicate l.length 0)) := by
  unfold spec_ptOf.f
  rw [if_pos (by omega), if_pos (by omega), Int.toNat_natCast]
  exact ptOf_l l hr hl l.length k 0 _ (by omega) (by simp) (by omega)
theorem ofCycle_l (l : List Int) (hr : ∀ x ∈ l, 0 ≤ x ∧ x < (l.length : Int)) (hl : l.length ≤ 9) : ∀ (d k i : Nat) (out : List Int), i + d = l.length → out.length = l.length → d < k →
    impl_ofCycle.l0 k l out l (l.length : Int) (i : Int) = some (ofc l d i out) := by
  intro d
  induction d with
  | zero =>
    intro k i out hi ho hk
    obtain ⟨k, rfl⟩ : ∃ m, k = m + 1 := ⟨k - 1, by omega⟩
    simp only [impl_ofCycle.l0]
    rw [if_neg (by omega)]
    rfl
  | succ d ih =>
    intro k i out hi ho hk
    obtain ⟨k, rfl⟩ : ∃ m, k = m + 1 := ⟨k - 1, by omega⟩
    have hx := hr _ (mem_getDC l i (by omega))
    simp only [impl_ofCycle.l0]
    rw [wr ((i : Int) + 1) (by omega), show (i : Int) + 1 = ((i + 1 : Nat) : Int) by omega, tmod_nat]
    have hm := Nat.mod_lt (i + 1) (show 0 < l.length by omega)
    rw [if_pos (by omega), if_pos (by omega), if_pos (by omega), if_neg (by omega), if_pos (by omega), if_pos (by omega), rd_natC, rd_natC, if_pos (by omega), if_pos (by omega)]
    exact ih k (i + 1) _ (by omega) (by simpa using ho) (by omega)
theorem ofCycle (l : List Int) (hr : ∀ x ∈ l, 0 ≤ x ∧ x < (l.length : Int)) (hl : l.length ≤ 9) (k : Nat) (hk : 100 ≤ k) : impl_ofCycle.f k l = some (ofc l l.length 0 (List.replicate l.length 0)) := by
  unfold impl_ofCycle.f
  rw [if_pos (by omega), if_pos (by omega), Int.toNat_natCast]
  exact ofCycle_l l hr hl l.length k 0 _ (by omega) (by simp) (by omega)
def Oks2 (l : List Ra) : Prop := ∀ x ∈ l, OkR x.f0 x.f1
def atR (l : List Ra) (y0 y1 : Int) : Nat → Nat → Int
  | 0, _ => -1
  | n + 1, i => if y0 = (nr l i).f0 ∧ y1 = (nr l i).f1 then (i : Int) else atR l y0 y1 n (i + 1)
theorem atR_bd (l : List Ra) (y0 y1 : Int) : ∀ n i, -1 ≤ atR l y0 y1 n i ∧ atR l y0 y1 n i < (i + n : Nat) := by
  intro n
  induction n with
  | zero => intro i; simp only [atR]; omega
  | succ n ih =>
    intro i
    simp only [atR]
    split
    · omega
    · have := ih (i + 1); omega
theorem index_l (l : List Ra) (hl : l.length ≤ 1048576) (y0 y1 : Int) : ∀ (d k i : Nat), i + d = l.length → d < k → impl_Rat_112.l0 k l (l.length : Int) (i : Int) y0 y1 = some (atR l y0 y1 d i) := by
  intro d
  induction d with
  | zero =>
    intro k i hi hk
    obtain ⟨k, rfl⟩ : ∃ m, k = m + 1 := ⟨k - 1, by omega⟩
    simp only [impl_Rat_112.l0]
    rw [if_neg (by omega)]
    rfl
  | succ d ih =>
    intro k i hi hk
    obtain ⟨k, rfl⟩ : ∃ m, k = m + 1 := ⟨k - 1, by omega⟩
    simp only [impl_Rat_112.l0]
    rw [if_pos (by omega), if_pos (by omega), if_pos (by omega), rd_nr, wr _ (by omega), show (i : Int) + 1 = ((i + 1 : Nat) : Int) by omega]
    rw [atR]
    by_cases h : y0 = (nr l i).f0 ∧ y1 = (nr l i).f1
    · rw [if_pos (by simp [h.1, h.2]), if_pos h]
    · rw [if_neg (by simp only [Bool.and_eq_true, beq_iff_eq]; exact h), if_neg h]
      exact ih k (i + 1) (by omega) (by omega)
theorem orAt_l (l : List Ra) (hl : l.length ≤ 1048576) (y0 y1 : Int) : ∀ (d k i : Nat), i + d = l.length → d < k → spec_orAt.l0 k l (l.length : Int) (i : Int) y0 y1 = some (atR l y0 y1 d i) := by
  intro d
  induction d with
  | zero =>
    intro k i hi hk
    obtain ⟨k, rfl⟩ : ∃ m, k = m + 1 := ⟨k - 1, by omega⟩
    simp only [spec_orAt.l0]
    rw [if_neg (by omega)]
    rfl
  | succ d ih =>
    intro k i hi hk
    obtain ⟨k, rfl⟩ : ∃ m, k = m + 1 := ⟨k - 1, by omega⟩
    simp only [spec_orAt.l0]
    rw [if_pos (by omega), if_pos (by omega), if_pos (by omega), rd_nr, wr _ (by omega), show (i : Int) + 1 = ((i + 1 : Nat) : Int) by omega]
    rw [atR]
    by_cases h : y0 = (nr l i).f0 ∧ y1 = (nr l i).f1
    · rw [if_pos (by simp [h.1, h.2]), if_pos h]
    · rw [if_neg (by simp only [Bool.and_eq_true, beq_iff_eq]; exact h), if_neg h]
      exact ih k (i + 1) (by omega) (by omega)
def perL (O : List Ra) : Nat → Nat → Int × Int × Bool
  | 0, _ => (0, 0, false)
  | n + 1, i => if atR (O.take i) (nr O i).f0 (nr O i).f1 i 0 ≥ 0 then (atR (O.take i) (nr O i).f0 (nr O i).f1 i 0, (i : Int) - atR (O.take i) (nr O i).f0 (nr O i).f1 i 0, true) else perL O n (i + 1)
theorem perL_bd (O : List Ra) : ∀ n i, i + n = O.length → 0 ≤ (perL O n i).2.1 ∧ (perL O n i).2.1 ≤ O.length := by
  intro n
  induction n with
  | zero => intro i h; simp only [perL]; omega
  | succ n ih =>
    intro i h
    simp only [perL]
    split
    · have := atR_bd (O.take i) (nr O i).f0 (nr O i).f1 i 0
      dsimp only
      omega
    · exact ih (i + 1) (by omega)
theorem periodIn_l (O : List Ra) (hO : O.length ≤ 1000) : ∀ (d k i : Nat), i + d = O.length → 2000 + d < k → impl_periodIn.l0 k O O (O.length : Int) (i : Int) = some (perL O d i) := by
  intro d
  induction d with
  | zero =>
    intro k i hi hk
    obtain ⟨k, rfl⟩ : ∃ m, k = m + 1 := ⟨k - 1, by omega⟩
    simp only [impl_periodIn.l0]
    rw [if_neg (by omega)]
    rfl
  | succ d ih =>
    intro k i hi hk
    obtain ⟨k, rfl⟩ : ∃ m, k = m + 1 := ⟨k - 1, by omega⟩
    simp only [impl_periodIn.l0]
    have hb := atR_bd (O.take i) (nr O i).f0 (nr O i).f1 i 0
    have hl : (O.take i).length = i := by rw [List.length_take]; omega
    have e := index_l (O.take i) (by omega) (nr O i).f0 (nr O i).f1 i k 0 (by omega) (by omega)
    rw [show ((0 : Nat) : Int) = 0 from rfl] at e
    unfold impl_Rat_112.f
    rw [if_pos (by omega), if_pos (by omega), if_pos (by omega), if_pos (by omega), Int.toNat_natCast, rd_nr, e, Option.bind_some, wr (_ + 1) (by omega), show (i : Int) + 1 = ((i + 1 : Nat) : Int) by omega]
    rw [perL]
    by_cases h : atR (O.take i) (nr O i).f0 (nr O i).f1 i 0 ≥ 0
    · rw [if_pos h, if_pos h, wr _ (by omega)]
    · rw [if_neg h, if_neg h]
      exact ih k (i + 1) (by omega) (by omega)
theorem orPeriod_l (O : List Ra) (hO : O.length ≤ 1000) : ∀ (d k i : Nat), i + d = O.length → 2000 + d < k → spec_orPeriod.l0 k O O (O.length : Int) (i : Int) = some (perL O d i) := by
  intro d
  induction d with
  | zero =>
    intro k i hi hk
    obtain ⟨k, rfl⟩ : ∃ m, k = m + 1 := ⟨k - 1, by omega⟩
    simp only [spec_orPeriod.l0]
    rw [if_neg (by omega)]
    rfl
  | succ d ih =>
    intro k i hi hk
    obtain ⟨k, rfl⟩ : ∃ m, k = m + 1 := ⟨k - 1, by omega⟩
    simp only [spec_orPeriod.l0]
    have hb := atR_bd (O.take i) (nr O i).f0 (nr O i).f1 i 0
    have hl : (O.take i).length = i := by rw [List.length_take]; omega
    have e := orAt_l (O.take i) (by omega) (nr O i).f0 (nr O i).f1 i k 0 (by omega) (by omega)
    rw [show ((0 : Nat) : Int) = 0 from rfl] at e
    unfold spec_orAt.f
    rw [if_pos (by omega), if_pos (by omega), if_pos (by omega), if_pos (by omega), Int.toNat_natCast, rd_nr, e, Option.bind_some, wr (_ + 1) (by omega), show (i : Int) + 1 = ((i + 1 : Nat) : Int) by omega]
    rw [perL]
    by_cases h : atR (O.take i) (nr O i).f0 (nr O i).f1 i 0 ≥ 0
    · rw [if_pos h, if_pos h, wr _ (by omega)]
    · rw [if_neg h, if_neg h]
      exact ih k (i + 1) (by omega) (by omega)
def cycO (f : List Pt) (x : Ra) (n : Int) : Option (List Ra) :=
  if ((orbL f n.toNat x [x]).length : Int) ≤ n then none
  else if (perL (orbL f n.toNat x [x]) (orbL f n.toNat x [x]).length 0).2.2 = true then
    if (perL (orbL f n.toNat x [x]) (orbL f n.toNat x [x]).length 0).1 > 0 then none
    else some ((orbL f n.toNat x [x]).take (perL (orbL f n.toNat x [x]) (orbL f n.toNat x [x]).length 0).2.1.toNat)
  else none
def StartP (f : List Pt) (x : Ra) (n : Int) : Prop := mapB f = true ∧ OkU x.f0 x.f1 ∧ 0 ≤ n ∧ n ≤ 60
theorem isStart_eq (f : List Pt) (hf : f.length ≤ 1048576) (x : Ra) (n : Int) (k : Nat) (hk : 3000 ≤ k) : ∃ b, impl_isStart.f k f x.f0 x.f1 n = some b ∧ (b = true ↔ StartP f x n) := by
  unfold impl_isStart.f impl_within.f StartP
  rw [isMapB f hf k (by omega), Option.bind_some]
  cases hm : mapB f with
  | false => exact ⟨false, by rw [if_neg (by decide)], by simp⟩
  | true =>
    rw [if_pos rfl, isUnit_eq _ _ k (by omega), Option.bind_some]
    by_cases hx : OkU x.f0 x.f1
    · rw [if_pos (decide_eq_true hx)]
      by_cases h0 : 0 ≤ n
      · rw [if_pos h0, Option.bind_some]; exact ⟨_, rfl, by simp [hx, h0]⟩
      · rw [if_neg h0, Option.bind_some]; exact ⟨_, rfl, by simp [h0]⟩
    · rw [if_neg (by simpa using hx)]; exact ⟨_, rfl, by simp [hx]⟩
theorem orAsked_eq (f : List Pt) (hf : f.length ≤ 1048576) (x : Ra) (n : Int) (k : Nat) (hk : 3000 ≤ k) : ∃ b, spec_orAsked.f k f x.f0 x.f1 n = some b ∧ (b = true ↔ StartP f x n) := by
  unfold spec_orAsked.f spec_orSteps.f spec_l1In.f StartP
  rw [imGoodB f hf k (by omega), Option.bind_some]
  cases hm : mapB f with
  | false => exact ⟨false, by rw [if_neg (by decide)], by simp⟩
  | true =>
    rw [if_pos rfl, raUnit_eq _ _ k (by omega), Option.bind_some]
    by_cases hx : OkU x.f0 x.f1
    · rw [if_pos (decide_eq_true hx)]
      by_cases h0 : n ≥ 0
      · rw [if_pos h0, Option.bind_some, Option.bind_some]; exact ⟨_, rfl, by have : 0 ≤ n := h0; simp [hx, this]⟩
      · rw [if_neg h0, Option.bind_some, Option.bind_some]; exact ⟨_, rfl, by have : ¬ 0 ≤ n := h0; simp [this]⟩
    · rw [if_neg (by simpa using hx)]; exact ⟨_, rfl, by simp [hx]⟩
def rkN (l : List Ra) (a : Ra) : Nat := l.countP fun b => decide (Lt b a)
def rkL (l : List Ra) : List Int := l.map fun a => (rkN l a : Int)
theorem rk_range (l : List Ra) : ∀ x ∈ rkL l, 0 ≤ x ∧ x < ((rkL l).length : Int) := by
  intro x hx
  obtain ⟨a, ha, rfl⟩ := List.mem_map.1 hx
  have hlen : (rkL l).length = l.length := by simp [rkL]
  have h1 : rkN l a < l.length := by
    unfold rkN
    have := List.countP_le_length (p := fun b => decide (Lt b a)) (l := l)
    rcases Nat.lt_or_eq_of_le this with h | h
    · exact h
    · have := (List.countP_eq_length.1 h) a ha
      have := of_decide_eq_true this
      unfold Lt at this
      omega
  rw [hlen]
  omega
theorem rank_l1 (l : List Ra) (ou : List Int) (hl : Oks2 l) (h9 : l.length ≤ 1000) (a : Ra) (ha : OkR a.f0 a.f1) (i : Nat) (hi : i < l.length) (ho : ou.length ≤ i) (k : Nat) : ∀ (d j cnt : Nat), j + d = l.length → cnt ≤ j →
    ranks_impl_compare.l1 (k + d + 1) l ou (cnt : Int) l (l.length : Int) (i : Int) l (l.length : Int) (j : Int) a.f0 a.f1 = ranks_impl_compare.l0 k l (ou ++ [((cnt + (l.drop j).countP (fun b => decide (Lt b a)) : Nat) : Int)]) l (l.length : Int) ((i + 1 : Nat) : Int) := by
  intro d
  induction d with
  | zero =>
    intro j cnt hj hc
    simp only [ranks_impl_compare.l1]
    rw [if_neg (by omega), if_pos (by omega), List.drop_of_length_le (by omega), wr _ (by omega), show (i : Int) + 1 = ((i + 1 : Nat) : Int) by omega]
    simp
  | succ d ih =>
    intro j cnt hj hc
    obtain ⟨K, hK⟩ : ∃ K, k + d + 1 = K := ⟨_, rfl⟩
    rw [hK] at ih
    rw [show k + (d + 1) + 1 = K + 1 by omega]
    simp only [ranks_impl_compare.l1]
    have hb := hl _ (nr_mem l j (by omega))
    obtain ⟨t, e, ht⟩ := compare_eq hb.bd ha.bd
    rw [if_pos (by omega), if_pos (by omega), if_pos (by omega), rd_nr, e, Option.bind_some, wr ((cnt : Int) + 1) (by omega), wr ((j : Int) + 1) (by omega), show (j : Int) + 1 = ((j + 1 : Nat) : Int) by omega, drop_getD l j z27 (by omega), List.countP_cons]
    by_cases h : Lt (nr l j) a
    · rw [if_pos (ht.2 h), show (cnt : Int) + 1 = ((cnt + 1 : Nat) : Int) by omega, ih (j + 1) (cnt + 1) (by omega) (by omega), if_pos (show decide (Lt (l.getD j z27) a) = true from decide_eq_true h)]
      congr 4
      omega
    · rw [if_neg (fun hh => h (ht.1 hh)), ih (j + 1) cnt (by omega) (by omega), if_neg (show ¬ decide (Lt (l.getD j z27) a) = true from fun hh => h (of_decide_eq_true hh))]
      rfl
theorem rank_l0 (l : List Ra) (hl : Oks2 l) (h9 : l.length ≤ 1000) : ∀ (d k i : Nat) (ou : List Int), i + d = l.length → ou.length ≤ i → ranks_impl_compare.l0 (k + d * (l.length + 2) + 1) l ou l (l.length : Int) (i : Int) = some (ou ++ (l.drop i).map fun a => (rkN l a : Int)) := by
  intro d
  induction d with
  | zero =>
    intro k i ou hi ho
    simp only [ranks_impl_compare.l0]
    rw [if_neg (by omega), List.drop_of_length_le (by omega)]
    simp
  | succ d ih =>
    intro k i ou hi ho
    rw [show k + (d + 1) * (l.length + 2) + 1 = (k + d * (l.length + 2) + 1 + l.length + 1) + 1 by rw [Nat.succ_mul]; omega]
    simp only [ranks_impl_compare.l0]
    have ha := hl _ (nr_mem l i (by omega))
    rw [if_pos (by omega), if_pos (by omega), if_pos (by omega), rd_nr]
    have := rank_l1 l ou hl h9 (nr l i) ha i (by omega) ho (k + d * (l.length + 2) + 1) l.length 0 0 (by omega) (by omega)
    rw [show ((0 : Nat) : Int) = 0 from rfl, List.drop_zero, Nat.zero_add] at this
    rw [this, ih k (i + 1) _ (by omega) (by simp; omega), drop_getD l i z27 (by omega), List.map_cons]
    simp [rkN, nr]
theorem ranks_eq (l : List Ra) (hl : Oks2 l) (h9 : l.length ≤ 1000) (k : Nat) (hk : 2000000 ≤ k) : ranks_impl_compare.f k l = some (rkL l) := by
  unfold ranks_impl_compare.f
  have hm : l.length * (l.length + 2) ≤ 1000 * 1002 := Nat.mul_le_mul h9 (by omega)
  have := rank_l0 l hl h9 l.length (k - l.length * (l.length + 2) - 1) 0 [] (by omega) (by simp)
  rw [show k - l.length * (l.length + 2) - 1 + l.length * (l.length + 2) + 1 = k by omega] at this
  simpa [rkL] using this
theorem patternOf_eq (l : List Ra) (hl : Oks2 l) (h9 : l.length ≤ 9) (k : Nat) (hk : 2000000 ≤ k) : impl_patternOf.f k l = some (ofc (rkL l) (rkL l).length 0 (List.replicate (rkL l).length 0)) := by
  unfold impl_patternOf.f
  have hlen : (rkL l).length = l.length := by simp [rkL]
  rw [ranks_eq l hl (by omega) k hk, Option.bind_some, ofCycle (rkL l) (rk_range l) (by omega) k (by omega)]
  rfl
theorem srank_l1 (l : List Ra) (ou : List Int) (hl : Oks2 l) (h9 : l.length ≤ 1000) (a : Ra) (ha : OkR a.f0 a.f1) (i : Nat) (hi : i < l.length) (ho : ou.length ≤ i) (k : Nat) : ∀ (d j cnt : Nat), j + d = l.length → cnt ≤ j →
    spec_CyclePattern.l1 (k + d + 1) l ou (cnt : Int) l (l.length : Int) (i : Int) l (l.length : Int) (j : Int) a.f0 a.f1 = spec_CyclePattern.l0 k l (ou ++ [((cnt + (l.drop j).countP (fun b => decide (Lt b a)) : Nat) : Int)]) l (l.length : Int) ((i + 1 : Nat) : Int) := by
  intro d
  induction d with
  | zero =>
    intro j cnt hj hc
    simp only [spec_CyclePattern.l1]
    rw [if_neg (by omega), if_pos (by omega), List.drop_of_length_le (by omega), wr _ (by omega), show (i : Int) + 1 = ((i + 1 : Nat) : Int) by omega]
    simp
  | succ d ih =>
    intro j cnt hj hc
    obtain ⟨K, hK⟩ : ∃ K, k + d + 1 = K := ⟨_, rfl⟩
    rw [hK] at ih
    rw [show k + (d + 1) + 1 = K + 1 by omega]
    simp only [spec_CyclePattern.l1]
    have hb := hl _ (nr_mem l j (by omega))
    obtain ⟨t, e, ht, _⟩ := raCmp_eq hb.bd ha.bd
    rw [if_pos (by omega), if_pos (by omega), if_pos (by omega), rd_nr, e, Option.bind_some, wr ((cnt : Int) + 1) (by omega), wr ((j : Int) + 1) (by omega), show (j : Int) + 1 = ((j + 1 : Nat) : Int) by omega, drop_getD l j z27 (by omega), List.countP_cons]
    by_cases h : Lt (nr l j) a
    · rw [if_pos (ht.2 h), show (cnt : Int) + 1 = ((cnt + 1 : Nat) : Int) by omega, ih (j + 1) (cnt + 1) (by omega) (by omega), if_pos (show decide (Lt (l.getD j z27) a) = true from decide_eq_true h)]
      congr 4
      omega
    · rw [if_neg (fun hh => h (ht.1 hh)), ih (j + 1) cnt (by omega) (by omega), if_neg (show ¬ decide (Lt (l.getD j z27) a) = true from fun hh => h (of_decide_eq_true hh))]
      rfl
theorem srank_l0 (l : List Ra) (hl : Oks2 l) (h9 : l.length ≤ 1000) : ∀ (d k i : Nat) (ou : List Int), i + d = l.length → ou.length ≤ i → spec_CyclePattern.l0 (k + d * (l.length + 2) + 1) l ou l (l.length : Int) (i : Int) = (spec_ptOf.f k (ou ++ (l.drop i).map fun a => (rkN l a : Int))).bind fun t => some (t, true) := by
  intro d
  induction d with
  | zero =>
    intro k i ou hi ho
    rw [Nat.zero_mul, Nat.add_zero]
    simp only [spec_CyclePattern.l0]
    rw [if_neg (by omega), List.drop_of_length_le (by omega), List.map_nil, List.append_nil]
  | succ d ih =>
    intro k i ou hi ho
    rw [show k + (d + 1) * (l.length + 2) + 1 = (k + d * (l.length + 2) + 1 + l.length + 1) + 1 by rw [Nat.succ_mul]; omega]
    simp only [spec_CyclePattern.l0]
    have ha := hl _ (nr_mem l i (by omega))
    rw [if_pos (by omega), if_pos (by omega), if_pos (by omega), rd_nr]
    have := srank_l1 l ou hl h9 (nr l i) ha i (by omega) ho (k + d * (l.length + 2) + 1) l.length 0 0 (by omega) (by omega)
    rw [show ((0 : Nat) : Int) = 0 from rfl, List.drop_zero, Nat.zero_add] at this
    rw [this, ih k (i + 1) _ (by omega) (by simp; omega), drop_getD l i z27 (by omega), List.map_cons]
    simp [rkN, nr]
end Go.Proofs.Ytlggehdfigkliaa.Pu
set_option linter.unusedVariables false
set_option linter.unusedSimpArgs false
namespace Go.Proofs.Ytlggehdfigkliaa.Pure
open Go.RowKit Go.Proofs.Ytlggehdfigkliaa.Q Go.Proofs.Ytlggehdfigkliaa.Pu Go.Proofs.YtlggehdfigkliaaW.PrintWords Go.Proofs.YtlggehdfigkliaaW.PrintLast Go.Proofs.YtlggehdfigkliaaW.PrintMore
noncomputable def startB (f : List Pt) (x : Ra) (n : Int) : Bool := @decide (StartP f x n) (Classical.propDecidable _)
theorem startB_iff (f : List Pt) (x : Ra) (n : Int) : startB f x n = true ↔ StartP f x n := by
  unfold startB
  exact @decide_eq_true_iff _ (Classical.propDecidable _)
def patL (c : List Ra) : List Int := ofc (rkL c) (rkL c).length 0 (List.replicate (rkL c).length 0)
theorem patL_len (c : List Ra) : (patL c).length = c.length := by simp [patL, ofc_length, rkL]
noncomputable def cpR (f : List Pt) (x : Ra) (n : Int) : List Int × Bool :=
  if startB f x n = true then
    match cycO f x n with
    | none => ([], false)
    | some c => if c.length > 9 then ([], false) else (patL c, true)
  else ([], false)
theorem cpR_len (f : List Pt) (x : Ra) (n : Int) : (cpR f x n).1.length ≤ 9 := by
  unfold cpR
  split
  · split
    · simp
    · split
      · simp
      · rename_i h
        rw [patL_len]
        omega
  · simp
theorem cyc_ok {f : List Pt} {x : Ra} {n : Int} (hS : StartP f x n) {c : List Ra} (h : cycO f x n = some c) : Oks2 c ∧ c.length ≤ 100 := by
  have hM := (mapB_iff f).1 hS.1
  have hU := orbL_unit hM n.toNat x [x] hS.2.1 (fun y hy => by rw [List.mem_singleton.1 hy]; exact hS.2.1)
  have hl := orbL_len f n.toNat x [x]
  have h60 := hS.2.2.2
  have h0 := hS.2.2.1
  unfold cycO at h
  split at h
  · cases h
  · split at h
    · split at h
      · cases h
      · cases h
        refine ⟨fun y hy => (hU y (List.mem_of_mem_take hy)).1, ?_⟩
        rw [List.length_take]
        simp at hl
        omega
    · cases h
theorem cycleFrom_eq (f : List Pt) (x : Ra) (n : Int) (hf : f.length ≤ 1048576) (k : Nat) (hk : 5000 ≤ k) : impl_cycleFrom.f k f x.f0 x.f1 n = some (retL (if startB f x n = true then cycO f x n else none)) := by
  unfold impl_cycleFrom.f impl_OrbitOf.f
  obtain ⟨b, e, hb⟩ := isStart_eq f hf x n k (by omega)
  rw [e, Option.bind_some]
  cases hb1 : b with
  | false =>
    have hs : startB f x n = false := by
      cases h : startB f x n with
      | false => rfl
      | true => have := hb.2 ((startB_iff f x n).1 h); rw [hb1] at this; cases this
    rw [hs, if_neg (by decide), if_neg (by decide), Option.bind_some, if_neg (by decide)]
    rfl
  | true =>
    have hS := hb.1 hb1
    have hs := (startB_iff f x n).2 hS
    have hM := (mapB_iff f).1 hS.1
    obtain ⟨m, rfl⟩ : ∃ m : Nat, n = m := ⟨n.toNat, by have := hS.2.2.1; omega⟩
    have h60 := hS.2.2.2
    have eo := impl_orbit_l f hM m (by omega) m k 0 x [x] hS.2.1 (by omega) (by simp) (by omega)
    have hl := orbL_len f m x [x]
    rw [show ((0 : Nat) : Int) = 0 from rfl] at eo
    unfold impl_orbit.f
    rw [if_pos rfl, show ([⟨x.f0, x.f1⟩] : List Ra) = [x] from rfl, eo, Option.bind_some, hs, if_pos rfl]
    unfold cycO
    rw [Int.toNat_natCast]
    generalize orbL f m x [x] = O at *
    simp at hl
    by_cases h1 : (O.length : Int) ≤ (m : Int)
    · rw [if_pos h1, if_pos h1, Option.bind_some, if_neg (by decide)]
      rfl
    · rw [if_neg h1, if_neg h1, Option.bind_some]
      have ep := periodIn_l O (by omega) O.length k 0 (by omega) (by omega)
      rw [show ((0 : Nat) : Int) = 0 from rfl] at ep
      have hpb := perL_bd O O.length 0 (by omega)
      unfold impl_periodIn.f
      rw [if_pos (show ((O, true) : List Ra × Bool).2 = true from rfl), ep, Option.bind_some]
      generalize perL O O.length 0 = P at *
      by_cases h2 : P.2.2 = true
      · rw [if_pos h2, if_pos h2]
        by_cases h3 : P.1 > 0
        · rw [if_pos h3, if_pos h3]; rfl
        · unfold impl_Rat_85.f
          rw [if_neg h3, if_neg h3, if_pos hpb.1, if_pos hpb.2, if_pos (by rw [List.length_take]; omega), Option.bind_some]
          rfl
      · rw [if_neg h2, if_neg h2]; rfl
theorem impl_eq (f : List Pt) (x : Ra) (n : Int) (hf : f.length ≤ 1048576) (k : Nat) (hk : 2000000 ≤ k) : impl_CyclePattern.f k f x.f0 x.f1 n = some (cpR f x n) := by
  unfold impl_CyclePattern.f cpR
  rw [cycleFrom_eq f x n hf k (by omega), Option.bind_some]
  cases hs : startB f x n with
  | false => rfl
  | true =>
    have hS := (startB_iff f x n).1 hs
    rw [if_pos rfl, if_pos rfl]
    cases hc : cycO f x n with
    | none => rw [show retL none = ([], false) from rfl, if_neg (show ¬ (([], false) : List Ra × Bool).2 = true by decide)]
    | some c =>
      obtain ⟨ok, hl⟩ := cyc_ok hS hc
      rw [show retL (some c) = (c, true) from rfl, if_pos (show ((c, true) : List Ra × Bool).2 = true from rfl)]
      by_cases h9 : c.length > 9
      · rw [if_pos (show ((c.length : Nat) : Int) > 9 by omega)]
        simp only [h9, if_true]
      · rw [if_neg (show ¬ ((c.length : Nat) : Int) > 9 by omega), patternOf_eq c ok (by omega) k hk, Option.bind_some]
        simp only [h9, if_false]
        rfl
theorem spec_eq (f : List Pt) (x : Ra) (n : Int) (hf : f.length ≤ 1048576) (k : Nat) (hk : 2000000 ≤ k) : spec_CyclePattern.f k f x.f0 x.f1 n = some (cpR f x n) := by
  unfold spec_CyclePattern.f cpR
  obtain ⟨b, e, hb⟩ := orAsked_eq f hf x n k (by omega)
  rw [e, Option.bind_some]
  cases hb1 : b with
  | false =>
    have hs : startB f x n = false := by
      cases h : startB f x n with
      | false => rfl
      | true => have := hb.2 ((startB_iff f x n).1 h); rw [hb1] at this; cases this
    rw [hs, if_neg (by decide), if_neg (by decide)]
  | true =>
    have hS := hb.1 hb1
    have hs := (startB_iff f x n).2 hS
    have hM := (mapB_iff f).1 hS.1
    rw [if_pos rfl, hs, if_pos rfl]
    have hcyc : spec_orCycle.f k f x.f0 x.f1 n = some (retL (cycO f x n)) := by
      obtain ⟨m, rfl⟩ : ∃ m : Nat, n = m := ⟨n.toNat, by have := hS.2.2.1; omega⟩
      have h60 := hS.2.2.2
      have eo := spec_orbit_l f hM m (by omega) m k x [x] hS.2.1 (by simp; omega) (by simp) rfl (by omega)
      have hl := orbL_len f m x [x]
      unfold spec_orCycle.f spec_orPeriod.f spec_orRun.f cycO
      rw [show ([⟨x.f0, x.f1⟩] : List Ra) = [x] from rfl, eo, Option.bind_some, Int.toNat_natCast]
      simp only [Option.bind_some]
      generalize orbL f m x [x] = O at *
      simp at hl
      by_cases h1 : (O.length : Int) ≤ (m : Int)
      · rw [if_pos h1, if_pos h1]
        rfl
      · rw [if_neg h1, if_neg h1]
        have ep := orPeriod_l O (by omega) O.length k 0 (by omega) (by omega)
        rw [show ((0 : Nat) : Int) = 0 from rfl] at ep
        have hpb := perL_bd O O.length 0 (by omega)
        rw [ep, Option.bind_some]
        generalize perL O O.length 0 = P at *
        by_cases h2 : P.2.2 = true
        · rw [if_pos h2, if_pos h2]
          by_cases h3 : P.1 > 0
          · rw [if_pos h3, if_pos h3]; rfl
          · rw [if_neg h3, if_neg h3, if_pos hpb.1, if_pos hpb.2]
            rfl
        · rw [if_neg h2, if_neg h2]; rfl
    rw [hcyc, Option.bind_some]
    obtain ⟨k, rfl⟩ : ∃ m, k = m + 1 := ⟨k - 1, by omega⟩
    cases hc : cycO f x n with
    | none =>
      rw [show retL none = ([], false) from rfl, if_neg (show ¬ (([], false) : List Ra × Bool).2 = true by decide)]
      simp only [spec_CyclePattern.j0, if_true]
    | some c =>
      obtain ⟨ok, hl⟩ := cyc_ok hS hc
      rw [show retL (some c) = (c, true) from rfl, if_pos (show ((c, true) : List Ra × Bool).2 = true from rfl)]
      simp only [spec_CyclePattern.j0]
      by_cases h9 : c.length > 9
      · rw [decide_eq_true (show ((c.length : Nat) : Int) > 9 by omega), if_pos rfl]
        simp only [h9, if_true]
      · rw [decide_eq_false (show ¬ ((c.length : Nat) : Int) > 9 by omega), if_neg (by decide)]
        have hlen : (rkL c).length = c.length := by simp [rkL]
        have hm : c.length * (c.length + 2) ≤ 9 * 11 := Nat.mul_le_mul (by omega) (by omega)
        have e0 := srank_l0 c ok (by omega) c.length (k - c.length * (c.length + 2) - 1) 0 [] (by omega) (by simp)
        rw [show k - c.length * (c.length + 2) - 1 + c.length * (c.length + 2) + 1 = k by omega, show ((0 : Nat) : Int) = 0 from rfl, List.drop_zero, List.nil_append] at e0
        rw [e0, show (c.map fun a => (rkN c a : Int)) = rkL c from rfl, ptOf (rkL c) (rk_range c) (by omega) _ (by omega), Option.bind_some]
        simp only [h9, if_false]
        rfl
theorem FnExactCyclePattern : laws_FnExactCyclePattern.Pure := by
  intro l0 a1_0 a1_1 a2 _ _ _ _ _
  refine ⟨4000005, ?_⟩
  unfold laws_FnExactCyclePattern.f laws_szPointS.f laws_toRat.f
  have hm0 : (maxLen : Nat) ≤ 9223372036854775807 := by decide
  by_cases hb : (wrap64 (1048576 - (l0.length : Int))) < 0
  · rw [if_pos hb]; rfl
  · rw [if_neg hb]
    have hl0 : l0.length ≤ 1048576 := by rw [wr _ (by omega)] at hb; omega
    simp only [Option.bind_some]
    rw [if_neg hb, toPointS l0 hl0 _ (by omega)]
    simp only [Option.bind_some]
    have hf : (l0.map cvPoint).length ≤ 1048576 := by simpa using hl0
    generalize hF : l0.map cvPoint = F at hf
    have es := spec_eq F ⟨a1_0, a1_1⟩ a2 hf 4000005 (by omega)
    have ei := impl_eq F ⟨a1_0, a1_1⟩ a2 hf 4000005 (by omega)
    have ei2 := impl_eq F ⟨a1_0, a1_1⟩ a2 hf 4000003 (by omega)
    simp only at es ei ei2
    have hlen := cpR_len F ⟨a1_0, a1_1⟩ a2
    rcases hv : cpR F ⟨a1_0, a1_1⟩ a2 with ⟨v, b⟩
    rw [hv] at es ei ei2 hlen
    have hv9 : v.length ≤ 9 := hlen
    rw [es, ei]
    simp only [Option.bind_some]
    rw [eqIntS_self v (by omega) _ (by omega)]
    simp only [Option.bind_some, if_true, bne_self_eq_false, laws_FnExactCyclePattern.j0]
    rw [if_neg (by decide), toPointS l0 hl0 _ (by omega), hF]
    simp only [Option.bind_some]
    rw [eqPointS_self F (by omega) _ (by omega)]
    simp only [Option.bind_some, if_true]
    rw [markPointS F 1 (by omega) (by omega) _ (by omega)]
    simp only [Option.bind_some]
    rw [if_neg (by omega), eqIntS_self v (by omega) _ (by omega)]
    simp only [Option.bind_some, if_true, laws_FnExactCyclePattern.j1]
    rw [if_neg (by decide), markIntS v 1 (by omega) (by omega) _ (by omega)]
    simp only [Option.bind_some]
    rw [heldIntS v.length 1 (by omega) (by omega) _ (by omega)]
    simp only [Option.bind_some, laws_toRat.f]
    rw [if_neg (by omega), if_pos (by trivial), toPointS l0 hl0 _ (by omega), hF]
    simp only [Option.bind_some]
    rw [ei2]
    simp only [Option.bind_some]
    rw [eqIntS_self v (by omega) _ (by omega)]
    simp only [Option.bind_some, if_true, bne_self_eq_false, laws_FnExactCyclePattern.j2]
    rw [if_neg (by decide), heldIntS v.length 1 (by omega) (by omega) _ (by omega)]
    simp only [Option.bind_some]
    rw [if_neg (by omega), if_pos (by trivial)]
end Go.Proofs.Ytlggehdfigkliaa.Pure

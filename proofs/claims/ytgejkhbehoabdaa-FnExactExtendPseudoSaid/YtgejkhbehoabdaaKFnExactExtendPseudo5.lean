/- All that the statement FnExactExtendPseudo rests on, part 5: the walks of the functions that it reaches, and the plain laws of what they compute. -/
import Derived.Test.YtgejkhbehoabdaaKFnExactExtendPseudo4
namespace Go.Proofs.Ytgejkhbehoabdaa.Q
open Go.RowKit Go.Proofs.YtgejkhbehoabdaaW.PrintWords Go.Proofs.YtgejkhbehoabdaaW.PrintLast Go.Proofs.YtgejkhbehoabdaaW.PrintMore
attribute [local go_sem] max2_int min2_int max_two min_two max_three min_three max_four min_four   -- for this text's walks alone
set_option linter.unusedVariables false
set_option linter.unusedSimpArgs false
mutual
def laws_FnExactExtendPseudo.j0 : Nat → List (S87) → List (S43) → List (S47) → Bool → List (S79) → List (S47) → List (S47) → Bool → Bool → Option (Bool)
 | 0, _, _, _, _, _, _, _, _, _ => none
 | k + 1, x0, x1, x6, x7, x8, x9, x10, x11, x53 => if x53 = true then (some false) else ((laws_toPointS.f k x0).bind fun tA => ((laws_eqPointS.f k x8 tA).bind fun tB => (if tB = true then ((laws_toRatS.f k x1).bind fun tC => ((laws_eqRatS.f k x9 tC).bind fun tD => (if tD = true then ((laws_markPointS.f k x8 1).bind fun btE => ((laws_markRatS.f k x9 btE.1).bind fun btF => (if btF.1 < 0 then (laws_FnExactExtendPseudo.j1 k x0 x1 x6 x7 x10 true) else ((laws_eqRatS.f k x10 x6).bind fun tG => (if tG = true then (laws_FnExactExtendPseudo.j1 k x0 x1 x6 x7 x10 (x11 != x7)) else (laws_FnExactExtendPseudo.j1 k x0 x1 x6 x7 x10 true)))))) else (some false)))) else (some false))))
def laws_FnExactExtendPseudo.j1 : Nat → List (S87) → List (S43) → List (S47) → Bool → List (S47) → Bool → Option (Bool)
 | 0, _, _, _, _, _, _ => none
 | k + 1, x0, x1, x6, x7, x10, x82 => if x82 = true then (some false) else ((laws_markRatS.f k x10 1).bind fun btA => ((laws_heldRatS.f k btA.2 1).bind fun tB => (if tB < 0 then (some false) else (if tB = btA.1 then ((laws_toPointS.f k x0).bind fun tC => ((laws_toRatS.f k x1).bind fun tD => ((impl_ExtendPseudo.f k tC tD).bind fun btE => ((laws_eqRatS.f k btE.1 x6).bind fun tF => (if tF = true then (laws_FnExactExtendPseudo.j2 k btA.2 btA.1 (btE.2 != x7)) else (laws_FnExactExtendPseudo.j2 k btA.2 btA.1 true)))))) else (some false)))))
def laws_FnExactExtendPseudo.j2 : Nat → List (S47) → Int → Bool → Option (Bool)
 | 0, _, _, _ => none
 | k + 1, x10, x13, xA => if xA = true then (some false) else ((laws_heldRatS.f k x10 1).bind fun tB => (if tB < 0 then (some false) else (if tB = x13 then (some true) else (some false))))
end
def laws_FnExactExtendPseudo.f (k : Nat) (l0 : List (S87)) (l1 : List (S43)) : Option (Bool) := (laws_szPointS.f l0 1048576).bind fun tA => (if tA < 0 then (some true) else ((laws_szRatS.f l1 tA).bind fun tB => (if tB < 0 then (some true) else ((laws_toPointS.f k l0).bind fun tC => ((laws_toRatS.f k l1).bind fun tD => ((spec_ExtendPseudo.f k tC tD).bind fun btE => ((laws_toPointS.f k l0).bind fun tF => ((laws_toRatS.f k l1).bind fun tG => ((impl_ExtendPseudo.f k tF tG).bind fun btH => ((laws_eqRatS.f k btH.1 btE.1).bind fun tI => (if tI = true then (laws_FnExactExtendPseudo.j0 k l0 l1 btE.1 btE.2 tF tG btH.1 btH.2 (btH.2 != btE.2)) else (laws_FnExactExtendPseudo.j0 k l0 l1 btE.1 btE.2 tF tG btH.1 btH.2 true))))))))))))
theorem zz206 {p : Prop} (h : p := by (with_reducible repeat (first | apply Kd.R_alloc | apply Kd.R_drewN | apply Kd.R_drew)); exact HO_9.out) : p := h
theorem zz205 {p : Prop} (h : p := by (with_reducible repeat (first | apply Kd.R_alloc | apply Kd.R_drewN | apply Kd.R_drew)); exact HO_8.out) : p := h
theorem zz204 {p : Prop} (h : p := by (with_reducible repeat (first | apply Kd.R_alloc | apply Kd.R_drewN | apply Kd.R_drew)); exact HO_6.out) : p := h
theorem zz201 {p : Prop} (h : p := by (with_reducible repeat (first | apply Kd.R_alloc | apply Kd.R_drewN | apply Kd.R_drew)); exact HO_10.out) : p := h
theorem zz197 {p : Prop} (h : p := by (with_reducible repeat (first | apply Kd.R_alloc | apply Kd.R_drewN | apply Kd.R_drew)); exact HOA.out) : p := h
theorem zz196 {p : Prop} (h : p := by (with_reducible repeat (first | apply Kd.R_alloc | apply Kd.R_drewN | apply Kd.R_drew)); exact HOB.out) : p := h
theorem zz195 {p : Prop} (h : p := by (with_reducible repeat (first | apply Kd.R_alloc | apply Kd.R_drewN | apply Kd.R_drew)); exact HOC.out) : p := h
theorem zz194 {p : Prop} (h : p := by (with_reducible repeat (first | apply Kd.R_alloc | apply Kd.R_drewN | apply Kd.R_drew)); exact HOD.out) : p := h
theorem zz193 {p : Prop} (h : p := by (with_reducible repeat (first | apply Kd.R_alloc | apply Kd.R_drewN | apply Kd.R_drew)); exact HOE.out) : p := h
theorem zz192 {p : Prop} (h : p := by (with_reducible repeat (first | apply Kd.R_alloc | apply Kd.R_drewN | apply Kd.R_drew)); exact HOF.out) : p := h
theorem zz191 {p : Prop} (h : p := by (with_reducible repeat (first | apply Kd.R_alloc | apply Kd.R_drewN | apply Kd.R_drew)); exact HOG.out) : p := h
theorem zz190 {p : Prop} (h : p := by (with_reducible repeat (first | apply Kd.R_alloc | apply Kd.R_drewN | apply Kd.R_drew)); exact HOH.out) : p := h
theorem zz189 {p : Prop} (h : p := by (with_reducible repeat (first | apply Kd.R_alloc | apply Kd.R_drewN | apply Kd.R_drew)); exact HOI.out) : p := h
theorem zz188 {p : Prop} (h : p := by (with_reducible repeat (first | apply Kd.R_alloc | apply Kd.R_drewN | apply Kd.R_drew)); exact HOJ.out) : p := h
theorem zz187 {p : Prop} (h : p := by (with_reducible repeat (first | apply Kd.R_alloc | apply Kd.R_drewN | apply Kd.R_drew)); exact HOK.out) : p := h
theorem zz56 {p : Prop} (h : p := by (try simp only [List.map_toArray, List.map_cons, List.map_nil]); first | done | (rw [show tL.length = tM.length from (Kd.R_reads' HO_10.out).1.symm] <;> rfl) | rfl | (simp only [List.length_drop, List.length_take]; rfl)) : p := h
set_option maxHeartbeats 8000000 in
set_option maxRecDepth 100000 in
theorem laws_FnExactExtendPseudo.calls (k : Nat) (A0 : Option Addr) (c0 : Nat) (l0 : List (S87)) (A1 : Option Addr) (c1 : Nat) (l1 : List (S43)) (r : Bool) (w : World) (hr0 : Kd.C k87 w A0 l0.length l0) (hc0 : l0.length ≤ c0) (hr1 : Kd.C k43 w A1 l1.length l1) (hc1 : l1.length ≤ c1) (h : laws_FnExactExtendPseudo.f k l0 l1 = some r) :
  Calls Try.prog 13 #[.slice A0 l0.length c0, .slice A1 l1.length c1] w fun e w' => e = .returned (.bool r) ∧ Below w.heap.size w w' := by
 have HR0 := Aside0.mk hr0; have HC0 := Aside0.mk hc0; clear hr0 hc0; have HR1 := Aside0.mk hr1; have HC1 := Aside0.mk hc1; clear hr1 hc1; have HB := Aside0.mk (Below.refl w.heap.size w); have H : ((laws_szPointS.f l0 1048576).bind fun tN => (if tN < 0 then (some true) else ((laws_szRatS.f l1 tN).bind fun tO => (if tO < 0 then (some true) else ((laws_toPointS.f k l0).bind fun tP => ((laws_toRatS.f k l1).bind fun tQ => ((spec_ExtendPseudo.f k tP tQ).bind fun btR => ((laws_toPointS.f k l0).bind fun tS => ((laws_toRatS.f k l1).bind fun tT => ((impl_ExtendPseudo.f k tS tT).bind fun btM => ((laws_eqRatS.f k btM.1 btR.1).bind fun tU => (if tU = true then (laws_FnExactExtendPseudo.j0 k l0 l1 btR.1 btR.2 tS tT btM.1 btM.2 (btM.2 != btR.2)) else (laws_FnExactExtendPseudo.j0 k l0 l1 btR.1 btR.2 tS tT btM.1 btM.2 true))))))))))))) = some r := h; clear h; replace H := Option.bind_eq_some_iff.mp H; obtain ⟨tN, A30, H⟩ := H; replace H : (if tN < 0 then (some true) else ((laws_szRatS.f l1 tN).bind fun tO => (if tO < 0 then (some true) else ((laws_toPointS.f k l0).bind fun tP => ((laws_toRatS.f k l1).bind fun tQ => ((spec_ExtendPseudo.f k tP tQ).bind fun btR => ((laws_toPointS.f k l0).bind fun tS => ((laws_toRatS.f k l1).bind fun tT => ((impl_ExtendPseudo.f k tS tT).bind fun btM => ((laws_eqRatS.f k btM.1 btR.1).bind fun tU => (if tU = true then (laws_FnExactExtendPseudo.j0 k l0 l1 btR.1 btR.2 tS tT btM.1 btM.2 (btM.2 != btR.2)) else (laws_FnExactExtendPseudo.j0 k l0 l1 btR.1 btR.2 tS tT btM.1 btM.2 true)))))))))))) = some r := H; have A3 := Aside0.mk A30; clear A30; by_cases c4 : tN < 0
 ·rw [if_pos c4] at H; have c4b0 : decide (tN < 0) = true := decide_eq_true c4; clear c4; obtain rfl := Option.some.inj H; go_enter Try.func13, Try.ntmps13
  go_wp2_with (first | ((with_reducible refine gate_callee (f := 30) rfl ?_); refine goesL_ (some 19) rfl rfl Try.func30 (by kernel_rfl) rfl #[.slice A0 l0.length c0, .int .i64 1048576] rfl zz137 ?_; (with_reducible refine (laws_szPointS.calls _ _ l0 1048576 tN _ ?side1 ?side2 A3.out).mono ?_); (case side1 => repeat (first | exact HR0.out | (with_reducible refine Kd.C_alloc ?_ _) | (with_reducible refine Kd.C_drewN ?_ _) | (with_reducible refine Kd.C_drew ?_))); (case side2 => exact HC0.out); rintro e w' ⟨rfl, ⟨nd, rfl⟩⟩; refine ⟨_, rfl, ?_⟩))
  go_ret
  exact ⟨by first | rfl | (simp [errW_none, errW_some] <;> rfl) | (simp [*, errW_none, errW_some] <;> rfl), by repeat (first | (with_reducible first | exact HB.out | apply below_alloc | apply pw_below_drewN | apply below_drew1) | exact HB.out)⟩
 ·rw [if_neg c4] at H; have c4b0 : decide (tN < 0) = false := decide_eq_false c4; clear c4; replace H := Option.bind_eq_some_iff.mp H; obtain ⟨tO, A50, H⟩ := H; replace H : (if tO < 0 then (some true) else ((laws_toPointS.f k l0).bind fun tP => ((laws_toRatS.f k l1).bind fun tQ => ((spec_ExtendPseudo.f k tP tQ).bind fun btR => ((laws_toPointS.f k l0).bind fun tS => ((laws_toRatS.f k l1).bind fun tT => ((impl_ExtendPseudo.f k tS tT).bind fun btM => ((laws_eqRatS.f k btM.1 btR.1).bind fun tU => (if tU = true then (laws_FnExactExtendPseudo.j0 k l0 l1 btR.1 btR.2 tS tT btM.1 btM.2 (btM.2 != btR.2)) else (laws_FnExactExtendPseudo.j0 k l0 l1 btR.1 btR.2 tS tT btM.1 btM.2 true)))))))))) = some r := H; have A5 := Aside0.mk A50; clear A50; by_cases c6 : tO < 0
  ·rw [if_pos c6] at H; have c6b0 : decide (tO < 0) = true := decide_eq_true c6; clear c6; obtain rfl := Option.some.inj H; go_enter Try.func13, Try.ntmps13
   go_wp2_with (first | ((with_reducible refine gate_callee (f := 30) rfl ?_); refine goesL_ (some 19) rfl rfl Try.func30 (by kernel_rfl) rfl #[.slice A0 l0.length c0, .int .i64 1048576] rfl zz137 ?_; (with_reducible refine (laws_szPointS.calls _ _ l0 1048576 tN _ ?side1 ?side2 A3.out).mono ?_); (case side1 => repeat (first | exact HR0.out | (with_reducible refine Kd.C_alloc ?_ _) | (with_reducible refine Kd.C_drewN ?_ _) | (with_reducible refine Kd.C_drew ?_))); (case side2 => exact HC0.out); rintro e w' ⟨rfl, ⟨nd, rfl⟩⟩; refine ⟨_, rfl, ?_⟩) | ((with_reducible refine gate_callee (f := 15) rfl ?_); refine goesL_ (some 24) rfl rfl Try.func15 (by kernel_rfl) rfl #[.slice A1 l1.length c1, .int .i64 tN] rfl zz137 ?_; (with_reducible refine (laws_szRatS.calls _ _ l1 tN tO _ ?side1 ?side2 A5.out).mono ?_); (case side1 => repeat (first | exact HR1.out | (with_reducible refine Kd.C_alloc ?_ _) | (with_reducible refine Kd.C_drewN ?_ _) | (with_reducible refine Kd.C_drew ?_))); (case side2 => exact HC1.out); rintro e w' ⟨rfl, ⟨nd, rfl⟩⟩; refine ⟨_, rfl, ?_⟩))
   go_ret
   exact ⟨by first | rfl | (simp [errW_none, errW_some] <;> rfl) | (simp [*, errW_none, errW_some] <;> rfl), by repeat (first | (with_reducible first | exact HB.out | apply below_alloc | apply pw_below_drewN | apply below_drew1) | exact HB.out)⟩
  ·rw [if_neg c6] at H; have c6b0 : decide (tO < 0) = false := decide_eq_false c6; clear c6; replace H := Option.bind_eq_some_iff.mp H; obtain ⟨tP, A70, H⟩ := H; replace H : ((laws_toRatS.f k l1).bind fun tQ => ((spec_ExtendPseudo.f k tP tQ).bind fun btR => ((laws_toPointS.f k l0).bind fun tS => ((laws_toRatS.f k l1).bind fun tT => ((impl_ExtendPseudo.f k tS tT).bind fun btM => ((laws_eqRatS.f k btM.1 btR.1).bind fun tU => (if tU = true then (laws_FnExactExtendPseudo.j0 k l0 l1 btR.1 btR.2 tS tT btM.1 btM.2 (btM.2 != btR.2)) else (laws_FnExactExtendPseudo.j0 k l0 l1 btR.1 btR.2 tS tT btM.1 btM.2 true)))))))) = some r := H; have A7 := Aside0.mk A70; clear A70; replace H := Option.bind_eq_some_iff.mp H; obtain ⟨tQ, A80, H⟩ := H; replace H : ((spec_ExtendPseudo.f k tP tQ).bind fun btR => ((laws_toPointS.f k l0).bind fun tS => ((laws_toRatS.f k l1).bind fun tT => ((impl_ExtendPseudo.f k tS tT).bind fun btM => ((laws_eqRatS.f k btM.1 btR.1).bind fun tU => (if tU = true then (laws_FnExactExtendPseudo.j0 k l0 l1 btR.1 btR.2 tS tT btM.1 btM.2 (btM.2 != btR.2)) else (laws_FnExactExtendPseudo.j0 k l0 l1 btR.1 btR.2 tS tT btM.1 btM.2 true))))))) = some r := H; have A8 := Aside0.mk A80; clear A80; replace H := Option.bind_eq_some_iff.mp H; obtain ⟨⟨tR, tV⟩, A90, H⟩ := H; replace H : ((laws_toPointS.f k l0).bind fun tS => ((laws_toRatS.f k l1).bind fun tT => ((impl_ExtendPseudo.f k tS tT).bind fun btM => ((laws_eqRatS.f k btM.1 tR).bind fun tU => (if tU = true then (laws_FnExactExtendPseudo.j0 k l0 l1 tR tV tS tT btM.1 btM.2 (btM.2 != tV)) else (laws_FnExactExtendPseudo.j0 k l0 l1 tR tV tS tT btM.1 btM.2 true)))))) = some r := H; have A9 := Aside0.mk A90; clear A90; replace H := Option.bind_eq_some_iff.mp H; obtain ⟨tS, AW, H⟩ := H; replace H : ((laws_toRatS.f k l1).bind fun tT => ((impl_ExtendPseudo.f k tS tT).bind fun btM => ((laws_eqRatS.f k btM.1 tR).bind fun tU => (if tU = true then (laws_FnExactExtendPseudo.j0 k l0 l1 tR tV tS tT btM.1 btM.2 (btM.2 != tV)) else (laws_FnExactExtendPseudo.j0 k l0 l1 tR tV tS tT btM.1 btM.2 true))))) = some r := H; have A10 := Aside0.mk AW; clear AW; replace H := Option.bind_eq_some_iff.mp H; obtain ⟨tT, AX, H⟩ := H; replace H : ((impl_ExtendPseudo.f k tS tT).bind fun btM => ((laws_eqRatS.f k btM.1 tR).bind fun tU => (if tU = true then (laws_FnExactExtendPseudo.j0 k l0 l1 tR tV tS tT btM.1 btM.2 (btM.2 != tV)) else (laws_FnExactExtendPseudo.j0 k l0 l1 tR tV tS tT btM.1 btM.2 true)))) = some r := H; have A11 := Aside0.mk AX; clear AX; replace H := Option.bind_eq_some_iff.mp H; obtain ⟨⟨tM, tY⟩, AZ, H⟩ := H; replace H : ((laws_eqRatS.f k tM tR).bind fun tU => (if tU = true then (laws_FnExactExtendPseudo.j0 k l0 l1 tR tV tS tT tM tY (tY != tV)) else (laws_FnExactExtendPseudo.j0 k l0 l1 tR tV tS tT tM tY true))) = some r := H; have A12 := Aside0.mk AZ; clear AZ; have HC13 := Aside0.mk H; clear H; go_enter Try.func13, Try.ntmps13
   go_upto_region 12 with (first | ((with_reducible refine gate_callee (f := 30) rfl ?_); refine goesL_ (some 19) rfl rfl Try.func30 (by kernel_rfl) rfl #[.slice A0 l0.length c0, .int .i64 1048576] rfl zz137 ?_; (with_reducible refine (laws_szPointS.calls _ _ l0 1048576 tN _ ?side1 ?side2 A3.out).mono ?_); (case side1 => repeat (first | exact HR0.out | (with_reducible refine Kd.C_alloc ?_ _) | (with_reducible refine Kd.C_drewN ?_ _) | (with_reducible refine Kd.C_drew ?_))); (case side2 => exact HC0.out); rintro e w' ⟨rfl, ⟨nd, rfl⟩⟩; refine ⟨_, rfl, ?_⟩) | ((with_reducible refine gate_callee (f := 15) rfl ?_); refine goesL_ (some 24) rfl rfl Try.func15 (by kernel_rfl) rfl #[.slice A1 l1.length c1, .int .i64 tN] rfl zz137 ?_; (with_reducible refine (laws_szRatS.calls _ _ l1 tN tO _ ?side1 ?side2 A5.out).mono ?_); (case side1 => repeat (first | exact HR1.out | (with_reducible refine Kd.C_alloc ?_ _) | (with_reducible refine Kd.C_drewN ?_ _) | (with_reducible refine Kd.C_drew ?_))); (case side2 => exact HC1.out); rintro e w' ⟨rfl, ⟨nd, rfl⟩⟩; refine ⟨_, rfl, ?_⟩) | ((with_reducible refine gate_callee (f := 32) rfl ?_); refine goesL_ (some 29) rfl rfl Try.func32 (by kernel_rfl) rfl #[.slice A0 l0.length c0] rfl zz137 ?_; (with_reducible refine (laws_toPointS.calls k _ _ l0 tP _ ?side1 ?side2 A7.out).mono ?_); (case side1 => repeat (first | exact HR0.out | (with_reducible refine Kd.C_alloc ?_ _) | (with_reducible refine Kd.C_drewN ?_ _) | (with_reducible refine Kd.C_drew ?_))); (case side2 => exact HC0.out); rintro e w14 ⟨vAA, rfl, ho0, hb⟩; refine ⟨_, rfl, ?_⟩; have n0_ := Aside0.mk (Kd.R_lower ho0 (below_size zz138)); have HOK := n0_; clear n0_; replace HB := Aside0.mk (below_step zz138 hb); (try clear hb); (try clear ho0)) | ((with_reducible refine gate_callee (f := 17) rfl ?_); refine goesL_ (some 31) rfl rfl Try.func17 (by kernel_rfl) rfl #[.slice A1 l1.length c1] rfl zz137 ?_; (with_reducible refine (laws_toRatS.calls k _ _ l1 tQ _ ?side1 ?side2 A8.out).mono ?_); (case side1 => repeat (first | exact (Kd.C_below HR1.out HB.out) | (with_reducible refine Kd.C_alloc ?_ _) | (with_reducible refine Kd.C_drewN ?_ _) | (with_reducible refine Kd.C_drew ?_))); (case side2 => exact HC1.out); rintro e w15 ⟨vAB, rfl, ho0, hb⟩; refine ⟨_, rfl, ?_⟩; have n0_ := Aside0.mk (Kd.R_below zz187 hb); have n1_ := Aside0.mk (Kd.R_lower ho0 (below_size zz138)); clear HOK; have HOK := n0_; have HOJ := n1_; clear n0_ n1_; replace HB := Aside0.mk (below_step zz138 hb); (try clear hb); (try clear ho0); obtain ⟨Ao16, co16, eo16⟩ := Kd.R_slice HOK.out; subst eo16; obtain ⟨Ao17, co17, eo17⟩ := Kd.R_slice HOJ.out; subst eo17) | ((with_reducible refine gate_callee (f := 51) rfl ?_); refine goesL_ (some 32) rfl rfl Try.func51 (by kernel_rfl) rfl #[.slice Ao16 tP.length co16, .slice Ao17 tQ.length co17] rfl zz137 ?_; (with_reducible refine (spec_ExtendPseudo.calls k _ _ tP _ _ tQ tR tV _ ?side1 ?side2 ?side3 ?side4 A9.out).mono ?_); (case side1 => repeat (first | exact (Kd.R_reads' HOK.out).2.2 | (with_reducible refine Kd.C_alloc ?_ _) | (with_reducible refine Kd.C_drewN ?_ _) | (with_reducible refine Kd.C_drew ?_))); (case side2 => exact (Kd.R_reads' HOK.out).2.1); (case side3 => repeat (first | exact (Kd.R_reads' HOJ.out).2.2 | (with_reducible refine Kd.C_alloc ?_ _) | (with_reducible refine Kd.C_drewN ?_ _) | (with_reducible refine Kd.C_drew ?_))); (case side4 => exact (Kd.R_reads' HOJ.out).2.1); rintro e w18 ⟨vAC, rfl, ho0, hb⟩; refine ⟨_, rfl, ?_⟩; have n0_ := Aside0.mk (Kd.R_below zz187 hb); have n1_ := Aside0.mk (Kd.R_elder' zz188 (Kd.R_base ho0) hb); have n2_ := Aside0.mk (Kd.R_lower (Kd.R_new' ho0 (Kd.R_lt zz188)) (below_size zz138)); clear HOK HOJ; have HOK := n0_; have HOJ := n1_; have HOI := n2_; clear n0_ n1_ n2_; replace HB := Aside0.mk (below_step zz138 hb); (try clear hb); (try clear ho0)) | ((with_reducible refine gate_callee (f := 32) rfl ?_); refine goesL_ (some 36) rfl rfl Try.func32 (by kernel_rfl) rfl #[.slice A0 l0.length c0] rfl zz137 ?_; (with_reducible refine (laws_toPointS.calls k _ _ l0 tS _ ?side1 ?side2 A10.out).mono ?_); (case side1 => repeat (first | exact (Kd.C_below HR0.out HB.out) | (with_reducible refine Kd.C_alloc ?_ _) | (with_reducible refine Kd.C_drewN ?_ _) | (with_reducible refine Kd.C_drew ?_))); (case side2 => exact HC0.out); rintro e w19 ⟨vAD, rfl, ho0, hb⟩; refine ⟨_, rfl, ?_⟩; have n0_ := Aside0.mk (Kd.R_elder' zz187 (Kd.R_base ho0) hb); have n1_ := Aside0.mk (Kd.R_below zz188 hb); have n2_ := Aside0.mk (Kd.R_below zz189 hb); have n3_ := Aside0.mk (Kd.R_lower (Kd.R_new' ho0 (Kd.R_lt zz187)) (below_size zz138)); clear HOK HOJ HOI; have HOK := n0_; have HOJ := n1_; have HOI := n2_; have HOH := n3_; clear n0_ n1_ n2_ n3_; replace HB := Aside0.mk (below_step zz138 hb); (try clear hb); (try clear ho0)) | ((with_reducible refine gate_callee (f := 17) rfl ?_); refine goesL_ (some 38) rfl rfl Try.func17 (by kernel_rfl) rfl #[.slice A1 l1.length c1] rfl zz137 ?_; (with_reducible refine (laws_toRatS.calls k _ _ l1 tT _ ?side1 ?side2 A11.out).mono ?_); (case side1 => repeat (first | exact (Kd.C_below HR1.out HB.out) | (with_reducible refine Kd.C_alloc ?_ _) | (with_reducible refine Kd.C_drewN ?_ _) | (with_reducible refine Kd.C_drew ?_))); (case side2 => exact HC1.out); rintro e w20 ⟨vAE, rfl, ho0, hb⟩; refine ⟨_, rfl, ?_⟩; have n0_ := Aside0.mk (Kd.R_below zz187 hb); have n1_ := Aside0.mk (Kd.R_elder' zz188 (Kd.R_base ho0) hb); have n2_ := Aside0.mk (Kd.R_elder' zz189 (Kd.R_base ho0) hb); have n3_ := Aside0.mk (Kd.R_below zz190 hb); have n4_ := Aside0.mk (Kd.R_lower (Kd.R_new' (Kd.R_new' ho0 (Kd.R_lt zz188)) (Kd.R_lt zz189)) (below_size zz138)); clear HOK HOJ HOI HOH; have HOK := n0_; have HOJ := n1_; have HOI := n2_; have HOH := n3_; have HOG := n4_; clear n0_ n1_ n2_ n3_ n4_; replace HB := Aside0.mk (below_step zz138 hb); (try clear hb); (try clear ho0); obtain ⟨Ao21, co21, eo21⟩ := Kd.R_slice HOH.out; subst eo21; obtain ⟨Ao22, co22, eo22⟩ := Kd.R_slice HOG.out; subst eo22) | ((with_reducible refine gate_callee (f := 52) rfl ?_); refine goesL_ (some 42) rfl rfl Try.func52 (by kernel_rfl) rfl #[.slice Ao21 tS.length co21, .slice Ao22 tT.length co22] rfl zz137 ?_; (with_reducible refine (impl_ExtendPseudo.calls k _ _ tS _ _ tT tM tY _ ?side1 ?side2 ?side3 ?side4 A12.out).mono ?_); (case side1 => repeat (first | exact (Kd.R_reads' HOH.out).2.2 | (with_reducible refine Kd.C_alloc ?_ _) | (with_reducible refine Kd.C_drewN ?_ _) | (with_reducible refine Kd.C_drew ?_))); (case side2 => exact (Kd.R_reads' HOH.out).2.1); (case side3 => repeat (first | exact (Kd.R_reads' HOG.out).2.2 | (with_reducible refine Kd.C_alloc ?_ _) | (with_reducible refine Kd.C_drewN ?_ _) | (with_reducible refine Kd.C_drew ?_))); (case side4 => exact (Kd.R_reads' HOG.out).2.1); rintro e w23 ⟨vAF, rfl, ho0, hb⟩; refine ⟨_, rfl, ?_⟩; have n0_ := Aside0.mk (Kd.R_below zz187 hb); have n1_ := Aside0.mk (Kd.R_elder' zz188 (Kd.R_base ho0) hb); have n2_ := Aside0.mk (Kd.R_elder' zz189 (Kd.R_base ho0) hb); have n3_ := Aside0.mk (Kd.R_below zz190 hb); have n4_ := Aside0.mk (Kd.R_elder' zz191 (Kd.R_base ho0) hb); have n5_ := Aside0.mk (Kd.R_lower (Kd.R_new' (Kd.R_new' (Kd.R_new' ho0 (Kd.R_lt zz188)) (Kd.R_lt zz189)) (Kd.R_lt zz191)) (below_size zz138)); clear HOK HOJ HOI HOH HOG; have HOK := n0_; have HOJ := n1_; have HOI := n2_; have HOH := n3_; have HOG := n4_; have HOF := n5_; clear n0_ n1_ n2_ n3_ n4_ n5_; replace HB := Aside0.mk (below_step zz138 hb); (try clear hb); (try clear ho0)))
   (try simp only [Act.put, List.setIfInBounds_toArray, List.set_cons_zero, List.set_cons_succ]); go_cut [53] (fun v53 wc => ∃ (kq : Nat) (x53_12 : Bool), v53 = .bool x53_12 ∧ Aside0 (laws_FnExactExtendPseudo.j0 kq l0 l1 tR tV tS tT tM tY x53_12 = some r) ∧ Aside0 (kq ≤ k) ∧ Aside0 (Kd.R k47 47 wc w.heap.size (fun k_ => some k_ ≠ ((.slice Ao22 tT.length co22) : Value).ownBlock ∧ some k_ ≠ (vAF : Value).ownBlock) vAC tR) ∧ Aside0 (Kd.R k79 79 wc w.heap.size (fun _ => True) (.slice Ao21 tS.length co21) tS) ∧ Aside0 (Kd.R k47 47 wc w.heap.size (fun k_ => some k_ ≠ (vAC : Value).ownBlock ∧ some k_ ≠ (vAF : Value).ownBlock) (.slice Ao22 tT.length co22) tT) ∧ Aside0 (Kd.R k47 47 wc w.heap.size (fun k_ => some k_ ≠ (vAC : Value).ownBlock ∧ some k_ ≠ ((.slice Ao22 tT.length co22) : Value).ownBlock) vAF tM) ∧ Aside0 (Below w.heap.size w wc))
   case first =>
    have H := HC13.out; clear HC13; replace H := Option.bind_eq_some_iff.mp H; obtain ⟨tU, AAG, H⟩ := H; replace H : (if tU = true then (laws_FnExactExtendPseudo.j0 k l0 l1 tR tV tS tT tM tY (tY != tV)) else (laws_FnExactExtendPseudo.j0 k l0 l1 tR tV tS tT tM tY true)) = some r := H; have A24 := Aside0.mk AAG; clear AAG; by_cases c25 : tU = true
    ·subst c25; have H1 : (laws_FnExactExtendPseudo.j0 k l0 l1 tR tV tS tT tM tY (tY != tV)) = some r := by rw [if_pos rfl] at H; exact H
     clear H; have H := H1; clear H1; have H' := Aside0.mk H; clear H; obtain ⟨Ao26, co26, eo26⟩ := Kd.R_slice HOF.out; subst eo26; obtain ⟨Ao27, co27, eo27⟩ := Kd.R_slice HOI.out; subst eo27; go_wp2_with (first | ((with_reducible refine gate_callee (f := 19) rfl ?_); refine goesL_ (some 47) rfl rfl Try.func19 (by kernel_rfl) rfl #[.slice Ao26 tM.length co26, .slice Ao27 tR.length co27] rfl zz137 ?_; (with_reducible refine (laws_eqRatS.calls k _ _ tM _ _ tR true _ ?side1 ?side2 ?side3 ?side4 A24.out).mono ?_); (case side1 => repeat (first | exact (Kd.R_reads' HOF.out).2.2 | (with_reducible refine Kd.C_alloc ?_ _) | (with_reducible refine Kd.C_drewN ?_ _) | (with_reducible refine Kd.C_drew ?_))); (case side2 => exact (Kd.R_reads' HOF.out).2.1); (case side3 => repeat (first | exact (Kd.R_reads' HOI.out).2.2 | (with_reducible refine Kd.C_alloc ?_ _) | (with_reducible refine Kd.C_drewN ?_ _) | (with_reducible refine Kd.C_drew ?_))); (case side4 => exact (Kd.R_reads' HOI.out).2.1); rintro e w28 ⟨rfl, hb⟩; refine ⟨_, rfl, ?_⟩; have n0_ := Aside0.mk (Kd.R_below zz187 hb); have n1_ := Aside0.mk (Kd.R_below zz188 hb); have n2_ := Aside0.mk (Kd.R_below zz189 hb); have n3_ := Aside0.mk (Kd.R_below zz190 hb); have n4_ := Aside0.mk (Kd.R_below zz191 hb); have n5_ := Aside0.mk (Kd.R_below zz192 hb); clear HOK HOJ HOI HOH HOG HOF; have HOK := n0_; have HOJ := n1_; have HOI := n2_; have HOH := n3_; have HOG := n4_; have HOF := n5_; clear n0_ n1_ n2_ n3_ n4_ n5_; replace HB := Aside0.mk (below_step zz138 hb); (try clear hb)))
     go_meet
     case rel => exact ⟨_, ((tY != tV)), zz217, H', ⟨by first | omega | exact Nat.le_refl _⟩, ⟨by (with_reducible repeat (first | apply Kd.R_alloc | apply Kd.R_drewN | apply Kd.R_drew)); exact Kd.R_mono HOI.out (fun _ hk => ⟨hk.1.2, hk.2⟩)⟩, ⟨by (with_reducible repeat (first | apply Kd.R_alloc | apply Kd.R_drewN | apply Kd.R_drew)); exact Kd.R_mono HOH.out (fun _ hk => trivial)⟩, ⟨by (with_reducible repeat (first | apply Kd.R_alloc | apply Kd.R_drewN | apply Kd.R_drew)); exact Kd.R_mono HOG.out (fun _ hk => ⟨hk.1.2, hk.2⟩)⟩, ⟨by (with_reducible repeat (first | apply Kd.R_alloc | apply Kd.R_drewN | apply Kd.R_drew)); exact Kd.R_mono HOF.out (fun _ hk => ⟨hk.1.2, hk.2⟩)⟩, ⟨by repeat (first | (with_reducible first | exact HB.out | apply below_alloc | apply pw_below_drewN | apply below_drew1) | exact HB.out)⟩⟩
    ·replace c25 := Bool.eq_false_iff.mpr c25; subst c25; have H1 : (laws_FnExactExtendPseudo.j0 k l0 l1 tR tV tS tT tM tY true) = some r := by rw [if_neg (show ¬ (false = true) by decide)] at H; exact H
     clear H; have H := H1; clear H1; have H' := Aside0.mk H; clear H; obtain ⟨Ao29, co29, eo29⟩ := Kd.R_slice HOF.out; subst eo29; obtain ⟨Ao30, co30, eo30⟩ := Kd.R_slice HOI.out; subst eo30; go_wp2_with (first | ((with_reducible refine gate_callee (f := 19) rfl ?_); refine goesL_ (some 47) rfl rfl Try.func19 (by kernel_rfl) rfl #[.slice Ao29 tM.length co29, .slice Ao30 tR.length co30] rfl zz137 ?_; (with_reducible refine (laws_eqRatS.calls k _ _ tM _ _ tR false _ ?side1 ?side2 ?side3 ?side4 A24.out).mono ?_); (case side1 => repeat (first | exact (Kd.R_reads' HOF.out).2.2 | (with_reducible refine Kd.C_alloc ?_ _) | (with_reducible refine Kd.C_drewN ?_ _) | (with_reducible refine Kd.C_drew ?_))); (case side2 => exact (Kd.R_reads' HOF.out).2.1); (case side3 => repeat (first | exact (Kd.R_reads' HOI.out).2.2 | (with_reducible refine Kd.C_alloc ?_ _) | (with_reducible refine Kd.C_drewN ?_ _) | (with_reducible refine Kd.C_drew ?_))); (case side4 => exact (Kd.R_reads' HOI.out).2.1); rintro e w31 ⟨rfl, hb⟩; refine ⟨_, rfl, ?_⟩; have n0_ := Aside0.mk (Kd.R_below zz187 hb); have n1_ := Aside0.mk (Kd.R_below zz188 hb); have n2_ := Aside0.mk (Kd.R_below zz189 hb); have n3_ := Aside0.mk (Kd.R_below zz190 hb); have n4_ := Aside0.mk (Kd.R_below zz191 hb); have n5_ := Aside0.mk (Kd.R_below zz192 hb); clear HOK HOJ HOI HOH HOG HOF; have HOK := n0_; have HOJ := n1_; have HOI := n2_; have HOH := n3_; have HOG := n4_; have HOF := n5_; clear n0_ n1_ n2_ n3_ n4_ n5_; replace HB := Aside0.mk (below_step zz138 hb); (try clear hb)))
     go_meet
     case rel => exact ⟨_, (true), zz217, H', ⟨by first | omega | exact Nat.le_refl _⟩, ⟨by (with_reducible repeat (first | apply Kd.R_alloc | apply Kd.R_drewN | apply Kd.R_drew)); exact Kd.R_mono HOI.out (fun _ hk => ⟨hk.1.2, hk.2⟩)⟩, ⟨by (with_reducible repeat (first | apply Kd.R_alloc | apply Kd.R_drewN | apply Kd.R_drew)); exact Kd.R_mono HOH.out (fun _ hk => trivial)⟩, ⟨by (with_reducible repeat (first | apply Kd.R_alloc | apply Kd.R_drewN | apply Kd.R_drew)); exact Kd.R_mono HOG.out (fun _ hk => ⟨hk.1.2, hk.2⟩)⟩, ⟨by (with_reducible repeat (first | apply Kd.R_alloc | apply Kd.R_drewN | apply Kd.R_drew)); exact Kd.R_mono HOF.out (fun _ hk => ⟨hk.1.2, hk.2⟩)⟩, ⟨by repeat (first | (with_reducible first | exact HB.out | apply below_alloc | apply pw_below_drewN | apply below_drew1) | exact HB.out)⟩⟩
   case rest =>
    clear HC13; try clear c1
    try clear c2
    try clear p2
    try clear c3
    try clear c4
    try clear c4b0
    try clear c5
    try clear c6
    try clear c6b0
    try clear c13
    try clear c15
    try clear c17
    try clear c19
    try clear c25
    try clear c30
    obtain ⟨kq, x53_12, rfl, HA, HJ12, HO_6, HO_8, HO_9, HO_10, HB⟩ := hcut; cases kq with
    | zero => exact absurd HA.out (by simp [laws_FnExactExtendPseudo.j0])
    | succ kj12 =>
     have H := HA.out; clear HA; simp only [laws_FnExactExtendPseudo.j0] at H; by_cases c32 : x53_12 = true
     ·subst c32; have H1 : (some false) = some r := by rw [if_pos rfl] at H; exact H
      clear H; have H := H1; clear H1; obtain rfl := Option.some.inj H; go_wp2
      go_ret
      exact ⟨by first | rfl | (simp [errW_none, errW_some] <;> rfl) | (simp [*, errW_none, errW_some] <;> rfl), by repeat (first | (with_reducible first | exact HB.out | apply below_alloc | apply pw_below_drewN | apply below_drew1) | exact HB.out)⟩
     ·replace c32 := Bool.eq_false_iff.mpr c32; subst c32; have H1 : ((laws_toPointS.f kj12 l0).bind fun tAH => ((laws_eqPointS.f kj12 tS tAH).bind fun tAI => (if tAI = true then ((laws_toRatS.f kj12 l1).bind fun tAJ => ((laws_eqRatS.f kj12 tT tAJ).bind fun tAK => (if tAK = true then ((laws_markPointS.f kj12 tS 1).bind fun btAL => ((laws_markRatS.f kj12 tT btAL.1).bind fun btAM => (if btAM.1 < 0 then (laws_FnExactExtendPseudo.j1 kj12 l0 l1 tR tV tM true) else ((laws_eqRatS.f kj12 tM tR).bind fun tAN => (if tAN = true then (laws_FnExactExtendPseudo.j1 kj12 l0 l1 tR tV tM (tY != tV)) else (laws_FnExactExtendPseudo.j1 kj12 l0 l1 tR tV tM true)))))) else (some false)))) else (some false)))) = some r := by rw [if_neg (show ¬ (false = true) by decide)] at H; exact H
      clear H; have H := H1; clear H1; replace H := Option.bind_eq_some_iff.mp H; obtain ⟨tAH, AAO, H⟩ := H; replace H : ((laws_eqPointS.f kj12 tS tAH).bind fun tAI => (if tAI = true then ((laws_toRatS.f kj12 l1).bind fun tAJ => ((laws_eqRatS.f kj12 tT tAJ).bind fun tAK => (if tAK = true then ((laws_markPointS.f kj12 tS 1).bind fun btAL => ((laws_markRatS.f kj12 tT btAL.1).bind fun btAM => (if btAM.1 < 0 then (laws_FnExactExtendPseudo.j1 kj12 l0 l1 tR tV tM true) else ((laws_eqRatS.f kj12 tM tR).bind fun tAN => (if tAN = true then (laws_FnExactExtendPseudo.j1 kj12 l0 l1 tR tV tM (tY != tV)) else (laws_FnExactExtendPseudo.j1 kj12 l0 l1 tR tV tM true)))))) else (some false)))) else (some false))) = some r := H; have A33 := Aside0.mk AAO; clear AAO; replace H := Option.bind_eq_some_iff.mp H; obtain ⟨tAI, AAP, H⟩ := H; replace H : (if tAI = true then ((laws_toRatS.f kj12 l1).bind fun tAJ => ((laws_eqRatS.f kj12 tT tAJ).bind fun tAK => (if tAK = true then ((laws_markPointS.f kj12 tS 1).bind fun btAL => ((laws_markRatS.f kj12 tT btAL.1).bind fun btAM => (if btAM.1 < 0 then (laws_FnExactExtendPseudo.j1 kj12 l0 l1 tR tV tM true) else ((laws_eqRatS.f kj12 tM tR).bind fun tAN => (if tAN = true then (laws_FnExactExtendPseudo.j1 kj12 l0 l1 tR tV tM (tY != tV)) else (laws_FnExactExtendPseudo.j1 kj12 l0 l1 tR tV tM true)))))) else (some false)))) else (some false)) = some r := H; have A34 := Aside0.mk AAP; clear AAP; by_cases c35 : tAI = true
      ·subst c35; have H1 : ((laws_toRatS.f kj12 l1).bind fun tAJ => ((laws_eqRatS.f kj12 tT tAJ).bind fun tAK => (if tAK = true then ((laws_markPointS.f kj12 tS 1).bind fun btAL => ((laws_markRatS.f kj12 tT btAL.1).bind fun btAM => (if btAM.1 < 0 then (laws_FnExactExtendPseudo.j1 kj12 l0 l1 tR tV tM true) else ((laws_eqRatS.f kj12 tM tR).bind fun tAN => (if tAN = true then (laws_FnExactExtendPseudo.j1 kj12 l0 l1 tR tV tM (tY != tV)) else (laws_FnExactExtendPseudo.j1 kj12 l0 l1 tR tV tM true)))))) else (some false)))) = some r := by rw [if_pos rfl] at H; exact H
       clear H; have H := H1; clear H1; replace H := Option.bind_eq_some_iff.mp H; obtain ⟨tAJ, AAQ, H⟩ := H; replace H : ((laws_eqRatS.f kj12 tT tAJ).bind fun tAK => (if tAK = true then ((laws_markPointS.f kj12 tS 1).bind fun btAL => ((laws_markRatS.f kj12 tT btAL.1).bind fun btAM => (if btAM.1 < 0 then (laws_FnExactExtendPseudo.j1 kj12 l0 l1 tR tV tM true) else ((laws_eqRatS.f kj12 tM tR).bind fun tAN => (if tAN = true then (laws_FnExactExtendPseudo.j1 kj12 l0 l1 tR tV tM (tY != tV)) else (laws_FnExactExtendPseudo.j1 kj12 l0 l1 tR tV tM true)))))) else (some false))) = some r := H; have A36 := Aside0.mk AAQ; clear AAQ; replace H := Option.bind_eq_some_iff.mp H; obtain ⟨tAK, AAR, H⟩ := H; replace H : (if tAK = true then ((laws_markPointS.f kj12 tS 1).bind fun btAL => ((laws_markRatS.f kj12 tT btAL.1).bind fun btAM => (if btAM.1 < 0 then (laws_FnExactExtendPseudo.j1 kj12 l0 l1 tR tV tM true) else ((laws_eqRatS.f kj12 tM tR).bind fun tAN => (if tAN = true then (laws_FnExactExtendPseudo.j1 kj12 l0 l1 tR tV tM (tY != tV)) else (laws_FnExactExtendPseudo.j1 kj12 l0 l1 tR tV tM true)))))) else (some false)) = some r := H; have A37 := Aside0.mk AAR; clear AAR; by_cases c38 : tAK = true
       ·subst c38; have H1 : ((laws_markPointS.f kj12 tS 1).bind fun btAL => ((laws_markRatS.f kj12 tT btAL.1).bind fun btAM => (if btAM.1 < 0 then (laws_FnExactExtendPseudo.j1 kj12 l0 l1 tR tV tM true) else ((laws_eqRatS.f kj12 tM tR).bind fun tAN => (if tAN = true then (laws_FnExactExtendPseudo.j1 kj12 l0 l1 tR tV tM (tY != tV)) else (laws_FnExactExtendPseudo.j1 kj12 l0 l1 tR tV tM true)))))) = some r := by rw [if_pos rfl] at H; exact H
        clear H; have H := H1; clear H1; replace H := Option.bind_eq_some_iff.mp H; obtain ⟨⟨tAL, tAS⟩, AAT, H⟩ := H; replace H : ((laws_markRatS.f kj12 tT tAL).bind fun btAM => (if btAM.1 < 0 then (laws_FnExactExtendPseudo.j1 kj12 l0 l1 tR tV tM true) else ((laws_eqRatS.f kj12 tM tR).bind fun tAN => (if tAN = true then (laws_FnExactExtendPseudo.j1 kj12 l0 l1 tR tV tM (tY != tV)) else (laws_FnExactExtendPseudo.j1 kj12 l0 l1 tR tV tM true))))) = some r := H; have A39 := Aside0.mk AAT; clear AAT; replace H := Option.bind_eq_some_iff.mp H; obtain ⟨⟨tAM, tAU⟩, AAV, H⟩ := H; replace H : (if tAM < 0 then (laws_FnExactExtendPseudo.j1 kj12 l0 l1 tR tV tM true) else ((laws_eqRatS.f kj12 tM tR).bind fun tAN => (if tAN = true then (laws_FnExactExtendPseudo.j1 kj12 l0 l1 tR tV tM (tY != tV)) else (laws_FnExactExtendPseudo.j1 kj12 l0 l1 tR tV tM true)))) = some r := H; have A40 := Aside0.mk AAV; clear AAV; have HC41 := Aside0.mk H; clear H; go_upto_region 21 with (first | ((with_reducible refine gate_callee (f := 32) rfl ?_); refine goesL_ (some 56) rfl rfl Try.func32 (by kernel_rfl) rfl #[.slice A0 l0.length c0] rfl zz137 ?_; (with_reducible refine (laws_toPointS.calls kj12 _ _ l0 tAH _ ?side1 ?side2 A33.out).mono ?_); (case side1 => repeat (first | exact (Kd.C_below HR0.out HB.out) | (with_reducible refine Kd.C_alloc ?_ _) | (with_reducible refine Kd.C_drewN ?_ _) | (with_reducible refine Kd.C_drew ?_))); (case side2 => exact HC0.out); rintro e w42 ⟨vAW, rfl, ho0, hb⟩; refine ⟨_, rfl, ?_⟩; have n0_ := Aside0.mk (Kd.R_below zz204 hb); have n1_ := Aside0.mk (Kd.R_elder' zz205 (Kd.R_base ho0) hb); have n2_ := Aside0.mk (Kd.R_below zz206 hb); have n3_ := Aside0.mk (Kd.R_below zz201 hb); have n4_ := Aside0.mk (Kd.R_lower (Kd.R_new' ho0 (Kd.R_lt zz205)) (below_size zz138)); clear HO_6 HO_8 HO_9 HO_10; have HO_6 := n0_; have HO_8 := n1_; have HO_9 := n2_; have HO_10 := n3_; have HOE := n4_; clear n0_ n1_ n2_ n3_ n4_; replace HB := Aside0.mk (below_step zz138 hb); (try clear hb); (try clear ho0); obtain ⟨Ao43, co43, eo43⟩ := Kd.R_slice HOE.out; subst eo43) | ((with_reducible refine gate_callee (f := 25) rfl ?_); refine goesL_ (some 57) rfl rfl Try.func25 (by kernel_rfl) rfl #[.slice Ao21 tS.length co21, .slice Ao43 tAH.length co43] rfl zz137 ?_; (with_reducible refine (laws_eqPointS.calls kj12 _ _ tS _ _ tAH true _ ?side1 ?side2 ?side3 ?side4 A34.out).mono ?_); (case side1 => repeat (first | exact (Kd.R_reads' HO_8.out).2.2 | (with_reducible refine Kd.C_alloc ?_ _) | (with_reducible refine Kd.C_drewN ?_ _) | (with_reducible refine Kd.C_drew ?_))); (case side2 => exact (Kd.R_reads' HO_8.out).2.1); (case side3 => repeat (first | exact (Kd.R_reads' HOE.out).2.2 | (with_reducible refine Kd.C_alloc ?_ _) | (with_reducible refine Kd.C_drewN ?_ _) | (with_reducible refine Kd.C_drew ?_))); (case side4 => exact (Kd.R_reads' HOE.out).2.1); rintro e w44 ⟨rfl, hb⟩; refine ⟨_, rfl, ?_⟩; have n0_ := Aside0.mk (Kd.R_below zz204 hb); have n1_ := Aside0.mk (Kd.R_below zz205 hb); have n2_ := Aside0.mk (Kd.R_below zz206 hb); have n3_ := Aside0.mk (Kd.R_below zz201 hb); have n4_ := Aside0.mk (Kd.R_below zz193 hb); clear HO_6 HO_8 HO_9 HO_10 HOE; have HO_6 := n0_; have HO_8 := n1_; have HO_9 := n2_; have HO_10 := n3_; have HOE := n4_; clear n0_ n1_ n2_ n3_ n4_; replace HB := Aside0.mk (below_step zz138 hb); (try clear hb)) | ((with_reducible refine gate_callee (f := 17) rfl ?_); refine goesL_ (some 61) rfl rfl Try.func17 (by kernel_rfl) rfl #[.slice A1 l1.length c1] rfl zz137 ?_; (with_reducible refine (laws_toRatS.calls kj12 _ _ l1 tAJ _ ?side1 ?side2 A36.out).mono ?_); (case side1 => repeat (first | exact (Kd.C_below HR1.out HB.out) | (with_reducible refine Kd.C_alloc ?_ _) | (with_reducible refine Kd.C_drewN ?_ _) | (with_reducible refine Kd.C_drew ?_))); (case side2 => exact HC1.out); rintro e w45 ⟨vAX, rfl, ho0, hb⟩; refine ⟨_, rfl, ?_⟩; have n0_ := Aside0.mk (Kd.R_elder' zz204 (Kd.R_base ho0) hb); have n1_ := Aside0.mk (Kd.R_below zz205 hb); have n2_ := Aside0.mk (Kd.R_elder' zz206 (Kd.R_base ho0) hb); have n3_ := Aside0.mk (Kd.R_elder' zz201 (Kd.R_base ho0) hb); have n4_ := Aside0.mk (Kd.R_below zz193 hb); have n5_ := Aside0.mk (Kd.R_lower (Kd.R_new' (Kd.R_new' (Kd.R_new' ho0 (Kd.R_lt zz204)) (Kd.R_lt zz206)) (Kd.R_lt zz201)) (below_size zz138)); clear HO_6 HO_8 HO_9 HO_10 HOE; have HO_6 := n0_; have HO_8 := n1_; have HO_9 := n2_; have HO_10 := n3_; have HOE := n4_; have HOD := n5_; clear n0_ n1_ n2_ n3_ n4_ n5_; replace HB := Aside0.mk (below_step zz138 hb); (try clear hb); (try clear ho0); obtain ⟨Ao46, co46, eo46⟩ := Kd.R_slice HOD.out; subst eo46) | ((with_reducible refine gate_callee (f := 19) rfl ?_); refine goesL_ (some 62) rfl rfl Try.func19 (by kernel_rfl) rfl #[.slice Ao22 tT.length co22, .slice Ao46 tAJ.length co46] rfl zz137 ?_; (with_reducible refine (laws_eqRatS.calls kj12 _ _ tT _ _ tAJ true _ ?side1 ?side2 ?side3 ?side4 A37.out).mono ?_); (case side1 => repeat (first | exact (Kd.R_reads' HO_9.out).2.2 | (with_reducible refine Kd.C_alloc ?_ _) | (with_reducible refine Kd.C_drewN ?_ _) | (with_reducible refine Kd.C_drew ?_))); (case side2 => exact (Kd.R_reads' HO_9.out).2.1); (case side3 => repeat (first | exact (Kd.R_reads' HOD.out).2.2 | (with_reducible refine Kd.C_alloc ?_ _) | (with_reducible refine Kd.C_drewN ?_ _) | (with_reducible refine Kd.C_drew ?_))); (case side4 => exact (Kd.R_reads' HOD.out).2.1); rintro e w47 ⟨rfl, hb⟩; refine ⟨_, rfl, ?_⟩; have n0_ := Aside0.mk (Kd.R_below zz204 hb); have n1_ := Aside0.mk (Kd.R_below zz205 hb); have n2_ := Aside0.mk (Kd.R_below zz206 hb); have n3_ := Aside0.mk (Kd.R_below zz201 hb); have n4_ := Aside0.mk (Kd.R_below zz193 hb); have n5_ := Aside0.mk (Kd.R_below zz194 hb); clear HO_6 HO_8 HO_9 HO_10 HOE HOD; have HO_6 := n0_; have HO_8 := n1_; have HO_9 := n2_; have HO_10 := n3_; have HOE := n4_; have HOD := n5_; clear n0_ n1_ n2_ n3_ n4_ n5_; replace HB := Aside0.mk (below_step zz138 hb); (try clear hb)) | ((with_reducible refine gate_callee (f := 28) rfl ?_); refine goesL_ (some 66) rfl rfl Try.func28 (by kernel_rfl) rfl #[.slice Ao21 tS.length co21, .int .i64 1] rfl zz137 ?_; (with_reducible refine (laws_markPointS.calls kj12 (fun k_ => some k_ = (.slice Ao21 tS.length co21 : Value).ownBlock) (.slice Ao21 tS.length co21) tS 1 tAL tAS w _ ?side1 ?side2 A39.out).mono ?_); (case side1 => repeat (first | (with_reducible first | exact HB.out | apply below_alloc | apply pw_below_drewN | apply below_drew1) | exact HB.out)); (case side2 => exact Kd.R_tight rfl HO_8.out); rintro e w48 ⟨rfl, hy0, hb, hkp⟩; refine ⟨_, rfl, ?_⟩; have n0_ := Aside0.mk (Kd.R_mono (ok' := fun k_ => some k_ ≠ (.slice Ao22 tT.length co22 : Value).ownBlock ∧ some k_ ≠ (vAF : Value).ownBlock ∧ some k_ ≠ (.slice Ao46 tAJ.length co46 : Value).ownBlock) (Kd.R_keptB ((Kd.R_apart' HO_6.out (Kd.R_typed HO_8.out) (by decide))) hkp (fun k_ hk_ hs_ => (hk_.2) hs_)) (fun k_ hk_ => ⟨hk_.1.1.1.1, hk_.1.1.1.2, hk_.1.1.2⟩)); have n1_ := Aside0.mk (Kd.R_reok rfl hy0 (fun k_ e_ => HO_8.out.1 k_ e_)); have n2_ := Aside0.mk (Kd.R_mono (ok' := fun k_ => some k_ ≠ (vAC : Value).ownBlock ∧ some k_ ≠ (vAF : Value).ownBlock ∧ some k_ ≠ (.slice Ao46 tAJ.length co46 : Value).ownBlock) (Kd.R_keptB ((Kd.R_apart' HO_9.out (Kd.R_typed HO_8.out) (by decide))) hkp (fun k_ hk_ hs_ => (hk_.2) hs_)) (fun k_ hk_ => ⟨hk_.1.1.1.1, hk_.1.1.1.2, hk_.1.1.2⟩)); have n3_ := Aside0.mk (Kd.R_mono (ok' := fun k_ => some k_ ≠ (vAC : Value).ownBlock ∧ some k_ ≠ (.slice Ao22 tT.length co22 : Value).ownBlock ∧ some k_ ≠ (.slice Ao46 tAJ.length co46 : Value).ownBlock) (Kd.R_keptB ((Kd.R_apart' HO_10.out (Kd.R_typed HO_8.out) (by decide))) hkp (fun k_ hk_ hs_ => (hk_.2) hs_)) (fun k_ hk_ => ⟨hk_.1.1.1.1, hk_.1.1.1.2, hk_.1.1.2⟩)); have n4_ := Aside0.mk (Kd.R_mono (ok' := fun k_ => some k_ ≠ (.slice Ao21 tS.length co21 : Value).ownBlock) (Kd.R_keptB (HOE.out) hkp (fun k_ hk_ hs_ => (hk_.2) hs_)) (fun k_ hk_ => hk_.1.2)); have n5_ := Aside0.mk (Kd.R_mono (ok' := fun k_ => some k_ ≠ (vAC : Value).ownBlock ∧ some k_ ≠ (.slice Ao22 tT.length co22 : Value).ownBlock ∧ some k_ ≠ (vAF : Value).ownBlock) (Kd.R_keptB ((Kd.R_apart' HOD.out (Kd.R_typed HO_8.out) (by decide))) hkp (fun k_ hk_ hs_ => (hk_.2) hs_)) (fun k_ hk_ => ⟨hk_.1.1.1.1.2, hk_.1.1.1.2, hk_.1.1.2⟩)); clear HO_6 HO_8 HO_9 HO_10 HOE HOD; have HO_6 := n0_; have HO_8 := n1_; have HO_9 := n2_; have HO_10 := n3_; have HOE := n4_; have HOD := n5_; clear n0_ n1_ n2_ n3_ n4_ n5_; replace HB := Aside0.mk (hb); (try clear hb); (try clear hkp); (try clear hy0)) | ((with_reducible refine gate_callee (f := 20) rfl ?_); refine goesL_ (some 69) rfl rfl Try.func20 (by kernel_rfl) rfl #[.slice Ao22 tT.length co22, .int .i64 tAL] rfl zz137 ?_; (with_reducible refine (laws_markRatS.calls kj12 (fun k_ => some k_ = (.slice Ao22 tT.length co22 : Value).ownBlock) (.slice Ao22 tT.length co22) tT tAL tAM tAU w _ ?side1 ?side2 A40.out).mono ?_); (case side1 => repeat (first | (with_reducible first | exact HB.out | apply below_alloc | apply pw_below_drewN | apply below_drew1) | exact HB.out)); (case side2 => exact Kd.R_tight rfl HO_9.out); rintro e w49 ⟨rfl, hy0, hb, hkp⟩; refine ⟨_, rfl, ?_⟩; have n0_ := Aside0.mk (Kd.R_mono (ok' := fun k_ => some k_ ≠ (.slice Ao22 tT.length co22 : Value).ownBlock ∧ some k_ ≠ (vAF : Value).ownBlock ∧ some k_ ≠ (.slice Ao46 tAJ.length co46 : Value).ownBlock) (Kd.R_keptB (HO_6.out) hkp (fun k_ hk_ hs_ => (hk_.1) hs_)) (fun k_ hk_ => ⟨hk_.1.1, hk_.1.2.1, hk_.1.2.2⟩)); have n1_ := Aside0.mk (Kd.R_mono (ok' := fun k_ => some k_ ≠ (.slice Ao43 tAH.length co43 : Value).ownBlock) (Kd.R_keptB ((Kd.R_apart' HO_8.out (Kd.R_typed HO_9.out) (by decide))) hkp (fun k_ hk_ hs_ => (hk_.2) hs_)) (fun k_ hk_ => hk_.1.1.2)); have n2_ := Aside0.mk (Kd.R_reok rfl hy0 (fun k_ e_ => HO_9.out.1 k_ e_)); have n3_ := Aside0.mk (Kd.R_mono (ok' := fun k_ => some k_ ≠ (vAC : Value).ownBlock ∧ some k_ ≠ (.slice Ao22 tT.length co22 : Value).ownBlock ∧ some k_ ≠ (.slice Ao46 tAJ.length co46 : Value).ownBlock) (Kd.R_keptB (HO_10.out) hkp (fun k_ hk_ hs_ => (hk_.2.1) hs_)) (fun k_ hk_ => ⟨hk_.1.1, hk_.1.2.1, hk_.1.2.2⟩)); have n4_ := Aside0.mk (Kd.R_mono (ok' := fun k_ => some k_ ≠ (.slice Ao21 tS.length co21 : Value).ownBlock) (Kd.R_keptB ((Kd.R_apart' HOE.out (Kd.R_typed HO_9.out) (by decide))) hkp (fun k_ hk_ hs_ => (hk_.2) hs_)) (fun k_ hk_ => hk_.1.1)); have n5_ := Aside0.mk (Kd.R_mono (ok' := fun k_ => some k_ ≠ (vAC : Value).ownBlock ∧ some k_ ≠ (.slice Ao22 tT.length co22 : Value).ownBlock ∧ some k_ ≠ (vAF : Value).ownBlock) (Kd.R_keptB (HOD.out) hkp (fun k_ hk_ hs_ => (hk_.2.1) hs_)) (fun k_ hk_ => ⟨hk_.1.1, hk_.1.2.1, hk_.1.2.2⟩)); clear HO_6 HO_8 HO_9 HO_10 HOE HOD; have HO_6 := n0_; have HO_8 := n1_; have HO_9 := n2_; have HO_10 := n3_; have HOE := n4_; have HOD := n5_; clear n0_ n1_ n2_ n3_ n4_ n5_; replace HB := Aside0.mk (hb); (try clear hb); (try clear hkp); (try clear hy0)))
        (try simp only [Act.put, List.setIfInBounds_toArray, List.set_cons_zero, List.set_cons_succ]); go_cut [82] (fun v82 wc => ∃ (kq : Nat) (x82_40 : Bool), v82 = .bool x82_40 ∧ Aside0 (laws_FnExactExtendPseudo.j1 kq l0 l1 tR tV tM x82_40 = some r) ∧ Aside0 (kq ≤ kj12) ∧ Aside0 (Kd.R k47 47 wc w.heap.size (fun k_ => some k_ ≠ (vAF : Value).ownBlock) vAC tR) ∧ Aside0 (Kd.R k47 47 wc w.heap.size (fun k_ => some k_ ≠ (vAC : Value).ownBlock) vAF tM) ∧ Aside0 (Below w.heap.size w wc))
        case first =>
         have H := HC41.out; clear HC41; by_cases c50 : tAM < 0
         ·rw [if_pos c50] at H; have c50b0 : decide (tAM < 0) = true := decide_eq_true c50; clear c50; (first | rw [c50b0] | (simp only [i64_w, i32_w]; rw [c50b0]) | skip)
          have H' := Aside0.mk H; clear H; go_wp2
          go_meet
          case rel => exact ⟨_, (true), zz217, H', ⟨by have := HJ12.out; first | omega | exact Nat.le_refl _⟩, ⟨by (with_reducible repeat (first | apply Kd.R_alloc | apply Kd.R_drewN | apply Kd.R_drew)); exact Kd.R_mono HO_6.out (fun _ hk => hk.2.1)⟩, ⟨by (with_reducible repeat (first | apply Kd.R_alloc | apply Kd.R_drewN | apply Kd.R_drew)); exact Kd.R_mono HO_10.out (fun _ hk => hk.1)⟩, ⟨by repeat (first | (with_reducible first | exact HB.out | apply below_alloc | apply pw_below_drewN | apply below_drew1) | exact HB.out)⟩⟩
         ·rw [if_neg c50] at H; have c50b0 : decide (tAM < 0) = false := decide_eq_false c50; clear c50; (first | rw [c50b0] | (simp only [i64_w, i32_w]; rw [c50b0]) | skip)
          replace H := Option.bind_eq_some_iff.mp H; obtain ⟨tAN, AAY, H⟩ := H; replace H : (if tAN = true then (laws_FnExactExtendPseudo.j1 kj12 l0 l1 tR tV tM (tY != tV)) else (laws_FnExactExtendPseudo.j1 kj12 l0 l1 tR tV tM true)) = some r := H; have A51 := Aside0.mk AAY; clear AAY; by_cases c52 : tAN = true
          ·subst c52; have H1 : (laws_FnExactExtendPseudo.j1 kj12 l0 l1 tR tV tM (tY != tV)) = some r := by rw [if_pos rfl] at H; exact H
           clear H; have H := H1; clear H1; have H' := Aside0.mk H; clear H; obtain ⟨Ao53, co53, eo53⟩ := Kd.R_slice HO_10.out; subst eo53; obtain ⟨Ao54, co54, eo54⟩ := Kd.R_slice HO_6.out; subst eo54; go_wp2_with (first | (go_at_call 19; (with_reducible refine (laws_eqRatS.calls kj12 _ _ tM _ _ tR true _ ?side1 ?side2 ?side3 ?side4 A51.out).mono ?_); (case side1 => repeat (first | exact (Kd.R_reads' HO_10.out).2.2 | (with_reducible refine Kd.C_alloc ?_ _) | (with_reducible refine Kd.C_drewN ?_ _) | (with_reducible refine Kd.C_drew ?_))); (case side2 => exact (Kd.R_reads' HO_10.out).2.1); (case side3 => repeat (first | exact (Kd.R_reads' HO_6.out).2.2 | (with_reducible refine Kd.C_alloc ?_ _) | (with_reducible refine Kd.C_drewN ?_ _) | (with_reducible refine Kd.C_drew ?_))); (case side4 => exact (Kd.R_reads' HO_6.out).2.1); rintro e w55 ⟨rfl, hb⟩; have n0_ := Aside0.mk (Kd.R_below zz204 hb); have n1_ := Aside0.mk (Kd.R_below zz205 hb); have n2_ := Aside0.mk (Kd.R_below zz206 hb); have n3_ := Aside0.mk (Kd.R_below zz201 hb); have n4_ := Aside0.mk (Kd.R_below zz193 hb); have n5_ := Aside0.mk (Kd.R_below zz194 hb); clear HO_6 HO_8 HO_9 HO_10 HOE HOD; have HO_6 := n0_; have HO_8 := n1_; have HO_9 := n2_; have HO_10 := n3_; have HOE := n4_; have HOD := n5_; clear n0_ n1_ n2_ n3_ n4_ n5_; replace HB := Aside0.mk (below_step zz138 hb); (try clear hb)))
           go_meet
           case rel => exact ⟨_, ((tY != tV)), zz217, H', ⟨by have := HJ12.out; first | omega | exact Nat.le_refl _⟩, ⟨by (with_reducible repeat (first | apply Kd.R_alloc | apply Kd.R_drewN | apply Kd.R_drew)); exact Kd.R_mono HO_6.out (fun _ hk => hk.2.1)⟩, ⟨by (with_reducible repeat (first | apply Kd.R_alloc | apply Kd.R_drewN | apply Kd.R_drew)); exact Kd.R_mono HO_10.out (fun _ hk => hk.1)⟩, ⟨by repeat (first | (with_reducible first | exact HB.out | apply below_alloc | apply pw_below_drewN | apply below_drew1) | exact HB.out)⟩⟩
          ·replace c52 := Bool.eq_false_iff.mpr c52; subst c52; have H1 : (laws_FnExactExtendPseudo.j1 kj12 l0 l1 tR tV tM true) = some r := by rw [if_neg (show ¬ (false = true) by decide)] at H; exact H
           clear H; have H := H1; clear H1; have H' := Aside0.mk H; clear H; obtain ⟨Ao56, co56, eo56⟩ := Kd.R_slice HO_10.out; subst eo56; obtain ⟨Ao57, co57, eo57⟩ := Kd.R_slice HO_6.out; subst eo57; go_wp2_with (first | (go_at_call 19; (with_reducible refine (laws_eqRatS.calls kj12 _ _ tM _ _ tR false _ ?side1 ?side2 ?side3 ?side4 A51.out).mono ?_); (case side1 => repeat (first | exact (Kd.R_reads' HO_10.out).2.2 | (with_reducible refine Kd.C_alloc ?_ _) | (with_reducible refine Kd.C_drewN ?_ _) | (with_reducible refine Kd.C_drew ?_))); (case side2 => exact (Kd.R_reads' HO_10.out).2.1); (case side3 => repeat (first | exact (Kd.R_reads' HO_6.out).2.2 | (with_reducible refine Kd.C_alloc ?_ _) | (with_reducible refine Kd.C_drewN ?_ _) | (with_reducible refine Kd.C_drew ?_))); (case side4 => exact (Kd.R_reads' HO_6.out).2.1); rintro e w58 ⟨rfl, hb⟩; have n0_ := Aside0.mk (Kd.R_below zz204 hb); have n1_ := Aside0.mk (Kd.R_below zz205 hb); have n2_ := Aside0.mk (Kd.R_below zz206 hb); have n3_ := Aside0.mk (Kd.R_below zz201 hb); have n4_ := Aside0.mk (Kd.R_below zz193 hb); have n5_ := Aside0.mk (Kd.R_below zz194 hb); clear HO_6 HO_8 HO_9 HO_10 HOE HOD; have HO_6 := n0_; have HO_8 := n1_; have HO_9 := n2_; have HO_10 := n3_; have HOE := n4_; have HOD := n5_; clear n0_ n1_ n2_ n3_ n4_ n5_; replace HB := Aside0.mk (below_step zz138 hb); (try clear hb)))
           go_meet
           case rel => exact ⟨_, (true), zz217, H', ⟨by have := HJ12.out; first | omega | exact Nat.le_refl _⟩, ⟨by (with_reducible repeat (first | apply Kd.R_alloc | apply Kd.R_drewN | apply Kd.R_drew)); exact Kd.R_mono HO_6.out (fun _ hk => hk.2.1)⟩, ⟨by (with_reducible repeat (first | apply Kd.R_alloc | apply Kd.R_drewN | apply Kd.R_drew)); exact Kd.R_mono HO_10.out (fun _ hk => hk.1)⟩, ⟨by repeat (first | (with_reducible first | exact HB.out | apply below_alloc | apply pw_below_drewN | apply below_drew1) | exact HB.out)⟩⟩
        case rest =>
         clear HC41; try clear c1
         try clear c2
         try clear p2
         try clear c3
         try clear c4
         try clear c4b0
         try clear c5
         try clear c6
         try clear c6b0
         try clear c13
         try clear c15
         try clear c17
         try clear c19
         try clear c20
         try clear c25
         try clear c28
         try clear c30
         try clear c32
         try clear c35
         try clear c38
         try clear c50
         try clear c50b0
         try clear c51
         try clear c52
         try clear p2
         obtain ⟨kq, x82_40, rfl, HA, HJ40, HO_6, HO_10, HB⟩ := hcut; cases kq with
         | zero => exact absurd HA.out (by simp [laws_FnExactExtendPseudo.j1])
         | succ kj40 =>
          have H := HA.out; clear HA; simp only [laws_FnExactExtendPseudo.j1] at H; by_cases c59 : x82_40 = true
          ·subst c59; have H1 : (some false) = some r := by rw [if_pos rfl] at H; exact H
           clear H; have H := H1; clear H1; obtain rfl := Option.some.inj H; go_wp2
           go_ret
           exact ⟨by first | rfl | (simp [errW_none, errW_some] <;> rfl) | (simp [*, errW_none, errW_some] <;> rfl), by repeat (first | (with_reducible first | exact HB.out | apply below_alloc | apply pw_below_drewN | apply below_drew1) | exact HB.out)⟩
          ·replace c59 := Bool.eq_false_iff.mpr c59; subst c59; have H1 : ((laws_markRatS.f kj40 tM 1).bind fun btAZ => ((laws_heldRatS.f kj40 btAZ.2 1).bind fun tBA => (if tBA < 0 then (some false) else (if tBA = btAZ.1 then ((laws_toPointS.f kj40 l0).bind fun tBB => ((laws_toRatS.f kj40 l1).bind fun tBC => ((impl_ExtendPseudo.f kj40 tBB tBC).bind fun btBD => ((laws_eqRatS.f kj40 btBD.1 tR).bind fun tBE => (if tBE = true then (laws_FnExactExtendPseudo.j2 kj40 btAZ.2 btAZ.1 (btBD.2 != tV)) else (laws_FnExactExtendPseudo.j2 kj40 btAZ.2 btAZ.1 true)))))) else (some false))))) = some r := by rw [if_neg (show ¬ (false = true) by decide)] at H; exact H
           clear H; have H := H1; clear H1; replace H := Option.bind_eq_some_iff.mp H; obtain ⟨⟨tAZ, tL⟩, ABF, H⟩ := H; replace H : ((laws_heldRatS.f kj40 tL 1).bind fun tBA => (if tBA < 0 then (some false) else (if tBA = tAZ then ((laws_toPointS.f kj40 l0).bind fun tBB => ((laws_toRatS.f kj40 l1).bind fun tBC => ((impl_ExtendPseudo.f kj40 tBB tBC).bind fun btBD => ((laws_eqRatS.f kj40 btBD.1 tR).bind fun tBE => (if tBE = true then (laws_FnExactExtendPseudo.j2 kj40 tL tAZ (btBD.2 != tV)) else (laws_FnExactExtendPseudo.j2 kj40 tL tAZ true)))))) else (some false)))) = some r := H; have A60 := Aside0.mk ABF; clear ABF; replace H := Option.bind_eq_some_iff.mp H; obtain ⟨tBA, ABG, H⟩ := H; replace H : (if tBA < 0 then (some false) else (if tBA = tAZ then ((laws_toPointS.f kj40 l0).bind fun tBB => ((laws_toRatS.f kj40 l1).bind fun tBC => ((impl_ExtendPseudo.f kj40 tBB tBC).bind fun btBD => ((laws_eqRatS.f kj40 btBD.1 tR).bind fun tBE => (if tBE = true then (laws_FnExactExtendPseudo.j2 kj40 tL tAZ (btBD.2 != tV)) else (laws_FnExactExtendPseudo.j2 kj40 tL tAZ true)))))) else (some false))) = some r := H; have A61 := Aside0.mk ABG; clear ABG; by_cases c62 : tBA < 0
           ·rw [if_pos c62] at H; have c62b0 : decide (tBA < 0) = true := decide_eq_true c62; clear c62; obtain rfl := Option.some.inj H; obtain ⟨Ao63, co63, eo63⟩ := Kd.R_slice HO_10.out; subst eo63; go_wp2_with (first | ((with_reducible refine gate_callee (f := 20) rfl ?_); refine goesL_ (some 85) rfl rfl Try.func20 (by kernel_rfl) rfl #[.slice Ao63 tM.length co63, .int .i64 1] rfl zz137 ?_; (with_reducible refine (laws_markRatS.calls kj40 (fun k_ => some k_ = (.slice Ao63 tM.length co63 : Value).ownBlock) (.slice Ao63 tM.length co63) tM 1 tAZ tL w _ ?side1 ?side2 A60.out).mono ?_); (case side1 => repeat (first | (with_reducible first | exact HB.out | apply below_alloc | apply pw_below_drewN | apply below_drew1) | exact HB.out)); (case side2 => exact Kd.R_tight rfl HO_10.out); rintro e w64 ⟨rfl, hy0, hb, hkp⟩; refine ⟨_, rfl, ?_⟩; have n0_ := Aside0.mk (Kd.R_mono (ok' := fun k_ => some k_ ≠ (.slice Ao63 tM.length co63 : Value).ownBlock) (Kd.R_keptB (HO_6.out) hkp (fun k_ hk_ hs_ => (hk_) hs_)) (fun k_ hk_ => hk_.1)); have n1_ := Aside0.mk (Kd.R_reok rfl hy0 (fun k_ e_ => HO_10.out.1 k_ e_)); clear HO_6 HO_10; have HO_6 := n0_; have HO_10 := n1_; clear n0_ n1_; replace HB := Aside0.mk (hb); (try clear hb); (try clear hkp); (try clear hy0)) | ((with_reducible refine gate_callee (f := 21) rfl ?_); refine goesL_ (some 88) rfl rfl Try.func21 (by kernel_rfl) rfl #[.slice Ao63 tL.length co63, .int .i64 1] rfl zz56 ?_; (with_reducible refine (laws_heldRatS.calls kj40 _ _ tL 1 tBA _ ?side1 ?side2 A61.out).mono ?_); (case side1 => repeat (first | exact (Kd.R_reads' HO_10.out).2.2 | (with_reducible refine Kd.C_alloc ?_ _) | (with_reducible refine Kd.C_drewN ?_ _) | (with_reducible refine Kd.C_drew ?_))); (case side2 => rw [show tL.length = tM.length from (Kd.R_reads' HO_10.out).1.symm]; exact (Kd.R_reads' HO_10.out).2.1); rintro e w' ⟨rfl, ⟨nd, rfl⟩⟩; refine ⟨_, rfl, ?_⟩))
            go_ret
            exact ⟨by first | rfl | (simp [errW_none, errW_some] <;> rfl) | (simp [*, errW_none, errW_some] <;> rfl), by repeat (first | (with_reducible first | exact HB.out | apply below_alloc | apply pw_below_drewN | apply below_drew1) | exact HB.out)⟩
           ·rw [if_neg c62] at H; have c62b0 : decide (tBA < 0) = false := decide_eq_false c62; clear c62; by_cases c65 : tBA = tAZ
            ·rw [if_pos c65] at H; have c65b0 : (tBA == tAZ) = true := beq_iff_eq.mpr c65; have c65b1 : (tBA != tAZ) = false := bne_eq_false_iff_eq.mpr c65; clear c65; replace H := Option.bind_eq_some_iff.mp H; obtain ⟨tBB, ABH, H⟩ := H; replace H : ((laws_toRatS.f kj40 l1).bind fun tBC => ((impl_ExtendPseudo.f kj40 tBB tBC).bind fun btBD => ((laws_eqRatS.f kj40 btBD.1 tR).bind fun tBE => (if tBE = true then (laws_FnExactExtendPseudo.j2 kj40 tL tAZ (btBD.2 != tV)) else (laws_FnExactExtendPseudo.j2 kj40 tL tAZ true))))) = some r := H; have A66 := Aside0.mk ABH; clear ABH; replace H := Option.bind_eq_some_iff.mp H; obtain ⟨tBC, ABI, H⟩ := H; replace H : ((impl_ExtendPseudo.f kj40 tBB tBC).bind fun btBD => ((laws_eqRatS.f kj40 btBD.1 tR).bind fun tBE => (if tBE = true then (laws_FnExactExtendPseudo.j2 kj40 tL tAZ (btBD.2 != tV)) else (laws_FnExactExtendPseudo.j2 kj40 tL tAZ true)))) = some r := H; have A67 := Aside0.mk ABI; clear ABI; replace H := Option.bind_eq_some_iff.mp H; obtain ⟨⟨tBD, tBJ⟩, ABK, H⟩ := H; replace H : ((laws_eqRatS.f kj40 tBD tR).bind fun tBE => (if tBE = true then (laws_FnExactExtendPseudo.j2 kj40 tL tAZ (tBJ != tV)) else (laws_FnExactExtendPseudo.j2 kj40 tL tAZ true))) = some r := H; have A68 := Aside0.mk ABK; clear ABK; have HC69 := Aside0.mk H; clear H; obtain ⟨Ao70, co70, eo70⟩ := Kd.R_slice HO_10.out; subst eo70; go_upto_region 32 with (first | ((with_reducible refine gate_callee (f := 20) rfl ?_); refine goesL_ (some 85) rfl rfl Try.func20 (by kernel_rfl) rfl #[.slice Ao70 tM.length co70, .int .i64 1] rfl zz137 ?_; (with_reducible refine (laws_markRatS.calls kj40 (fun k_ => some k_ = (.slice Ao70 tM.length co70 : Value).ownBlock) (.slice Ao70 tM.length co70) tM 1 tAZ tL w _ ?side1 ?side2 A60.out).mono ?_); (case side1 => repeat (first | (with_reducible first | exact HB.out | apply below_alloc | apply pw_below_drewN | apply below_drew1) | exact HB.out)); (case side2 => exact Kd.R_tight rfl HO_10.out); rintro e w71 ⟨rfl, hy0, hb, hkp⟩; refine ⟨_, rfl, ?_⟩; have n0_ := Aside0.mk (Kd.R_mono (ok' := fun k_ => some k_ ≠ (.slice Ao70 tM.length co70 : Value).ownBlock) (Kd.R_keptB (HO_6.out) hkp (fun k_ hk_ hs_ => (hk_) hs_)) (fun k_ hk_ => hk_.1)); have n1_ := Aside0.mk (Kd.R_reok rfl hy0 (fun k_ e_ => HO_10.out.1 k_ e_)); clear HO_6 HO_10; have HO_6 := n0_; have HO_10 := n1_; clear n0_ n1_; replace HB := Aside0.mk (hb); (try clear hb); (try clear hkp); (try clear hy0)) | ((with_reducible refine gate_callee (f := 21) rfl ?_); refine goesL_ (some 88) rfl rfl Try.func21 (by kernel_rfl) rfl #[.slice Ao70 tL.length co70, .int .i64 1] rfl zz56 ?_; (with_reducible refine (laws_heldRatS.calls kj40 _ _ tL 1 tBA _ ?side1 ?side2 A61.out).mono ?_); (case side1 => repeat (first | exact (Kd.R_reads' HO_10.out).2.2 | (with_reducible refine Kd.C_alloc ?_ _) | (with_reducible refine Kd.C_drewN ?_ _) | (with_reducible refine Kd.C_drew ?_))); (case side2 => rw [show tL.length = tM.length from (Kd.R_reads' HO_10.out).1.symm]; exact (Kd.R_reads' HO_10.out).2.1); rintro e w' ⟨rfl, ⟨nd, rfl⟩⟩; refine ⟨_, rfl, ?_⟩) | ((with_reducible refine gate_callee (f := 32) rfl ?_); refine goesL_ (some 96) rfl rfl Try.func32 (by kernel_rfl) rfl #[.slice A0 l0.length c0] rfl zz137 ?_; (with_reducible refine (laws_toPointS.calls kj40 _ _ l0 tBB _ ?side1 ?side2 A66.out).mono ?_); (case side1 => repeat (first | exact (Kd.C_below HR0.out zz138) | (with_reducible refine Kd.C_alloc ?_ _) | (with_reducible refine Kd.C_drewN ?_ _) | (with_reducible refine Kd.C_drew ?_))); (case side2 => exact HC0.out); rintro e w72 ⟨vBL, rfl, ho0, hb⟩; refine ⟨_, rfl, ?_⟩; have n0_ := Aside0.mk (Kd.R_below zz204 hb); have n1_ := Aside0.mk (Kd.R_below zz201 hb); have n2_ := Aside0.mk (Kd.R_lower ho0 (below_size zz138)); clear HO_6 HO_10; have HO_6 := n0_; have HO_10 := n1_; have HOC := n2_; clear n0_ n1_ n2_; replace HB := Aside0.mk (below_step zz138 hb); (try clear hb); (try clear ho0)) | ((with_reducible refine gate_callee (f := 17) rfl ?_); refine goesL_ (some 98) rfl rfl Try.func17 (by kernel_rfl) rfl #[.slice A1 l1.length c1] rfl zz137 ?_; (with_reducible refine (laws_toRatS.calls kj40 _ _ l1 tBC _ ?side1 ?side2 A67.out).mono ?_); (case side1 => repeat (first | exact (Kd.C_below HR1.out HB.out) | (with_reducible refine Kd.C_alloc ?_ _) | (with_reducible refine Kd.C_drewN ?_ _) | (with_reducible refine Kd.C_drew ?_))); (case side2 => exact HC1.out); rintro e w73 ⟨vBM, rfl, ho0, hb⟩; refine ⟨_, rfl, ?_⟩; have n0_ := Aside0.mk (Kd.R_elder' zz204 (Kd.R_base ho0) hb); have n1_ := Aside0.mk (Kd.R_elder' zz201 (Kd.R_base ho0) hb); have n2_ := Aside0.mk (Kd.R_below zz195 hb); have n3_ := Aside0.mk (Kd.R_lower (Kd.R_new' (Kd.R_new' ho0 (Kd.R_lt zz204)) (Kd.R_lt zz201)) (below_size zz138)); clear HO_6 HO_10 HOC; have HO_6 := n0_; have HO_10 := n1_; have HOC := n2_; have HOB := n3_; clear n0_ n1_ n2_ n3_; replace HB := Aside0.mk (below_step zz138 hb); (try clear hb); (try clear ho0); obtain ⟨Ao74, co74, eo74⟩ := Kd.R_slice HOC.out; subst eo74; obtain ⟨Ao75, co75, eo75⟩ := Kd.R_slice HOB.out; subst eo75) | ((with_reducible refine gate_callee (f := 52) rfl ?_); refine goesL_ (some 99) rfl rfl Try.func52 (by kernel_rfl) rfl #[.slice Ao74 tBB.length co74, .slice Ao75 tBC.length co75] rfl zz137 ?_; (with_reducible refine (impl_ExtendPseudo.calls kj40 _ _ tBB _ _ tBC tBD tBJ _ ?side1 ?side2 ?side3 ?side4 A68.out).mono ?_); (case side1 => repeat (first | exact (Kd.R_reads' HOC.out).2.2 | (with_reducible refine Kd.C_alloc ?_ _) | (with_reducible refine Kd.C_drewN ?_ _) | (with_reducible refine Kd.C_drew ?_))); (case side2 => exact (Kd.R_reads' HOC.out).2.1); (case side3 => repeat (first | exact (Kd.R_reads' HOB.out).2.2 | (with_reducible refine Kd.C_alloc ?_ _) | (with_reducible refine Kd.C_drewN ?_ _) | (with_reducible refine Kd.C_drew ?_))); (case side4 => exact (Kd.R_reads' HOB.out).2.1); rintro e w76 ⟨vBN, rfl, ho0, hb⟩; refine ⟨_, rfl, ?_⟩; have n0_ := Aside0.mk (Kd.R_elder' zz204 (Kd.R_base ho0) hb); have n1_ := Aside0.mk (Kd.R_elder' zz201 (Kd.R_base ho0) hb); have n2_ := Aside0.mk (Kd.R_below zz195 hb); have n3_ := Aside0.mk (Kd.R_elder' zz196 (Kd.R_base ho0) hb); have n4_ := Aside0.mk (Kd.R_lower (Kd.R_new' (Kd.R_new' (Kd.R_new' ho0 (Kd.R_lt zz204)) (Kd.R_lt zz201)) (Kd.R_lt zz196)) (below_size zz138)); clear HO_6 HO_10 HOC HOB; have HO_6 := n0_; have HO_10 := n1_; have HOC := n2_; have HOB := n3_; have HOA := n4_; clear n0_ n1_ n2_ n3_ n4_; replace HB := Aside0.mk (below_step zz138 hb); (try clear hb); (try clear ho0)))
             (try simp only [Act.put, List.setIfInBounds_toArray, List.set_cons_zero, List.set_cons_succ]); go_cut [110] (fun vX wc => ∃ (kq : Nat) (xX_68 : Bool), vX = .bool xX_68 ∧ Aside0 (laws_FnExactExtendPseudo.j2 kq tL tAZ xX_68 = some r) ∧ Aside0 (kq ≤ kj40) ∧ Aside0 (Kd.R k47 47 wc w.heap.size (fun _ => True) (.slice Ao70 tM.length co70) tL) ∧ Aside0 (Below w.heap.size w wc))
             case first =>
              have H := HC69.out; clear HC69; replace H := Option.bind_eq_some_iff.mp H; obtain ⟨tBE, ABO, H⟩ := H; replace H : (if tBE = true then (laws_FnExactExtendPseudo.j2 kj40 tL tAZ (tBJ != tV)) else (laws_FnExactExtendPseudo.j2 kj40 tL tAZ true)) = some r := H; have A77 := Aside0.mk ABO; clear ABO; by_cases c78 : tBE = true
              ·subst c78; have H1 : (laws_FnExactExtendPseudo.j2 kj40 tL tAZ (tBJ != tV)) = some r := by rw [if_pos rfl] at H; exact H
               clear H; have H := H1; clear H1; have H' := Aside0.mk H; clear H; obtain ⟨Ao79, co79, eo79⟩ := Kd.R_slice HOA.out; subst eo79; obtain ⟨Ao80, co80, eo80⟩ := Kd.R_slice HO_6.out; subst eo80; go_wp2_with (first | ((with_reducible refine gate_callee (f := 19) rfl ?_); refine goesL_ (some 104) rfl rfl Try.func19 (by kernel_rfl) rfl #[.slice Ao79 tBD.length co79, .slice Ao80 tR.length co80] rfl zz137 ?_; (with_reducible refine (laws_eqRatS.calls kj40 _ _ tBD _ _ tR true _ ?side1 ?side2 ?side3 ?side4 A77.out).mono ?_); (case side1 => repeat (first | exact (Kd.R_reads' HOA.out).2.2 | (with_reducible refine Kd.C_alloc ?_ _) | (with_reducible refine Kd.C_drewN ?_ _) | (with_reducible refine Kd.C_drew ?_))); (case side2 => exact (Kd.R_reads' HOA.out).2.1); (case side3 => repeat (first | exact (Kd.R_reads' HO_6.out).2.2 | (with_reducible refine Kd.C_alloc ?_ _) | (with_reducible refine Kd.C_drewN ?_ _) | (with_reducible refine Kd.C_drew ?_))); (case side4 => exact (Kd.R_reads' HO_6.out).2.1); rintro e w81 ⟨rfl, hb⟩; refine ⟨_, rfl, ?_⟩; have n0_ := Aside0.mk (Kd.R_below zz204 hb); have n1_ := Aside0.mk (Kd.R_below zz201 hb); have n2_ := Aside0.mk (Kd.R_below zz195 hb); have n3_ := Aside0.mk (Kd.R_below zz196 hb); have n4_ := Aside0.mk (Kd.R_below zz197 hb); clear HO_6 HO_10 HOC HOB HOA; have HO_6 := n0_; have HO_10 := n1_; have HOC := n2_; have HOB := n3_; have HOA := n4_; clear n0_ n1_ n2_ n3_ n4_; replace HB := Aside0.mk (below_step zz138 hb); (try clear hb)))
               go_meet
               case rel => exact ⟨_, ((tBJ != tV)), zz217, H', ⟨by have := HJ12.out; have := HJ40.out; first | omega | exact Nat.le_refl _⟩, ⟨by (with_reducible repeat (first | apply Kd.R_alloc | apply Kd.R_drewN | apply Kd.R_drew)); exact Kd.R_mono HO_10.out (fun _ hk => trivial)⟩, ⟨by repeat (first | (with_reducible first | exact HB.out | apply below_alloc | apply pw_below_drewN | apply below_drew1) | exact HB.out)⟩⟩
              ·replace c78 := Bool.eq_false_iff.mpr c78; subst c78; have H1 : (laws_FnExactExtendPseudo.j2 kj40 tL tAZ true) = some r := by rw [if_neg (show ¬ (false = true) by decide)] at H; exact H
               clear H; have H := H1; clear H1; have H' := Aside0.mk H; clear H; obtain ⟨Ao82, co82, eo82⟩ := Kd.R_slice HOA.out; subst eo82; obtain ⟨Ao83, co83, eo83⟩ := Kd.R_slice HO_6.out; subst eo83; go_wp2_with (first | ((with_reducible refine gate_callee (f := 19) rfl ?_); refine goesL_ (some 104) rfl rfl Try.func19 (by kernel_rfl) rfl #[.slice Ao82 tBD.length co82, .slice Ao83 tR.length co83] rfl zz137 ?_; (with_reducible refine (laws_eqRatS.calls kj40 _ _ tBD _ _ tR false _ ?side1 ?side2 ?side3 ?side4 A77.out).mono ?_); (case side1 => repeat (first | exact (Kd.R_reads' HOA.out).2.2 | (with_reducible refine Kd.C_alloc ?_ _) | (with_reducible refine Kd.C_drewN ?_ _) | (with_reducible refine Kd.C_drew ?_))); (case side2 => exact (Kd.R_reads' HOA.out).2.1); (case side3 => repeat (first | exact (Kd.R_reads' HO_6.out).2.2 | (with_reducible refine Kd.C_alloc ?_ _) | (with_reducible refine Kd.C_drewN ?_ _) | (with_reducible refine Kd.C_drew ?_))); (case side4 => exact (Kd.R_reads' HO_6.out).2.1); rintro e w84 ⟨rfl, hb⟩; refine ⟨_, rfl, ?_⟩; have n0_ := Aside0.mk (Kd.R_below zz204 hb); have n1_ := Aside0.mk (Kd.R_below zz201 hb); have n2_ := Aside0.mk (Kd.R_below zz195 hb); have n3_ := Aside0.mk (Kd.R_below zz196 hb); have n4_ := Aside0.mk (Kd.R_below zz197 hb); clear HO_6 HO_10 HOC HOB HOA; have HO_6 := n0_; have HO_10 := n1_; have HOC := n2_; have HOB := n3_; have HOA := n4_; clear n0_ n1_ n2_ n3_ n4_; replace HB := Aside0.mk (below_step zz138 hb); (try clear hb)))
               go_meet
               case rel => exact ⟨_, (true), zz217, H', ⟨by have := HJ12.out; have := HJ40.out; first | omega | exact Nat.le_refl _⟩, ⟨by (with_reducible repeat (first | apply Kd.R_alloc | apply Kd.R_drewN | apply Kd.R_drew)); exact Kd.R_mono HO_10.out (fun _ hk => trivial)⟩, ⟨by repeat (first | (with_reducible first | exact HB.out | apply below_alloc | apply pw_below_drewN | apply below_drew1) | exact HB.out)⟩⟩
             case rest =>
              clear HC69; try clear c1
              try clear c2
              try clear p2
              try clear c3
              try clear c4
              try clear c4b0
              try clear c5
              try clear c6
              try clear c6b0
              try clear c7
              try clear c13
              try clear c15
              try clear c17
              try clear c19
              try clear c20
              try clear c21
              try clear c25
              try clear c28
              try clear c30
              try clear c32
              try clear c35
              try clear c38
              try clear c50
              try clear c50b0
              try clear c51
              try clear c52
              try clear c59
              try clear c62
              try clear c62b0
              try clear c65
              try clear c65b0
              try clear c65b1
              try clear c78
              try clear p2
              obtain ⟨kq, xX_68, rfl, HA, HJ68, HO_10, HB⟩ := hcut; have hl10_68 := (Kd.R_reads' HO_10.out).1; rw [hl10_68] at HO_10; (try simp only [hl10_68]); cases kq with
              | zero => exact absurd HA.out (by simp [laws_FnExactExtendPseudo.j2])
              | succ kj68 =>
               have H := HA.out; clear HA; simp only [laws_FnExactExtendPseudo.j2] at H; by_cases c85 : xX_68 = true
               ·subst c85; have H1 : (some false) = some r := by rw [if_pos rfl] at H; exact H
                clear H; have H := H1; clear H1; obtain rfl := Option.some.inj H; go_wp2
                go_ret
                exact ⟨by first | rfl | (simp [errW_none, errW_some] <;> rfl) | (simp [*, errW_none, errW_some] <;> rfl), by repeat (first | (with_reducible first | exact HB.out | apply below_alloc | apply pw_below_drewN | apply below_drew1) | exact HB.out)⟩
               ·replace c85 := Bool.eq_false_iff.mpr c85; subst c85; have H1 : ((laws_heldRatS.f kj68 tL 1).bind fun tBP => (if tBP < 0 then (some false) else (if tBP = tAZ then (some true) else (some false)))) = some r := by rw [if_neg (show ¬ (false = true) by decide)] at H; exact H
                clear H; have H := H1; clear H1; replace H := Option.bind_eq_some_iff.mp H; obtain ⟨tBP, ABQ, H⟩ := H; replace H : (if tBP < 0 then (some false) else (if tBP = tAZ then (some true) else (some false))) = some r := H; have A86 := Aside0.mk ABQ; clear ABQ; by_cases c87 : tBP < 0
                ·rw [if_pos c87] at H; have c87b0 : decide (tBP < 0) = true := decide_eq_true c87; clear c87; obtain rfl := Option.some.inj H; go_wp2_with (first | ((with_reducible refine gate_callee (f := 21) rfl ?_); refine goesL_ (some 113) rfl rfl Try.func21 (by kernel_rfl) rfl #[.slice Ao70 tL.length co70, .int .i64 1] rfl zz137 ?_; (with_reducible refine (laws_heldRatS.calls kj68 _ _ tL 1 tBP _ ?side1 ?side2 A86.out).mono ?_); (case side1 => repeat (first | exact (Kd.R_reads' HO_10.out).2.2 | (with_reducible refine Kd.C_alloc ?_ _) | (with_reducible refine Kd.C_drewN ?_ _) | (with_reducible refine Kd.C_drew ?_))); (case side2 => exact (Kd.R_reads' HO_10.out).2.1); rintro e w' ⟨rfl, ⟨nd, rfl⟩⟩; refine ⟨_, rfl, ?_⟩))
                 go_ret
                 exact ⟨by first | rfl | (simp [errW_none, errW_some] <;> rfl) | (simp [*, errW_none, errW_some] <;> rfl), by repeat (first | (with_reducible first | exact HB.out | apply below_alloc | apply pw_below_drewN | apply below_drew1) | exact HB.out)⟩
                ·rw [if_neg c87] at H; have c87b0 : decide (tBP < 0) = false := decide_eq_false c87; clear c87; by_cases c88 : tBP = tAZ
                 ·rw [if_pos c88] at H; have c88b0 : (tBP == tAZ) = true := beq_iff_eq.mpr c88; have c88b1 : (tBP != tAZ) = false := bne_eq_false_iff_eq.mpr c88; clear c88; obtain rfl := Option.some.inj H; go_wp2_with (first | ((with_reducible refine gate_callee (f := 21) rfl ?_); refine goesL_ (some 113) rfl rfl Try.func21 (by kernel_rfl) rfl #[.slice Ao70 tL.length co70, .int .i64 1] rfl zz137 ?_; (with_reducible refine (laws_heldRatS.calls kj68 _ _ tL 1 tBP _ ?side1 ?side2 A86.out).mono ?_); (case side1 => repeat (first | exact (Kd.R_reads' HO_10.out).2.2 | (with_reducible refine Kd.C_alloc ?_ _) | (with_reducible refine Kd.C_drewN ?_ _) | (with_reducible refine Kd.C_drew ?_))); (case side2 => exact (Kd.R_reads' HO_10.out).2.1); rintro e w' ⟨rfl, ⟨nd, rfl⟩⟩; refine ⟨_, rfl, ?_⟩))
                  go_ret
                  exact ⟨by first | rfl | (simp [errW_none, errW_some] <;> rfl) | (simp [*, errW_none, errW_some] <;> rfl), by repeat (first | (with_reducible first | exact HB.out | apply below_alloc | apply pw_below_drewN | apply below_drew1) | exact HB.out)⟩
                 ·rw [if_neg c88] at H; have c88b0 : (tBP == tAZ) = false := beq_eq_false_iff_ne.mpr c88; have c88b1 : (tBP != tAZ) = true := bne_iff_ne.mpr c88; obtain rfl := Option.some.inj H; go_wp2_with (first | ((with_reducible refine gate_callee (f := 21) rfl ?_); refine goesL_ (some 113) rfl rfl Try.func21 (by kernel_rfl) rfl #[.slice Ao70 tL.length co70, .int .i64 1] rfl zz137 ?_; (with_reducible refine (laws_heldRatS.calls kj68 _ _ tL 1 tBP _ ?side1 ?side2 A86.out).mono ?_); (case side1 => repeat (first | exact (Kd.R_reads' HO_10.out).2.2 | (with_reducible refine Kd.C_alloc ?_ _) | (with_reducible refine Kd.C_drewN ?_ _) | (with_reducible refine Kd.C_drew ?_))); (case side2 => exact (Kd.R_reads' HO_10.out).2.1); rintro e w' ⟨rfl, ⟨nd, rfl⟩⟩; refine ⟨_, rfl, ?_⟩))
                  go_ret
                  exact ⟨by first | rfl | (simp [errW_none, errW_some] <;> rfl) | (simp [*, errW_none, errW_some] <;> rfl), by repeat (first | (with_reducible first | exact HB.out | apply below_alloc | apply pw_below_drewN | apply below_drew1) | exact HB.out)⟩
            ·rw [if_neg c65] at H; have c65b0 : (tBA == tAZ) = false := beq_eq_false_iff_ne.mpr c65; have c65b1 : (tBA != tAZ) = true := bne_iff_ne.mpr c65; obtain rfl := Option.some.inj H; obtain ⟨Ao89, co89, eo89⟩ := Kd.R_slice HO_10.out; subst eo89; go_wp2_with (first | ((with_reducible refine gate_callee (f := 20) rfl ?_); refine goesL_ (some 85) rfl rfl Try.func20 (by kernel_rfl) rfl #[.slice Ao89 tM.length co89, .int .i64 1] rfl zz137 ?_; (with_reducible refine (laws_markRatS.calls kj40 (fun k_ => some k_ = (.slice Ao89 tM.length co89 : Value).ownBlock) (.slice Ao89 tM.length co89) tM 1 tAZ tL w _ ?side1 ?side2 A60.out).mono ?_); (case side1 => repeat (first | (with_reducible first | exact HB.out | apply below_alloc | apply pw_below_drewN | apply below_drew1) | exact HB.out)); (case side2 => exact Kd.R_tight rfl HO_10.out); rintro e w90 ⟨rfl, hy0, hb, hkp⟩; refine ⟨_, rfl, ?_⟩; have n0_ := Aside0.mk (Kd.R_mono (ok' := fun k_ => some k_ ≠ (.slice Ao89 tM.length co89 : Value).ownBlock) (Kd.R_keptB (HO_6.out) hkp (fun k_ hk_ hs_ => (hk_) hs_)) (fun k_ hk_ => hk_.1)); have n1_ := Aside0.mk (Kd.R_reok rfl hy0 (fun k_ e_ => HO_10.out.1 k_ e_)); clear HO_6 HO_10; have HO_6 := n0_; have HO_10 := n1_; clear n0_ n1_; replace HB := Aside0.mk (hb); (try clear hb); (try clear hkp); (try clear hy0)) | ((with_reducible refine gate_callee (f := 21) rfl ?_); refine goesL_ (some 88) rfl rfl Try.func21 (by kernel_rfl) rfl #[.slice Ao89 tL.length co89, .int .i64 1] rfl zz56 ?_; (with_reducible refine (laws_heldRatS.calls kj40 _ _ tL 1 tBA _ ?side1 ?side2 A61.out).mono ?_); (case side1 => repeat (first | exact (Kd.R_reads' HO_10.out).2.2 | (with_reducible refine Kd.C_alloc ?_ _) | (with_reducible refine Kd.C_drewN ?_ _) | (with_reducible refine Kd.C_drew ?_))); (case side2 => rw [show tL.length = tM.length from (Kd.R_reads' HO_10.out).1.symm]; exact (Kd.R_reads' HO_10.out).2.1); rintro e w' ⟨rfl, ⟨nd, rfl⟩⟩; refine ⟨_, rfl, ?_⟩))
             go_ret
             exact ⟨by first | rfl | (simp [errW_none, errW_some] <;> rfl) | (simp [*, errW_none, errW_some] <;> rfl), by repeat (first | (with_reducible first | exact HB.out | apply below_alloc | apply pw_below_drewN | apply below_drew1) | exact HB.out)⟩
       ·replace c38 := Bool.eq_false_iff.mpr c38; subst c38; have H1 : (some false) = some r := by rw [if_neg (show ¬ (false = true) by decide)] at H; exact H
        clear H; have H := H1; clear H1; obtain rfl := Option.some.inj H; go_wp2_with (first | ((with_reducible refine gate_callee (f := 32) rfl ?_); refine goesL_ (some 56) rfl rfl Try.func32 (by kernel_rfl) rfl #[.slice A0 l0.length c0] rfl zz137 ?_; (with_reducible refine (laws_toPointS.calls kj12 _ _ l0 tAH _ ?side1 ?side2 A33.out).mono ?_); (case side1 => repeat (first | exact (Kd.C_below HR0.out HB.out) | (with_reducible refine Kd.C_alloc ?_ _) | (with_reducible refine Kd.C_drewN ?_ _) | (with_reducible refine Kd.C_drew ?_))); (case side2 => exact HC0.out); rintro e w91 ⟨vAW, rfl, ho0, hb⟩; refine ⟨_, rfl, ?_⟩; have n0_ := Aside0.mk (Kd.R_below zz204 hb); have n1_ := Aside0.mk (Kd.R_elder' zz205 (Kd.R_base ho0) hb); have n2_ := Aside0.mk (Kd.R_below zz206 hb); have n3_ := Aside0.mk (Kd.R_below zz201 hb); have n4_ := Aside0.mk (Kd.R_lower (Kd.R_new' ho0 (Kd.R_lt zz205)) (below_size zz138)); clear HO_6 HO_8 HO_9 HO_10; have HO_6 := n0_; have HO_8 := n1_; have HO_9 := n2_; have HO_10 := n3_; have HOE := n4_; clear n0_ n1_ n2_ n3_ n4_; replace HB := Aside0.mk (below_step zz138 hb); (try clear hb); (try clear ho0); obtain ⟨Ao92, co92, eo92⟩ := Kd.R_slice HOE.out; subst eo92) | ((with_reducible refine gate_callee (f := 25) rfl ?_); refine goesL_ (some 57) rfl rfl Try.func25 (by kernel_rfl) rfl #[.slice Ao21 tS.length co21, .slice Ao92 tAH.length co92] rfl zz137 ?_; (with_reducible refine (laws_eqPointS.calls kj12 _ _ tS _ _ tAH true _ ?side1 ?side2 ?side3 ?side4 A34.out).mono ?_); (case side1 => repeat (first | exact (Kd.R_reads' HO_8.out).2.2 | (with_reducible refine Kd.C_alloc ?_ _) | (with_reducible refine Kd.C_drewN ?_ _) | (with_reducible refine Kd.C_drew ?_))); (case side2 => exact (Kd.R_reads' HO_8.out).2.1); (case side3 => repeat (first | exact (Kd.R_reads' HOE.out).2.2 | (with_reducible refine Kd.C_alloc ?_ _) | (with_reducible refine Kd.C_drewN ?_ _) | (with_reducible refine Kd.C_drew ?_))); (case side4 => exact (Kd.R_reads' HOE.out).2.1); rintro e w93 ⟨rfl, hb⟩; refine ⟨_, rfl, ?_⟩; have n0_ := Aside0.mk (Kd.R_below zz204 hb); have n1_ := Aside0.mk (Kd.R_below zz205 hb); have n2_ := Aside0.mk (Kd.R_below zz206 hb); have n3_ := Aside0.mk (Kd.R_below zz201 hb); have n4_ := Aside0.mk (Kd.R_below zz193 hb); clear HO_6 HO_8 HO_9 HO_10 HOE; have HO_6 := n0_; have HO_8 := n1_; have HO_9 := n2_; have HO_10 := n3_; have HOE := n4_; clear n0_ n1_ n2_ n3_ n4_; replace HB := Aside0.mk (below_step zz138 hb); (try clear hb)) | ((with_reducible refine gate_callee (f := 17) rfl ?_); refine goesL_ (some 61) rfl rfl Try.func17 (by kernel_rfl) rfl #[.slice A1 l1.length c1] rfl zz137 ?_; (with_reducible refine (laws_toRatS.calls kj12 _ _ l1 tAJ _ ?side1 ?side2 A36.out).mono ?_); (case side1 => repeat (first | exact (Kd.C_below HR1.out HB.out) | (with_reducible refine Kd.C_alloc ?_ _) | (with_reducible refine Kd.C_drewN ?_ _) | (with_reducible refine Kd.C_drew ?_))); (case side2 => exact HC1.out); rintro e w94 ⟨vAX, rfl, ho0, hb⟩; refine ⟨_, rfl, ?_⟩; have n0_ := Aside0.mk (Kd.R_elder' zz204 (Kd.R_base ho0) hb); have n1_ := Aside0.mk (Kd.R_below zz205 hb); have n2_ := Aside0.mk (Kd.R_elder' zz206 (Kd.R_base ho0) hb); have n3_ := Aside0.mk (Kd.R_elder' zz201 (Kd.R_base ho0) hb); have n4_ := Aside0.mk (Kd.R_below zz193 hb); have n5_ := Aside0.mk (Kd.R_lower (Kd.R_new' (Kd.R_new' (Kd.R_new' ho0 (Kd.R_lt zz204)) (Kd.R_lt zz206)) (Kd.R_lt zz201)) (below_size zz138)); clear HO_6 HO_8 HO_9 HO_10 HOE; have HO_6 := n0_; have HO_8 := n1_; have HO_9 := n2_; have HO_10 := n3_; have HOE := n4_; have HOD := n5_; clear n0_ n1_ n2_ n3_ n4_ n5_; replace HB := Aside0.mk (below_step zz138 hb); (try clear hb); (try clear ho0); obtain ⟨Ao95, co95, eo95⟩ := Kd.R_slice HOD.out; subst eo95) | ((with_reducible refine gate_callee (f := 19) rfl ?_); refine goesL_ (some 62) rfl rfl Try.func19 (by kernel_rfl) rfl #[.slice Ao22 tT.length co22, .slice Ao95 tAJ.length co95] rfl zz137 ?_; (with_reducible refine (laws_eqRatS.calls kj12 _ _ tT _ _ tAJ false _ ?side1 ?side2 ?side3 ?side4 A37.out).mono ?_); (case side1 => repeat (first | exact (Kd.R_reads' HO_9.out).2.2 | (with_reducible refine Kd.C_alloc ?_ _) | (with_reducible refine Kd.C_drewN ?_ _) | (with_reducible refine Kd.C_drew ?_))); (case side2 => exact (Kd.R_reads' HO_9.out).2.1); (case side3 => repeat (first | exact (Kd.R_reads' HOD.out).2.2 | (with_reducible refine Kd.C_alloc ?_ _) | (with_reducible refine Kd.C_drewN ?_ _) | (with_reducible refine Kd.C_drew ?_))); (case side4 => exact (Kd.R_reads' HOD.out).2.1); rintro e w96 ⟨rfl, hb⟩; refine ⟨_, rfl, ?_⟩; have n0_ := Aside0.mk (Kd.R_below zz204 hb); have n1_ := Aside0.mk (Kd.R_below zz205 hb); have n2_ := Aside0.mk (Kd.R_below zz206 hb); have n3_ := Aside0.mk (Kd.R_below zz201 hb); have n4_ := Aside0.mk (Kd.R_below zz193 hb); have n5_ := Aside0.mk (Kd.R_below zz194 hb); clear HO_6 HO_8 HO_9 HO_10 HOE HOD; have HO_6 := n0_; have HO_8 := n1_; have HO_9 := n2_; have HO_10 := n3_; have HOE := n4_; have HOD := n5_; clear n0_ n1_ n2_ n3_ n4_ n5_; replace HB := Aside0.mk (below_step zz138 hb); (try clear hb)))
        go_ret
        exact ⟨by first | rfl | (simp [errW_none, errW_some] <;> rfl) | (simp [*, errW_none, errW_some] <;> rfl), by repeat (first | (with_reducible first | exact HB.out | apply below_alloc | apply pw_below_drewN | apply below_drew1) | exact HB.out)⟩
      ·replace c35 := Bool.eq_false_iff.mpr c35; subst c35; have H1 : (some false) = some r := by rw [if_neg (show ¬ (false = true) by decide)] at H; exact H
       clear H; have H := H1; clear H1; obtain rfl := Option.some.inj H; go_wp2_with (first | ((with_reducible refine gate_callee (f := 32) rfl ?_); refine goesL_ (some 56) rfl rfl Try.func32 (by kernel_rfl) rfl #[.slice A0 l0.length c0] rfl zz137 ?_; (with_reducible refine (laws_toPointS.calls kj12 _ _ l0 tAH _ ?side1 ?side2 A33.out).mono ?_); (case side1 => repeat (first | exact (Kd.C_below HR0.out HB.out) | (with_reducible refine Kd.C_alloc ?_ _) | (with_reducible refine Kd.C_drewN ?_ _) | (with_reducible refine Kd.C_drew ?_))); (case side2 => exact HC0.out); rintro e w97 ⟨vAW, rfl, ho0, hb⟩; refine ⟨_, rfl, ?_⟩; have n0_ := Aside0.mk (Kd.R_below zz204 hb); have n1_ := Aside0.mk (Kd.R_elder' zz205 (Kd.R_base ho0) hb); have n2_ := Aside0.mk (Kd.R_below zz206 hb); have n3_ := Aside0.mk (Kd.R_below zz201 hb); have n4_ := Aside0.mk (Kd.R_lower (Kd.R_new' ho0 (Kd.R_lt zz205)) (below_size zz138)); clear HO_6 HO_8 HO_9 HO_10; have HO_6 := n0_; have HO_8 := n1_; have HO_9 := n2_; have HO_10 := n3_; have HOE := n4_; clear n0_ n1_ n2_ n3_ n4_; replace HB := Aside0.mk (below_step zz138 hb); (try clear hb); (try clear ho0); obtain ⟨Ao98, co98, eo98⟩ := Kd.R_slice HOE.out; subst eo98) | ((with_reducible refine gate_callee (f := 25) rfl ?_); refine goesL_ (some 57) rfl rfl Try.func25 (by kernel_rfl) rfl #[.slice Ao21 tS.length co21, .slice Ao98 tAH.length co98] rfl zz137 ?_; (with_reducible refine (laws_eqPointS.calls kj12 _ _ tS _ _ tAH false _ ?side1 ?side2 ?side3 ?side4 A34.out).mono ?_); (case side1 => repeat (first | exact (Kd.R_reads' HO_8.out).2.2 | (with_reducible refine Kd.C_alloc ?_ _) | (with_reducible refine Kd.C_drewN ?_ _) | (with_reducible refine Kd.C_drew ?_))); (case side2 => exact (Kd.R_reads' HO_8.out).2.1); (case side3 => repeat (first | exact (Kd.R_reads' HOE.out).2.2 | (with_reducible refine Kd.C_alloc ?_ _) | (with_reducible refine Kd.C_drewN ?_ _) | (with_reducible refine Kd.C_drew ?_))); (case side4 => exact (Kd.R_reads' HOE.out).2.1); rintro e w99 ⟨rfl, hb⟩; refine ⟨_, rfl, ?_⟩; have n0_ := Aside0.mk (Kd.R_below zz204 hb); have n1_ := Aside0.mk (Kd.R_below zz205 hb); have n2_ := Aside0.mk (Kd.R_below zz206 hb); have n3_ := Aside0.mk (Kd.R_below zz201 hb); have n4_ := Aside0.mk (Kd.R_below zz193 hb); clear HO_6 HO_8 HO_9 HO_10 HOE; have HO_6 := n0_; have HO_8 := n1_; have HO_9 := n2_; have HO_10 := n3_; have HOE := n4_; clear n0_ n1_ n2_ n3_ n4_; replace HB := Aside0.mk (below_step zz138 hb); (try clear hb)))
       go_ret
       exact ⟨by first | rfl | (simp [errW_none, errW_some] <;> rfl) | (simp [*, errW_none, errW_some] <;> rfl), by repeat (first | (with_reducible first | exact HB.out | apply below_alloc | apply pw_below_drewN | apply below_drew1) | exact HB.out)⟩
def laws_FnExactExtendPseudo.Pure : Prop := ∀ (l0 : List (S87)) (l1 : List (S43)), l0.length ≤ maxLen → (∀ x ∈ l0, (((Lit.int .i64 x.f0.f0).wf = true ∧ (Lit.int .i64 x.f0.f1).wf = true) ∧ ((Lit.int .i64 x.f1.f0).wf = true ∧ (Lit.int .i64 x.f1.f1).wf = true))) → l1.length ≤ maxLen → (∀ x ∈ l1, ((Lit.int .i64 x.f0).wf = true ∧ (Lit.int .i64 x.f1).wf = true)) → ∃ k, laws_FnExactExtendPseudo.f k l0 l1 = some true
end Go.Proofs.Ytgejkhbehoabdaa.Q
set_option linter.unusedVariables false
set_option linter.unusedSimpArgs false
namespace Go.Proofs.Ytgejkhbehoabdaa.Pu
open Go.RowKit Go.Proofs.Ytgejkhbehoabdaa.Q Go.Proofs.YtgejkhbehoabdaaW.PrintWords Go.Proofs.YtgejkhbehoabdaaW.PrintLast Go.Proofs.YtgejkhbehoabdaaW.PrintMore
theorem wr (x : Int) (h : -9223372036854775808 ≤ x ∧ x ≤ 9223372036854775807) : wrap64 x = x := by unfold wrap64; omega
theorem drop_getD {α : Type} (l : List α) (i : Nat) (d : α) (h : i < l.length) : l.drop i = l.getD i d :: l.drop (i + 1) := by
  rw [List.drop_eq_getElem_cons h, List.getD_eq_getElem?_getD, List.getElem?_eq_getElem h]
  rfl
theorem getD_setG {α : Type} (l : List α) (i j : Nat) (v d : α) (hi : i < l.length) : (l.set i v).getD j d = if i = j then v else l.getD j d := by
  simp only [List.getD_eq_getElem?_getD, List.getElem?_set]
  by_cases e : i = j
  · subst e; simp [hi]
  · simp [e]
theorem ext_getDG {α : Type} (d : α) (a b : List α) (hl : a.length = b.length) (h : ∀ j, j < a.length → a.getD j d = b.getD j d) : a = b := by
  apply List.ext_getElem hl
  intro j h1 h2
  have := h j h1
  simpa [List.getD_eq_getElem?_getD, h1, h2] using this
theorem half_lt (b r n : Nat) (hb : b < 2 ^ (n + 1)) (hr : r < b) (h0 : 0 < r) : b % r < 2 ^ n := by
  have h1 : b % r < r := Nat.mod_lt _ h0
  have h2 := Nat.div_add_mod b r
  have h3 : 1 ≤ b / r := (Nat.one_le_div_iff h0).2 (Nat.le_of_lt hr)
  have h4 : r * 1 ≤ r * (b / r) := Nat.mul_le_mul_left r h3
  have h5 : 2 ^ (n + 1) = 2 * 2 ^ n := by rw [Nat.pow_succ]; omega
  omega
theorem gcd_l : ∀ (n k a b : Nat), b < 2 ^ n → 2 * n + 1 < k → impl_greatestDivisor.l0 k (a : Int) (b : Int) = some ((Nat.gcd a b : Nat) : Int) := by
  intro n
  induction n with
  | zero =>
    intro k a b hb hk
    obtain ⟨k, rfl⟩ : ∃ m, k = m + 1 := ⟨k - 1, by omega⟩
    have : b = 0 := by simpa using hb
    subst this
    simp [impl_greatestDivisor.l0]
  | succ n ih =>
    intro k a b hb hk
    obtain ⟨k, rfl⟩ : ∃ m, k = m + 2 := ⟨k - 2, by omega⟩
    simp only [impl_greatestDivisor.l0]
    by_cases h0 : b = 0
    · subst h0; simp
    · rw [if_neg (by omega), ← Int.ofNat_tmod]
      by_cases h1 : a % b = 0
      · rw [h1, if_pos (by rfl), Nat.gcd_comm, Nat.gcd_rec, h1, Nat.gcd_zero_left]
      · rw [if_neg (by omega), ← Int.ofNat_tmod, ih k _ _ (half_lt b (a % b) n hb (Nat.mod_lt _ (by omega)) (by omega)) (by omega)]
        congr 2
        rw [Nat.gcd_comm a b, Nat.gcd_rec b a, Nat.gcd_rec (a % b) b, Nat.gcd_comm]
theorem raCommon_l : ∀ (n k a b : Nat), b < 2 ^ n → 2 * n + 1 < k → spec_raCommon.l0 k (a : Int) (b : Int) = some ((Nat.gcd a b : Nat) : Int) := by
  intro n
  induction n with
  | zero =>
    intro k a b hb hk
    obtain ⟨k, rfl⟩ : ∃ m, k = m + 1 := ⟨k - 1, by omega⟩
    have : b = 0 := by simpa using hb
    subst this
    simp [spec_raCommon.l0]
  | succ n ih =>
    intro k a b hb hk
    obtain ⟨k, rfl⟩ : ∃ m, k = m + 2 := ⟨k - 2, by omega⟩
    simp only [spec_raCommon.l0]
    by_cases h0 : b = 0
    · subst h0; simp
    · rw [if_pos (by omega), if_neg (by omega), ← Int.ofNat_tmod]
      by_cases h1 : a % b = 0
      · rw [h1, if_neg (by simp), Nat.gcd_comm, Nat.gcd_rec, h1, Nat.gcd_zero_left]
      · rw [if_pos (by omega), if_neg (by omega), ← Int.ofNat_tmod, ih k _ _ (half_lt b (a % b) n hb (Nat.mod_lt _ (by omega)) (by omega)) (by omega)]
        congr 2
        rw [Nat.gcd_comm a b, Nat.gcd_rec b a, Nat.gcd_rec (a % b) b, Nat.gcd_comm]
theorem abs_eq (a : Int) (h : -9223372036854775807 ≤ a ∧ a ≤ 9223372036854775807) : impl_abs.f a = some (a.natAbs : Int) := by
  unfold impl_abs.f
  split
  · rw [wr _ (by omega)]; congr 1; omega
  · congr 1; omega
theorem l1Abs_eq (a : Int) (h : -9223372036854775807 ≤ a ∧ a ≤ 9223372036854775807) : spec_l1Abs.f a = some (a.natAbs : Int) := by
  unfold spec_l1Abs.f spec_l1Most.f
  rw [wr _ (by omega)]
  split
  · simp only [Option.bind_some]; congr 1; omega
  · simp only [Option.bind_some]; congr 1; omega
theorem gcd_eq (a b : Int) (ha : -9223372036854775807 ≤ a ∧ a ≤ 9223372036854775807) (hb : -9223372036854775807 ≤ b ∧ b ≤ 9223372036854775807) (k : Nat) (hk : 200 ≤ k) : impl_greatestDivisor.f k a b = some ((Int.gcd a b : Nat) : Int) := by
  unfold impl_greatestDivisor.f
  rw [abs_eq a ha, abs_eq b hb]
  simp only [Option.bind_some]
  rw [gcd_l 64 k _ _ (by omega) (by omega)]
  rfl
def OkR (n d : Int) : Prop := 1 ≤ d ∧ d ≤ 1000000000 ∧ -1000000000 ≤ n ∧ n ≤ 1000000000 ∧ Int.gcd n d = 1
instance (n d : Int) : Decidable (OkR n d) := by unfold OkR; infer_instance
theorem isRat_eq (n d : Int) (k : Nat) (hk : 200 ≤ k) : impl_isRat.f k n d = some (decide (OkR n d)) := by
  unfold impl_isRat.f impl_within.f OkR
  by_cases h1 : 1 ≤ d
  · rw [if_pos h1]
    simp only [Option.bind_some]
    by_cases h2 : d ≤ 1000000000
    · rw [if_pos (by simpa using h2)]
      by_cases h3 : -1000000000 ≤ n
      · rw [if_pos h3]
        simp only [Option.bind_some]
        by_cases h4 : n ≤ 1000000000
        · rw [if_pos (by simpa using h4), gcd_eq n d (by omega) (by omega) k hk]
          simp only [Option.bind_some]
          congr 1
          simp only [h1, h2, h3, h4, true_and]
          rw [Bool.eq_iff_iff]
          simp only [beq_iff_eq, decide_eq_true_eq]
          omega
        · rw [if_neg (by simpa using h4)]; simp [h4]
      · rw [if_neg h3]; simp [h3]
    · rw [if_neg (by simpa using h2)]; simp [h2]
  · rw [if_neg h1]; simp [h1]
theorem raGood_eq (n d : Int) (k : Nat) (hk : 200 ≤ k) : spec_raGood.f k n d = some (decide (OkR n d)) := by
  unfold spec_raGood.f spec_l1In.f OkR
  by_cases h1 : 1 ≤ d
  · rw [if_pos h1]
    simp only [Option.bind_some]
    by_cases h2 : d ≤ 1000000000
    · rw [if_pos (by simpa using h2)]
      by_cases h3 : -1000000000 ≤ n
      · rw [if_pos h3]
        simp only [Option.bind_some]
        by_cases h4 : n ≤ 1000000000
        · rw [if_pos (by simpa using h4), l1Abs_eq n (by omega)]
          simp only [Option.bind_some]
          unfold spec_raCommon.f
          have := raCommon_l 64 k n.natAbs d.natAbs (by omega) (by omega)
          rw [show (d.natAbs : Int) = d by omega] at this
          rw [this]
          simp only [Option.bind_some]
          congr 1
          simp only [h1, h2, h3, h4, true_and]
          rw [Bool.eq_iff_iff, Int.gcd_eq_natAbs_gcd_natAbs]
          simp only [beq_iff_eq, decide_eq_true_eq]
          omega
        · rw [if_neg (by simpa using h4)]; simp [h4]
      · rw [if_neg h3]; simp [h3]
    · rw [if_neg (by simpa using h2)]; simp [h2]
  · rw [if_neg h1]; simp [h1]
def sg (n d : Int) : Int := if d < 0 then -(Int.gcd n d : Int) else (Int.gcd n d : Int)
def mk (n d : Int) : Int × Int × Bool := if OkR (n.tdiv (sg n d)) (d.tdiv (sg n d)) then (n.tdiv (sg n d), d.tdiv (sg n d), true) else (0, 0, false)
theorem tdiv_bd (n q : Int) (h : -9223372036854775807 ≤ n ∧ n ≤ 9223372036854775807) : -9223372036854775808 ≤ n.tdiv q ∧ n.tdiv q ≤ 9223372036854775807 := by
  have h1 := Int.natAbs_tdiv n q
  have h2 : n.natAbs.div q.natAbs ≤ n.natAbs := Nat.div_le_self _ _
  omega
theorem gcd_pos (n d : Int) (hd : d ≠ 0) : 0 < Int.gcd n d := by
  rw [Int.gcd_eq_natAbs_gcd_natAbs]
  exact Nat.gcd_pos_of_pos_right _ (by omega)
theorem gcd_le (n d : Int) (hd : d ≠ 0) : Int.gcd n d ≤ d.natAbs := by
  rw [Int.gcd_eq_natAbs_gcd_natAbs]
  exact Nat.gcd_le_right _ (by omega)
theorem lowest_eq (n d : Int) (hd : d ≠ 0) (hn : -9223372036854775807 ≤ n ∧ n ≤ 9223372036854775807) (hd2 : -9223372036854775807 ≤ d ∧ d ≤ 9223372036854775807) (k : Nat) (hk : 200 ≤ k) : impl_lowest.f k n d = some (mk n d) := by
  unfold impl_lowest.f mk
  have h1 := gcd_pos n d hd
  have h2 := gcd_le n d hd
  rw [gcd_eq n d hn hd2 k hk]
  simp only [Option.bind_some]
  unfold sg
  split
  · rw [wr (-(Int.gcd n d : Int)) (by omega), if_neg (by omega), wr _ (tdiv_bd _ _ hn), wr _ (tdiv_bd _ _ hd2), isRat_eq _ _ k hk]
    simp only [Option.bind_some, decide_eq_true_eq]
    split <;> rfl
  · rw [if_neg (by omega), wr _ (tdiv_bd _ _ hn), wr _ (tdiv_bd _ _ hd2), isRat_eq _ _ k hk]
    simp only [Option.bind_some, decide_eq_true_eq]
    split <;> rfl
theorem raMake_eq (n d : Int) (hd : d ≠ 0) (hn : -9223372036854775807 ≤ n ∧ n ≤ 9223372036854775807) (hd2 : -9223372036854775807 ≤ d ∧ d ≤ 9223372036854775807) (k : Nat) (hk : 200 ≤ k) : spec_raMake.f k n d = some (mk n d) := by
  unfold spec_raMake.f mk
  have h1 := gcd_pos n d hd
  have h2 := gcd_le n d hd
  rw [if_neg hd, l1Abs_eq n hn, l1Abs_eq d hd2]
  simp only [Option.bind_some]
  unfold spec_raCommon.f
  rw [raCommon_l 64 k _ _ (by omega) (by omega)]
  simp only [Option.bind_some]
  rw [← Int.gcd_eq_natAbs_gcd_natAbs]
  unfold sg
  split
  · rw [wr (-(Int.gcd n d : Int)) (by omega), if_neg (by omega), wr _ (tdiv_bd _ _ hn), wr _ (tdiv_bd _ _ hd2), raGood_eq _ _ k hk]
    simp only [Option.bind_some, decide_eq_true_eq]
    split <;> rfl
  · rw [if_neg (by omega), wr _ (tdiv_bd _ _ hn), wr _ (tdiv_bd _ _ hd2), raGood_eq _ _ k hk]
    simp only [Option.bind_some, decide_eq_true_eq]
    split <;> rfl
theorem raMake_zero (n : Int) (k : Nat) : spec_raMake.f k n 0 = some (0, 0, false) := by
  unfold spec_raMake.f
  rw [if_pos rfl]
theorem mk_ok (n d : Int) (h : (mk n d).2.2 = true) : OkR (mk n d).1 (mk n d).2.1 := by
  unfold mk at h ⊢
  split
  · rename_i h1; exact h1
  · rename_i h1; rw [if_neg h1] at h; cases h
theorem mk_bad (n d : Int) (h : (mk n d).2.2 = false) : mk n d = (0, 0, false) := by
  unfold mk at h ⊢
  split
  · rename_i h1; rw [if_pos h1] at h; cases h
  · rfl
theorem natAbs_div_le (n q : Int) : (n.tdiv q).natAbs ≤ n.natAbs := by
  rw [Int.natAbs_tdiv]
  exact Nat.div_le_self _ _
theorem mk_small (n d : Int) (hd : d ≠ 0) (hn : n.natAbs ≤ 1000000000) (hd2 : d.natAbs ≤ 1000000000) : OkR (n.tdiv (sg n d)) (d.tdiv (sg n d)) ∧ (n.tdiv (sg n d)).natAbs ≤ n.natAbs ∧ (d.tdiv (sg n d)).natAbs ≤ d.natAbs ∧ mk n d = (n.tdiv (sg n d), d.tdiv (sg n d), true) := by
  have hg := gcd_pos n d hd
  have e1 : (Int.gcd n d : Int) ∣ n := Int.gcd_dvd_left n d
  have e2 : (Int.gcd n d : Int) ∣ d := Int.gcd_dvd_right n d
  have h1 := natAbs_div_le n (sg n d)
  have h2 := natAbs_div_le d (sg n d)
  have hgo := Int.gcd_ediv_gcd_ediv_gcd hg
  have ok : OkR (n.tdiv (sg n d)) (d.tdiv (sg n d)) := by
    have hpos : 1 ≤ d.tdiv (sg n d) ∧ Int.gcd (n.tdiv (sg n d)) (d.tdiv (sg n d)) = 1 := by
      unfold sg
      split
      · rename_i hneg
        rw [Int.tdiv_neg, Int.tdiv_neg, Int.gcd_neg, Int.neg_gcd, Int.tdiv_eq_ediv_of_dvd e1, Int.tdiv_eq_ediv_of_dvd e2]
        refine ⟨?_, hgo⟩
        obtain ⟨c, hc⟩ := e2
        have : d / (Int.gcd n d : Int) = c := by
          conv => lhs; lhs; rw [hc]
          exact Int.mul_ediv_cancel_left c (by omega)
        rw [this]
        have : c < 0 := by
          rcases Int.lt_or_le c 0 with h | h
          · exact h
          · have := Int.mul_nonneg (show (0 : Int) ≤ (Int.gcd n d : Int) by omega) h
            omega
        omega
      · rename_i hpos
        rw [Int.tdiv_eq_ediv_of_dvd e1, Int.tdiv_eq_ediv_of_dvd e2]
        refine ⟨?_, hgo⟩
        obtain ⟨c, hc⟩ := e2
        have : d / (Int.gcd n d : Int) = c := by
          conv => lhs; lhs; rw [hc]
          exact Int.mul_ediv_cancel_left c (by omega)
        rw [this]
        rcases Int.lt_or_le 0 c with h | h
        · omega
        · have := Int.mul_le_mul_of_nonneg_left h (show (0 : Int) ≤ (Int.gcd n d : Int) by omega)
          rw [Int.mul_zero] at this
          omega
    exact ⟨hpos.1, by omega, by omega, by omega, hpos.2⟩
  exact ⟨ok, h1, h2, by unfold mk; rw [if_pos ok]⟩
end Go.Proofs.Ytgejkhbehoabdaa.Pu
set_option linter.unusedVariables false
set_option linter.unusedSimpArgs false
namespace Go.Proofs.Ytgejkhbehoabdaa.Pu
open Go.RowKit Go.Proofs.Ytgejkhbehoabdaa.Q Go.Proofs.YtgejkhbehoabdaaW.PrintWords Go.Proofs.YtgejkhbehoabdaaW.PrintLast Go.Proofs.YtgejkhbehoabdaaW.PrintMore
theorem rdRat (l : List S47) (i : Nat) : rd_T47 l (i : Int) = l.getD i z47 := by simp [rd_T47]
theorem rdlRat (l : List S43) (i : Nat) : rd_T43 l (i : Int) = l.getD i z43 := by simp [rd_T43]
def cvRat (x : S43) : S47 := ⟨x.f0, x.f1⟩
theorem cvRat_getD (l : List S43) (i : Nat) (h : i < l.length) : (l.map cvRat).getD i z47 = cvRat (l.getD i z43) := by
  simp [List.getD_eq_getElem?_getD, h]
theorem toRatS_l (x0 : List S43) (hb : x0.length ≤ 9000000000000000000) : ∀ (d k : Nat) (x3 : List S47) (i : Nat), i + d = x0.length → x3.length = x0.length → (∀ j, j < i → x3.getD j z47 = cvRat (x0.getD j z43)) → d < k → laws_toRatS.l0 k x0 x3 (i : Int) = some (x0.map cvRat) := by
  intro d
  induction d with
  | zero =>
    intro k x3 i hi hl hj hk
    obtain ⟨k, rfl⟩ : ∃ m, k = m + 1 := ⟨k - 1, by omega⟩
    simp only [laws_toRatS.l0]
    rw [if_neg (by omega), ext_getDG z47 x3 (x0.map cvRat) (by simpa using hl) (fun j h => by rw [hj j (by omega), cvRat_getD _ _ (by omega)])]
  | succ d ih =>
    intro k x3 i hi hl hj hk
    obtain ⟨k, rfl⟩ : ∃ m, k = m + 1 := ⟨k - 1, by omega⟩
    simp only [laws_toRatS.l0, laws_toRat.f, laws_toRat.f, Option.bind_some]
    rw [if_pos (by omega), if_pos (by omega), if_pos (by omega), wr _ (by omega), Int.toNat_natCast, rdlRat]
    refine ih k _ (i + 1) (by omega) (by simpa using hl) (fun j h => ?_) (by omega)
    rw [getD_setG _ _ _ _ _ (by omega)]
    split
    · rename_i e; rw [← e]; rfl
    · exact hj j (by omega)
theorem toRatS (l : List S43) (hb : l.length ≤ 1048576) (k : Nat) (hk : l.length < k) : laws_toRatS.f k l = some (l.map cvRat) := by
  unfold laws_toRatS.f
  rw [if_pos (by omega), if_pos (by omega)]
  exact toRatS_l l (by omega) l.length k _ 0 (by omega) (by simp) (fun j h => by omega) hk
theorem eqRat_self (x : S47) : laws_eqRat.f x.f0 x.f1 x.f0 x.f1 = some true := by
  simp [laws_eqRat.f, laws_eqRat.f]
theorem eqRatS_l (a : List S47) (hb : a.length ≤ 9000000000000000000) : ∀ (d k : Nat) (i : Nat), i + d = a.length → d < k → laws_eqRatS.l0 k a a (i : Int) = some true := by
  intro d
  induction d with
  | zero =>
    intro k i hi hk
    obtain ⟨k, rfl⟩ : ∃ m, k = m + 1 := ⟨k - 1, by omega⟩
    simp only [laws_eqRatS.l0]
    rw [if_neg (by omega)]
  | succ d ih =>
    intro k i hi hk
    obtain ⟨k, rfl⟩ : ∃ m, k = m + 1 := ⟨k - 1, by omega⟩
    simp only [laws_eqRatS.l0, eqRat_self, Option.bind_some]
    rw [if_pos (by omega), if_pos (by omega), if_pos (by omega), wr _ (by omega)]
    exact ih k (i + 1) (by omega) (by omega)
theorem eqRatS_self (a : List S47) (hb : a.length ≤ 9000000000000000000) (k : Nat) (hk : a.length < k) : laws_eqRatS.f k a a = some true := by
  unfold laws_eqRatS.f
  rw [if_pos rfl]
  exact eqRatS_l a hb a.length k 0 (by omega) hk
def mRat (q : Int) : S47 := ⟨q, q + 1⟩
def marksRat (q : Int) (n : Nat) : List S47 := (List.range n).map fun (j : Nat) => mRat (q + 2 * (j : Int))
theorem marksRat_length (q : Int) (n : Nat) : (marksRat q n).length = n := by simp [marksRat]
theorem marksRat_getD (q : Int) (n j : Nat) (h : j < n) : (marksRat q n).getD j z47 = mRat (q + 2 * (j : Int)) := by
  simp [marksRat, List.getD_eq_getElem?_getD, h]
theorem markRatS_l (n : Nat) (q : Int) (hq : -4000000000000000 ≤ q ∧ q ≤ 4000000000000000) (hb : n ≤ 4000000000000000) : ∀ (d k : Nat) (x : List S47) (i : Nat), i + d = n → x.length = n → (∀ j, j < i → x.getD j z47 = mRat (q + 2 * (j : Int))) → d < k → laws_markRatS.l0 k x (q + 2 * (i : Int)) (i : Int) = some (q + 2 * (n : Int), marksRat q n) := by
  intro d
  induction d with
  | zero =>
    intro k x i hi hl hj hk
    obtain ⟨k, rfl⟩ : ∃ m, k = m + 1 := ⟨k - 1, by omega⟩
    simp only [laws_markRatS.l0]
    rw [if_neg (by omega), ext_getDG z47 x (marksRat q n) (by rw [marksRat_length, hl]) (fun j h => by rw [hj j (by omega), marksRat_getD _ _ _ (by omega)])]
    rw [show i = n by omega]
  | succ d ih =>
    intro k x i hi hl hj hk
    obtain ⟨k, rfl⟩ : ∃ m, k = m + 1 := ⟨k - 1, by omega⟩
    simp only [laws_markRatS.l0, Option.bind_some, Int.toNat_natCast]
    rw [if_pos (by omega), if_pos (by omega)]
    repeat rw [wr _ (by omega)]
    have := ih k (x.set i (mRat (q + 2 * (i : Int)))) (i + 1) (by omega) (by simpa using hl) (fun j h => by
      rw [getD_setG _ _ _ _ _ (by omega)]
      split
      · rename_i e; rw [e]
      · exact hj j (by omega)) (by omega)
    rw [show q + 2 * ((i + 1 : Nat) : Int) = q + 2 * (i : Int) + 1 + 1 by omega] at this
    rw [← this]
    congr 1
    simp only [rdRat, List.set_set, getD_setG _ _ _ _ _ (show i < x.length by omega), List.length_set, if_true]
    try rfl
theorem markRatS (l : List S47) (q : Int) (hq : -4000000000000000 ≤ q ∧ q ≤ 4000000000000000) (hb : l.length ≤ 4000000000000000) (k : Nat) (hk : l.length < k) : laws_markRatS.f k l q = some (q + 2 * (l.length : Int), marksRat q l.length) := by
  unfold laws_markRatS.f
  have := markRatS_l l.length q hq hb l.length k l 0 (by omega) rfl (fun j h => by omega) hk
  simpa using this
theorem heldRatS_l (n : Nat) (q : Int) (hq : -4000000000000000 ≤ q ∧ q ≤ 4000000000000000) (hb : n ≤ 4000000000000000) : ∀ (d k : Nat) (i : Nat), i + d = n → d < k → laws_heldRatS.l0 k (marksRat q n) (q + 2 * (i : Int)) (i : Int) = some (q + 2 * (n : Int)) := by
  intro d
  induction d with
  | zero =>
    intro k i hi hk
    obtain ⟨k, rfl⟩ : ∃ m, k = m + 1 := ⟨k - 1, by omega⟩
    simp only [laws_heldRatS.l0, marksRat_length]
    rw [if_neg (by omega), show i = n by omega]
  | succ d ih =>
    intro k i hi hk
    obtain ⟨k, rfl⟩ : ∃ m, k = m + 1 := ⟨k - 1, by omega⟩
    simp only [laws_heldRatS.l0, marksRat_length, rdRat, marksRat_getD _ _ _ (show i < n by omega), mRat]
    rw [if_pos (by omega), if_pos (by omega)]
    simp only [if_true]
    repeat rw [wr _ (by omega)]
    have := ih k (i + 1) (by omega) (by omega)
    rw [show q + 2 * ((i + 1 : Nat) : Int) = q + 2 * (i : Int) + 1 + 1 by omega] at this
    simp only [if_true]
    exact this
theorem heldRatS (n : Nat) (q : Int) (hq : -4000000000000000 ≤ q ∧ q ≤ 4000000000000000) (hb : n ≤ 4000000000000000) (k : Nat) (hk : n < k) : laws_heldRatS.f k (marksRat q n) q = some (q + 2 * (n : Int)) := by
  unfold laws_heldRatS.f
  have := heldRatS_l n q hq hb n k 0 (by omega) hk
  simpa using this
end Go.Proofs.Ytgejkhbehoabdaa.Pu
set_option linter.unusedVariables false
set_option linter.unusedSimpArgs false
namespace Go.Proofs.Ytgejkhbehoabdaa.Pu
open Go.RowKit Go.Proofs.Ytgejkhbehoabdaa.Q Go.Proofs.YtgejkhbehoabdaaW.PrintWords Go.Proofs.YtgejkhbehoabdaaW.PrintLast Go.Proofs.YtgejkhbehoabdaaW.PrintMore
theorem rdPoint (l : List S79) (i : Nat) : rd_T79 l (i : Int) = l.getD i z79 := by simp [rd_T79]
theorem rdlPoint (l : List S87) (i : Nat) : rd_T87 l (i : Int) = l.getD i z87 := by simp [rd_T87]
def cvPoint (x : S87) : S79 := ⟨⟨x.f0.f0, x.f0.f1⟩, ⟨x.f1.f0, x.f1.f1⟩⟩
theorem cvPoint_getD (l : List S87) (i : Nat) (h : i < l.length) : (l.map cvPoint).getD i z79 = cvPoint (l.getD i z87) := by
  simp [List.getD_eq_getElem?_getD, h]
theorem toPointS_l (x0 : List S87) (hb : x0.length ≤ 9000000000000000000) : ∀ (d k : Nat) (x3 : List S79) (i : Nat), i + d = x0.length → x3.length = x0.length → (∀ j, j < i → x3.getD j z79 = cvPoint (x0.getD j z87)) → d < k → laws_toPointS.l0 k x0 x3 (i : Int) = some (x0.map cvPoint) := by
  intro d
  induction d with
  | zero =>
    intro k x3 i hi hl hj hk
    obtain ⟨k, rfl⟩ : ∃ m, k = m + 1 := ⟨k - 1, by omega⟩
    simp only [laws_toPointS.l0]
    rw [if_neg (by omega), ext_getDG z79 x3 (x0.map cvPoint) (by simpa using hl) (fun j h => by rw [hj j (by omega), cvPoint_getD _ _ (by omega)])]
  | succ d ih =>
    intro k x3 i hi hl hj hk
    obtain ⟨k, rfl⟩ : ∃ m, k = m + 1 := ⟨k - 1, by omega⟩
    simp only [laws_toPointS.l0, laws_toPoint.f, laws_toRat.f, Option.bind_some]
    rw [if_pos (by omega), if_pos (by omega), if_pos (by omega), wr _ (by omega), Int.toNat_natCast, rdlPoint]
    refine ih k _ (i + 1) (by omega) (by simpa using hl) (fun j h => ?_) (by omega)
    rw [getD_setG _ _ _ _ _ (by omega)]
    split
    · rename_i e; rw [← e]; rfl
    · exact hj j (by omega)
theorem toPointS (l : List S87) (hb : l.length ≤ 1048576) (k : Nat) (hk : l.length < k) : laws_toPointS.f k l = some (l.map cvPoint) := by
  unfold laws_toPointS.f
  rw [if_pos (by omega), if_pos (by omega)]
  exact toPointS_l l (by omega) l.length k _ 0 (by omega) (by simp) (fun j h => by omega) hk
theorem eqPoint_self (x : S79) : laws_eqPoint.f x.f0.f0 x.f0.f1 x.f1.f0 x.f1.f1 x.f0.f0 x.f0.f1 x.f1.f0 x.f1.f1 = some true := by
  simp [laws_eqPoint.f, laws_eqRat.f]
theorem eqPointS_l (a : List S79) (hb : a.length ≤ 9000000000000000000) : ∀ (d k : Nat) (i : Nat), i + d = a.length → d < k → laws_eqPointS.l0 k a a (i : Int) = some true := by
  intro d
  induction d with
  | zero =>
    intro k i hi hk
    obtain ⟨k, rfl⟩ : ∃ m, k = m + 1 := ⟨k - 1, by omega⟩
    simp only [laws_eqPointS.l0]
    rw [if_neg (by omega)]
  | succ d ih =>
    intro k i hi hk
    obtain ⟨k, rfl⟩ : ∃ m, k = m + 1 := ⟨k - 1, by omega⟩
    simp only [laws_eqPointS.l0, eqPoint_self, Option.bind_some]
    rw [if_pos (by omega), if_pos (by omega), if_pos (by omega), wr _ (by omega)]
    exact ih k (i + 1) (by omega) (by omega)
theorem eqPointS_self (a : List S79) (hb : a.length ≤ 9000000000000000000) (k : Nat) (hk : a.length < k) : laws_eqPointS.f k a a = some true := by
  unfold laws_eqPointS.f
  rw [if_pos rfl]
  exact eqPointS_l a hb a.length k 0 (by omega) hk
def mPoint (q : Int) : S79 := ⟨⟨q, q + 1⟩, ⟨q + 1 + 1, q + 1 + 1 + 1⟩⟩
def marksPoint (q : Int) (n : Nat) : List S79 := (List.range n).map fun (j : Nat) => mPoint (q + 4 * (j : Int))
theorem marksPoint_length (q : Int) (n : Nat) : (marksPoint q n).length = n := by simp [marksPoint]
theorem marksPoint_getD (q : Int) (n j : Nat) (h : j < n) : (marksPoint q n).getD j z79 = mPoint (q + 4 * (j : Int)) := by
  simp [marksPoint, List.getD_eq_getElem?_getD, h]
theorem markPointS_l (n : Nat) (q : Int) (hq : -4000000000000000 ≤ q ∧ q ≤ 4000000000000000) (hb : n ≤ 4000000000000000) : ∀ (d k : Nat) (x : List S79) (i : Nat), i + d = n → x.length = n → (∀ j, j < i → x.getD j z79 = mPoint (q + 4 * (j : Int))) → d < k → laws_markPointS.l0 k x (q + 4 * (i : Int)) (i : Int) = some (q + 4 * (n : Int), marksPoint q n) := by
  intro d
  induction d with
  | zero =>
    intro k x i hi hl hj hk
    obtain ⟨k, rfl⟩ : ∃ m, k = m + 1 := ⟨k - 1, by omega⟩
    simp only [laws_markPointS.l0]
    rw [if_neg (by omega), ext_getDG z79 x (marksPoint q n) (by rw [marksPoint_length, hl]) (fun j h => by rw [hj j (by omega), marksPoint_getD _ _ _ (by omega)])]
    rw [show i = n by omega]
  | succ d ih =>
    intro k x i hi hl hj hk
    obtain ⟨k, rfl⟩ : ∃ m, k = m + 1 := ⟨k - 1, by omega⟩
    simp only [laws_markPointS.l0, Option.bind_some, Int.toNat_natCast]
    rw [if_pos (by omega), if_pos (by omega)]
    repeat rw [wr _ (by omega)]
    have := ih k (x.set i (mPoint (q + 4 * (i : Int)))) (i + 1) (by omega) (by simpa using hl) (fun j h => by
      rw [getD_setG _ _ _ _ _ (by omega)]
      split
      · rename_i e; rw [e]
      · exact hj j (by omega)) (by omega)
    rw [show q + 4 * ((i + 1 : Nat) : Int) = q + 4 * (i : Int) + 1 + 1 + 1 + 1 by omega] at this
    rw [← this]
    congr 1
    simp only [rdPoint, List.set_set, getD_setG _ _ _ _ _ (show i < x.length by omega), List.length_set, if_true]
    try rfl
theorem markPointS (l : List S79) (q : Int) (hq : -4000000000000000 ≤ q ∧ q ≤ 4000000000000000) (hb : l.length ≤ 4000000000000000) (k : Nat) (hk : l.length < k) : laws_markPointS.f k l q = some (q + 4 * (l.length : Int), marksPoint q l.length) := by
  unfold laws_markPointS.f
  have := markPointS_l l.length q hq hb l.length k l 0 (by omega) rfl (fun j h => by omega) hk
  simpa using this
end Go.Proofs.Ytgejkhbehoabdaa.Pu
set_option linter.unusedVariables false
set_option linter.unusedSimpArgs false
namespace Go.Proofs.Ytgejkhbehoabdaa.Pu
open Go.RowKit Go.Proofs.Ytgejkhbehoabdaa.Q Go.Proofs.YtgejkhbehoabdaaW.PrintWords Go.Proofs.YtgejkhbehoabdaaW.PrintLast Go.Proofs.YtgejkhbehoabdaaW.PrintMore
theorem mul_bd (x y : Int) (B C : Nat) (hx : x.natAbs ≤ B) (hy : y.natAbs ≤ C) : (x * y).natAbs ≤ B * C := by
  rw [Int.natAbs_mul]
  exact Nat.mul_le_mul hx hy
def Bd (n d : Int) : Prop := n.natAbs ≤ 1000000000 ∧ d.natAbs ≤ 1000000000
theorem OkR.bd {n d : Int} (h : OkR n d) : Bd n d := by
  obtain ⟨h1, h2, h3, h4, _⟩ := h
  exact ⟨by omega, by omega⟩
theorem cross_bd {a b c d : Int} (h1 : Bd a b) (h2 : Bd c d) : (a * d).natAbs ≤ 1000000000000000000 ∧ (c * b).natAbs ≤ 1000000000000000000 ∧ (b * d).natAbs ≤ 1000000000000000000 ∧ (a * c).natAbs ≤ 1000000000000000000 :=
  ⟨mul_bd a d _ _ h1.1 h2.2, mul_bd c b _ _ h2.1 h1.2, mul_bd b d _ _ h1.2 h2.2, mul_bd a c _ _ h1.1 h2.1⟩
theorem less_eq {a b c d : Int} (h1 : Bd a b) (h2 : Bd c d) : impl_less.f a b c d = some (decide (a * d < c * b)) := by
  obtain ⟨m1, m2, _⟩ := cross_bd h1 h2
  unfold impl_less.f impl_compare.f
  generalize a * d = p at *
  generalize c * b = q at *
  rw [wr p (by omega), wr q (by omega)]
  by_cases h : p < q
  · rw [if_pos h]; simp [h]
  · rw [if_neg h]
    by_cases h3 : p > q
    · rw [if_pos h3]; simp [h]
    · rw [if_neg h3]; simp [h]
theorem raCmp_eq {a b c d : Int} (h1 : Bd a b) (h2 : Bd c d) : ∃ t, spec_raCmp.f a b c d = some t ∧ (t < 0 ↔ a * d < c * b) ∧ (t = 0 ↔ a * d = c * b) := by
  obtain ⟨m1, m2, _⟩ := cross_bd h1 h2
  unfold spec_raCmp.f spec_l1Sign.f
  generalize a * d = p at *
  generalize c * b = q at *
  rw [wr p (by omega), wr q (by omega), wr (p - q) (by omega)]
  by_cases h : p - q > 0
  · rw [if_pos h]
    exact ⟨1, rfl, by omega, by omega⟩
  · rw [if_neg h]
    by_cases h3 : p - q < 0
    · rw [if_pos h3]
      exact ⟨-1, rfl, by omega, by omega⟩
    · rw [if_neg h3]
      exact ⟨0, rfl, by omega, by omega⟩
def OkU (n d : Int) : Prop := OkR n d ∧ 0 ≤ n ∧ n ≤ d
instance (n d : Int) : Decidable (OkU n d) := by unfold OkU; infer_instance
def Co (n d : Int) : Prop := OkU n d ∧ d ≤ 100
instance (n d : Int) : Decidable (Co n d) := by unfold Co; infer_instance
theorem isUnit_eq (n d : Int) (k : Nat) (hk : 200 ≤ k) : impl_isUnit.f k n d = some (decide (OkU n d)) := by
  unfold impl_isUnit.f OkU
  rw [isRat_eq n d k hk]
  simp only [Option.bind_some, decide_eq_true_eq]
  by_cases h : OkR n d
  · rw [if_pos h]
    by_cases h2 : n ≥ 0
    · rw [if_pos h2]; simp [h, h2]
    · rw [if_neg h2]; simp [h2]
  · rw [if_neg h]; simp [h]
theorem raUnit_eq (n d : Int) (k : Nat) (hk : 200 ≤ k) : spec_raUnit.f k n d = some (decide (OkU n d)) := by
  unfold spec_raUnit.f spec_l1In.f OkU
  rw [raGood_eq n d k hk]
  simp only [Option.bind_some, decide_eq_true_eq]
  by_cases h : OkR n d
  · rw [if_pos h]
    by_cases h2 : n ≥ 0
    · rw [if_pos h2]; simp [h, h2]
    · rw [if_neg h2]; simp [h2]
  · rw [if_neg h]; simp [h]
theorem isCoord_eq (n d : Int) (k : Nat) (hk : 200 ≤ k) : impl_isCoord.f k n d = some (decide (Co n d)) := by
  unfold impl_isCoord.f Co
  rw [isUnit_eq n d k hk]
  simp only [Option.bind_some, decide_eq_true_eq]
  by_cases h : OkU n d
  · rw [if_pos h]; simp [h]
  · rw [if_neg h]; simp [h]
theorem imCoord_eq (n d : Int) (k : Nat) (hk : 200 ≤ k) : spec_imCoord.f k n d = some (decide (Co n d)) := by
  unfold spec_imCoord.f Co
  rw [raUnit_eq n d k hk]
  simp only [Option.bind_some, decide_eq_true_eq]
  by_cases h : OkU n d
  · rw [if_pos h]; simp [h]
  · rw [if_neg h]; simp [h]
abbrev Ra := S47
abbrev Pt := S79
def nr (l : List Ra) (i : Nat) : Ra := l.getD i z47
def np (l : List Pt) (i : Nat) : Pt := l.getD i z79
theorem rd_nr (l : List Ra) (i : Nat) : rd_T47 l (i : Int) = nr l i := rdRat l i
theorem rd_np (l : List Pt) (i : Nat) : rd_T79 l (i : Int) = np l i := rdPoint l i
theorem rd_np0 (l : List Pt) : rd_T79 l 0 = np l 0 := rdPoint l 0
theorem nr_mem (l : List Ra) (i : Nat) (h : i < l.length) : nr l i ∈ l := getD_mem l i _ h
theorem np_mem (l : List Pt) (i : Nat) (h : i < l.length) : np l i ∈ l := getD_mem l i _ h
theorem mem_nr (l : List Ra) (x : Ra) (h : x ∈ l) : ∃ i, i < l.length ∧ nr l i = x := by
  obtain ⟨i, hi, e⟩ := List.mem_iff_getElem.1 h
  exact ⟨i, hi, by simp [nr, List.getD_eq_getElem?_getD, hi, e]⟩
theorem mem_np (l : List Pt) (x : Pt) (h : x ∈ l) : ∃ i, i < l.length ∧ np l i = x := by
  obtain ⟨i, hi, e⟩ := List.mem_iff_getElem.1 h
  exact ⟨i, hi, by simp [np, List.getD_eq_getElem?_getD, hi, e]⟩
def Lt (a b : Ra) : Prop := a.f0 * b.f1 < b.f0 * a.f1
instance (a b : Ra) : Decidable (Lt a b) := by unfold Lt; infer_instance
def BdR (a : Ra) : Prop := Bd a.f0 a.f1
theorem rising_l (l : List Ra) (hl : l.length ≤ 1048576) (hb : ∀ x ∈ l, BdR x) : ∀ (d k i : Nat), 1 ≤ i → i + d = l.length ∨ d = 0 ∧ l.length ≤ i ∧ i ≤ 1048577 → d < k →
    ∃ b, impl_isRising.l0 k l (i : Int) = some b ∧ (b = true ↔ ∀ j, i ≤ j → j < l.length → Lt (nr l (j - 1)) (nr l j)) := by
  intro d
  induction d with
  | zero =>
    intro k i h1 hi hk
    obtain ⟨k, rfl⟩ : ∃ m, k = m + 1 := ⟨k - 1, by omega⟩
    simp only [impl_isRising.l0]
    rw [if_neg (by omega)]
    exact ⟨true, rfl, by simp; intro j _ _; omega⟩
  | succ d ih =>
    intro k i h1 hi hk
    obtain ⟨k, rfl⟩ : ∃ m, k = m + 1 := ⟨k - 1, by omega⟩
    simp only [impl_isRising.l0]
    rw [wr (_ - 1) (by omega), wr (_ + 1) (by omega), if_pos (by omega), if_pos (by omega), if_pos (by omega), if_pos (by omega),
      show (i : Int) - 1 = ((i - 1 : Nat) : Int) by omega, show (i : Int) + 1 = ((i + 1 : Nat) : Int) by omega, rd_nr, rd_nr, less_eq (hb _ (nr_mem l _ (by omega))) (hb _ (nr_mem l _ (by omega)))]
    simp only [Option.bind_some, decide_eq_true_eq]
    by_cases h : Lt (nr l (i - 1)) (nr l i)
    · rw [if_pos (show (nr l (i - 1)).f0 * (nr l i).f1 < (nr l i).f0 * (nr l (i - 1)).f1 from h)]
      obtain ⟨b, e, hb2⟩ := ih k (i + 1) (by omega) (by omega) (by omega)
      refine ⟨b, e, hb2.trans ⟨fun hh j hj hl2 => ?_, fun hh j hj hl2 => hh j (by omega) hl2⟩⟩
      by_cases ej : j = i
      · subst ej; exact h
      · exact hh j (by omega) hl2
    · rw [if_neg (show ¬ (nr l (i - 1)).f0 * (nr l i).f1 < (nr l i).f0 * (nr l (i - 1)).f1 from h)]
      exact ⟨false, rfl, by simp; exact ⟨i, Nat.le_refl _, by omega, h⟩⟩
def Rising (l : List Ra) : Prop := ∀ j, 1 ≤ j → j < l.length → Lt (nr l (j - 1)) (nr l j)
theorem rising_eq (l : List Ra) (hl : l.length ≤ 1048576) (hb : ∀ x ∈ l, BdR x) (k : Nat) (hk : l.length < k) : ∃ b, impl_isRising.f k l = some b ∧ (b = true ↔ Rising l) := by
  unfold impl_isRising.f
  exact rising_l l hl hb (l.length - 1) k 1 (by omega) (by omega) (by omega)
theorem xsOf_l (l : List Pt) (hl : l.length ≤ 1048576) : ∀ (d k i : Nat) (out : List Ra), i + d = l.length → out.length ≤ i → d < k → impl_xsOf.l0 k out l (l.length : Int) (i : Int) = some (out ++ (l.drop i).map fun p => p.f0) := by
  intro d
  induction d with
  | zero =>
    intro k i out hi ho hk
    obtain ⟨k, rfl⟩ : ∃ m, k = m + 1 := ⟨k - 1, by omega⟩
    simp only [impl_xsOf.l0]
    rw [if_neg (by omega), List.drop_of_length_le (by omega)]
    simp
  | succ d ih =>
    intro k i out hi ho hk
    obtain ⟨k, rfl⟩ : ∃ m, k = m + 1 := ⟨k - 1, by omega⟩
    simp only [impl_xsOf.l0]
    rw [wr (_ + 1) (by omega), if_pos (by omega), if_pos (by omega), if_pos (by omega), if_pos (by omega), show (i : Int) + 1 = ((i + 1 : Nat) : Int) by omega, rd_np, ih k (i + 1) _ (by omega) (by simp; omega) (by omega),
      drop_getD l i z79 (by omega)]
    simp [np]
theorem xsOf_eq (l : List Pt) (hl : l.length ≤ 1048576) (k : Nat) (hk : l.length < k) : impl_xsOf.f k l = some (l.map fun p => p.f0) := by
  unfold impl_xsOf.f
  have := xsOf_l l hl l.length k 0 [] (by omega) (by simp) hk
  simpa using this
theorem nr_xs (l : List Pt) (i : Nat) (h : i < l.length) : nr (l.map fun p => p.f0) i = (np l i).f0 := by
  simp [nr, np, List.getD_eq_getElem?_getD, h]
def CoP (p : Pt) : Prop := Co p.f0.f0 p.f0.f1 ∧ Co p.f1.f0 p.f1.f1
instance (p : Pt) : Decidable (CoP p) := by unfold CoP; infer_instance
structure IsMap (l : List Pt) : Prop where
  two : 2 ≤ l.length
  most : l.length ≤ 12
  co : ∀ i, i < l.length → CoP (np l i)
  up : ∀ i, 1 ≤ i → i < l.length → Lt (np l (i - 1)).f0 (np l i).f0
  first : (np l 0).f0 = ⟨0, 1⟩
  last : (np l (l.length - 1)).f0 = ⟨1, 1⟩
theorem CoP.bx {p : Pt} (h : CoP p) : BdR p.f0 := h.1.1.1.bd
theorem CoP.by {p : Pt} (h : CoP p) : BdR p.f1 := h.2.1.1.bd
theorem rat_ext {a : Ra} {n d : Int} (h0 : a.f0 = n) (h1 : a.f1 = d) : a = ⟨n, d⟩ := by cases a; simp_all
theorem isMap_eq (l : List Pt) (hl : l.length ≤ 1048576) (k : Nat) (hk : 1000 ≤ k) : ∃ b, impl_isMap.f k l = some b ∧ (b = true ↔ IsMap l) := by
  unfold impl_isMap.f impl_within.f
  obtain ⟨k, rfl⟩ : ∃ m, k = m + 1 := ⟨k - 1, by omega⟩
  by_cases h2 : (2 : Int) ≤ (l.length : Int)
  · rw [if_pos h2]
    simp only [Option.bind_some]
    by_cases h12 : (l.length : Int) ≤ 12
    · rw [if_pos (by simpa using h12)]
      have hc : ContainsFunc_impl_isMap_1.f (k + 1) l = some (l.any fun p => !decide (CoP p)) := by
        unfold ContainsFunc_impl_isMap_1.f
        apply anyS_of
        intro x _
        unfold impl_isMap_1.f
        rw [isCoord_eq _ _ _ (by omega), isCoord_eq _ _ _ (by omega)]
        simp only [Option.bind_some, decide_eq_true_eq]
        by_cases h : Co x.f0.f0 x.f0.f1
        · rw [if_pos h]; simp [CoP, h]
        · rw [if_neg h]; simp [CoP, h]
      rw [hc]
      simp only [Option.bind_some, impl_isMap.j0]
      by_cases ha : (l.any fun p => !decide (CoP p)) = true
      · rw [if_pos ha]
        refine ⟨false, rfl, ⟨fun h => (by cases h), fun hm => ?_⟩⟩
        obtain ⟨x, hx, hn⟩ := List.any_eq_true.1 ha
        obtain ⟨i, hi, e⟩ := mem_np l x hx
        have := hm.co i hi
        rw [e] at this
        simp [this] at hn
      · rw [if_neg ha]
        have hco : ∀ x ∈ l, CoP x := fun x hx => by
          have : ¬ ((!decide (CoP x)) = true) := fun hh => ha (List.any_eq_true.2 ⟨x, hx, hh⟩)
          simpa using this
        rw [if_pos (by omega)]
        unfold impl_zero.f impl_oneRat.f
        simp only [Option.bind_some]
        rw [wr (_ - 1) (by omega), rd_np0, show (l.length : Int) - 1 = ((l.length - 1 : Nat) : Int) by omega, rd_np]
        by_cases hf : ((np l 0).f0.f0 == 0 && (np l 0).f0.f1 == 1) = true
        · rw [if_pos hf, if_pos (by omega), if_pos (by omega)]
          have hf' : (np l 0).f0 = ⟨0, 1⟩ := by
            simp only [Bool.and_eq_true, beq_iff_eq] at hf
            exact rat_ext hf.1 hf.2
          by_cases hg : ((np l (l.length - 1)).f0.f0 == 1 && (np l (l.length - 1)).f0.f1 == 1) = true
          · rw [if_pos hg]
            have hg' : (np l (l.length - 1)).f0 = ⟨1, 1⟩ := by
              simp only [Bool.and_eq_true, beq_iff_eq] at hg
              exact rat_ext hg.1 hg.2
            rw [xsOf_eq l (by omega) _ (by omega)]
            simp only [Option.bind_some]
            obtain ⟨b, e, hb⟩ := rising_eq (l.map fun p => p.f0) (by simp; omega) (fun x hx => by
              obtain ⟨p, hp, rfl⟩ := List.mem_map.1 hx
              exact (hco p hp).bx) k (by simp; omega)
            rw [e]
            refine ⟨b, rfl, hb.trans ⟨fun hr => ⟨by omega, by omega, fun i hi => hco _ (np_mem l i hi), fun i h1 hi => ?_, hf', hg'⟩, fun hm j h1 hj => ?_⟩⟩
            · have := hr i h1 (by simpa using hi)
              rwa [nr_xs _ _ (by omega), nr_xs _ _ hi] at this
            · rw [nr_xs _ _ (by simp at hj; omega), nr_xs _ _ (by simpa using hj)]
              exact hm.up j h1 (by simpa using hj)
          · rw [if_neg hg]
            exact ⟨false, rfl, by simp; intro hm; exact hg (by rw [hm.last]; rfl)⟩
        · rw [if_neg hf]
          exact ⟨false, rfl, by simp; intro hm; exact hf (by rw [hm.first]; rfl)⟩
    · rw [if_neg (by simpa using h12)]
      simp only [impl_isMap.j0, if_true]
      exact ⟨false, rfl, by simp; intro hm; have := hm.most; omega⟩
  · rw [if_neg h2]
    simp only [Option.bind_some, impl_isMap.j0, if_true]
    exact ⟨false, rfl, by simp; intro hm; have := hm.two; omega⟩
theorem imGood_l (l : List Pt) (h2 : 2 ≤ l.length) (h12 : l.length ≤ 12) : ∀ (d k i : Nat), i + d = l.length → (∀ j, j < i → CoP (np l j)) → (∀ j, 1 ≤ j → j < i → Lt (np l (j - 1)).f0 (np l j).f0) → 500 + d < k →
    ∃ b, spec_imGood.l0 k l l (l.length : Int) (i : Int) = some b ∧ (b = true ↔ IsMap l) := by
  intro d
  induction d with
  | zero =>
    intro k i hi hco hup hk
    obtain ⟨k, rfl⟩ : ∃ m, k = m + 1 := ⟨k - 1, by omega⟩
    simp only [spec_imGood.l0, spec_raInt.f, Option.bind_some]
    rw [if_neg (by omega), if_pos (by omega), rd_np0, wr (_ - 1) (by omega), show (l.length : Int) - 1 = ((l.length - 1 : Nat) : Int) by omega, rd_np]
    obtain ⟨t, e, _, h0⟩ := raCmp_eq (hco 0 (by omega)).bx (show Bd 0 1 by unfold Bd; omega)
    obtain ⟨t2, e2, _, h02⟩ := raCmp_eq (hco (l.length - 1) (by omega)).bx (show Bd 1 1 by unfold Bd; omega)
    rw [e, e2]
    simp only [Option.bind_some]
    have c0 := (hco 0 (by omega)).1.1
    have c1 := (hco (l.length - 1) (by omega)).1.1
    by_cases ht : t = 0
    · rw [if_pos ht, if_pos (by omega), if_pos (by omega)]
      refine ⟨_, rfl, ?_⟩
      have hz := h0.1 ht
      have hz0 : (np l 0).f0.f0 = 0 := by omega
      have hf' : (np l 0).f0 = ⟨0, 1⟩ := by
        refine rat_ext hz0 ?_
        have hg := c0.1.2.2.2.2
        have hp := c0.1.1
        rw [hz0, Int.gcd_zero_left] at hg
        omega
      simp only [beq_iff_eq]
      rw [h02]
      constructor
      · intro hh
        have hz1 : (np l (l.length - 1)).f0.f0 = (np l (l.length - 1)).f0.f1 := by omega
        have hg' : (np l (l.length - 1)).f0 = ⟨1, 1⟩ := by
          have hg := c1.1.2.2.2.2
          have hp := c1.1.1
          rw [hz1, Int.gcd_self] at hg
          exact rat_ext (by omega) (by omega)
        exact ⟨by omega, by omega, fun j hj => hco j (by omega), fun j h1 hj => hup j h1 (by omega), hf', hg'⟩
      · intro hm
        rw [hm.last]
    · rw [if_neg ht]
      refine ⟨false, rfl, ⟨fun h => (by cases h), fun hm => absurd (h0.2 (by rw [hm.first])) ht⟩⟩
  | succ d ih =>
    intro k i hi hco hup hk
    obtain ⟨k, rfl⟩ : ∃ m, k = m + 1 := ⟨k - 1, by omega⟩
    simp only [spec_imGood.l0]
    rw [if_pos (by omega), if_pos (by omega), if_pos (by omega), rd_np, imCoord_eq _ _ k (by omega), imCoord_eq _ _ k (by omega)]
    simp only [Option.bind_some, decide_eq_true_eq]
    by_cases hx : Co (np l i).f0.f0 (np l i).f0.f1
    · rw [if_pos hx]
      by_cases hy : Co (np l i).f1.f0 (np l i).f1.f1
      · rw [if_pos hy, wr (_ + 1) (by omega), show (i : Int) + 1 = ((i + 1 : Nat) : Int) by omega]
        have hci : CoP (np l i) := ⟨hx, hy⟩
        have hco' : ∀ j, j < i + 1 → CoP (np l j) := fun j hj => by
          by_cases ej : j = i
          · subst ej; exact hci
          · exact hco j (by omega)
        by_cases h0 : (i : Int) > 0
        · rw [if_pos h0, wr (_ - 1) (by omega), if_pos (by omega), if_pos (by omega), show (i : Int) - 1 = ((i - 1 : Nat) : Int) by omega, rd_np]
          obtain ⟨t, e, hlt, _⟩ := raCmp_eq (hco (i - 1) (by omega)).bx hci.bx
          rw [e]
          simp only [Option.bind_some]
          by_cases ht : t ≥ 0
          · rw [if_pos ht]
            refine ⟨false, rfl, ⟨fun h => (by cases h), fun hm => ?_⟩⟩
            have := hm.up i (by omega) (by omega)
            have := hlt.2 this
            omega
          · rw [if_neg ht]
            refine ih k (i + 1) (by omega) hco' (fun j h1 hj => ?_) (by omega)
            by_cases ej : j = i
            · subst ej; exact hlt.1 (by omega)
            · exact hup j h1 (by omega)
        · rw [if_neg h0]
          exact ih k (i + 1) (by omega) hco' (fun j h1 hj => by omega) (by omega)
      · rw [if_neg hy]
        exact ⟨false, rfl, by simp; intro hm; exact hy (hm.co i (by omega)).2⟩
    · rw [if_neg hx]
      exact ⟨false, rfl, by simp; intro hm; exact hx (hm.co i (by omega)).1⟩
theorem imGood_eq (l : List Pt) (hl : l.length ≤ 1048576) (k : Nat) (hk : 1000 ≤ k) : ∃ b, spec_imGood.f k l = some b ∧ (b = true ↔ IsMap l) := by
  unfold spec_imGood.f spec_l1In.f
  by_cases h2 : (l.length : Int) ≥ 2
  · rw [if_pos h2]
    simp only [Option.bind_some]
    by_cases h12 : (l.length : Int) ≤ 12
    · rw [if_pos (by simpa using h12)]
      exact imGood_l l (by omega) (by omega) l.length k 0 (by omega) (fun j hj => by omega) (fun j _ hj => by omega) (by omega)
    · rw [if_neg (by simpa using h12)]
      exact ⟨false, rfl, by simp; intro hm; have := hm.most; omega⟩
  · rw [if_neg h2]
    simp only [Option.bind_some]
    exact ⟨false, rfl, by simp; intro hm; have := hm.two; omega⟩
open Classical in
noncomputable def mapB (l : List Pt) : Bool := decide (IsMap l)
theorem mapB_iff (l : List Pt) : mapB l = true ↔ IsMap l := by unfold mapB; simp
theorem isMapB (l : List Pt) (hl : l.length ≤ 1048576) (k : Nat) (hk : 1000 ≤ k) : impl_isMap.f k l = some (mapB l) := by
  obtain ⟨b, e, h⟩ := isMap_eq l hl k hk
  rw [e]
  congr 1
  rw [Bool.eq_iff_iff, h, mapB_iff]
theorem imGoodB (l : List Pt) (hl : l.length ≤ 1048576) (k : Nat) (hk : 1000 ≤ k) : spec_imGood.f k l = some (mapB l) := by
  obtain ⟨b, e, h⟩ := imGood_eq l hl k hk
  rw [e]
  congr 1
  rw [Bool.eq_iff_iff, h, mapB_iff]
end Go.Proofs.Ytgejkhbehoabdaa.Pu
set_option linter.unusedVariables false
set_option linter.unusedSimpArgs false
namespace Go.Proofs.Ytgejkhbehoabdaa.Pu
open Go.RowKit Go.Proofs.Ytgejkhbehoabdaa.Q Go.Proofs.YtgejkhbehoabdaaW.PrintWords Go.Proofs.YtgejkhbehoabdaaW.PrintLast Go.Proofs.YtgejkhbehoabdaaW.PrintMore
abbrev Tri := Int × Int × Bool
def kp (s : Bool) (m : Tri) : Tri := if m.2.2 = true then (m.1, m.2.1, s) else (0, 1, true)
theorem keep_eq (s : Bool) (m : Tri) : impl_calc_keep.f s m.1 m.2.1 m.2.2 = some (kp s m) := by
  unfold impl_calc_keep.f kp impl_zero.f
  split <;> rfl
theorem ok_zero : OkR 0 1 := by unfold OkR; decide
theorem kp_ok {s : Bool} {m : Tri} (h : m.2.2 = true → OkR m.1 m.2.1) : OkR (kp s m).1 (kp s m).2.1 := by
  unfold kp
  split
  · rename_i h1; exact h h1
  · exact ok_zero
theorem kp_bad (s : Bool) (m : Tri) : (kp s m).2.2 = (s || !m.2.2) := by
  unfold kp
  cases m.2.2 <;> simp
theorem kp_val {s : Bool} {m : Tri} (h : m.2.2 = true) : kp s m = (m.1, m.2.1, s) := by
  unfold kp
  rw [if_pos h]
theorem areRats2 (a b : Ra) (k : Nat) (hk : 300 ≤ k) : impl_areRats.f k [a, b] = some (decide (OkR a.f0 a.f1) && decide (OkR b.f0 b.f1)) := by
  unfold impl_areRats.f
  obtain ⟨k, rfl⟩ : ∃ m, k = m + 3 := ⟨k - 3, by omega⟩
  have r0 : rd_T47 [a, b] 0 = a := rfl
  have r1 : rd_T47 [a, b] 1 = b := rfl
  simp only [impl_areRats.l0, List.length_cons, List.length_nil]
  rw [if_pos (by decide), if_pos (by decide), if_pos (by decide), r0, isRat_eq _ _ _ (by omega)]
  simp only [Option.bind_some, decide_eq_true_eq]
  by_cases h : OkR a.f0 a.f1
  · rw [if_pos h]
    have e1 : wrap64 (0 + 1) = 1 := wr _ (by decide)
    have e2 : wrap64 (1 + 1) = 2 := wr _ (by decide)
    rw [e1, if_pos (by decide), if_pos (by decide), if_pos (by decide), r1, isRat_eq _ _ _ (by omega)]
    simp only [Option.bind_some, decide_eq_true_eq]
    by_cases h2 : OkR b.f0 b.f1
    · rw [if_pos h2, e2, if_neg (by decide)]
      simp [h, h2]
    · rw [if_neg h2]; simp [h2]
  · rw [if_neg h]; simp [h]
def addT (a b c d : Int) : Tri := mk (a * d + c * b) (b * d)
def subT (a b c d : Int) : Tri := mk (a * d - c * b) (b * d)
def mulT (a b c d : Int) : Tri := mk (a * c) (b * d)
def divT (a b c d : Int) : Tri := if c = 0 then (0, 0, false) else mk (a * d) (b * c)
theorem addT_ok (a b c d : Int) (h : (addT a b c d).2.2 = true) : OkR (addT a b c d).1 (addT a b c d).2.1 := mk_ok _ _ h
theorem subT_ok (a b c d : Int) (h : (subT a b c d).2.2 = true) : OkR (subT a b c d).1 (subT a b c d).2.1 := mk_ok _ _ h
theorem mulT_ok (a b c d : Int) (h : (mulT a b c d).2.2 = true) : OkR (mulT a b c d).1 (mulT a b c d).2.1 := mk_ok _ _ h
theorem den_pos {a b c d : Int} (h1 : OkR a b) (h2 : OkR c d) : b * d ≠ 0 := by
  have := Int.mul_pos (show 0 < b by have := h1.1; omega) (show 0 < d by have := h2.1; omega)
  omega
section
variable {a b c d : Int} (h1 : OkR a b) (h2 : OkR c d) (k : Nat)
include h1 h2
theorem addRats_eq (hk : 300 ≤ k) : impl_AddRats.f k a b c d = some (addT a b c d) := by
  unfold impl_AddRats.f
  rw [areRats2 _ _ k hk, decide_eq_true h1, decide_eq_true h2]
  simp only [Option.bind_some, Bool.and_true, if_true]
  obtain ⟨m1, m2, m3, _⟩ := cross_bd h1.bd h2.bd
  have hd := den_pos h1 h2
  rw [wr (a * d) (by omega), wr (c * b) (by omega), wr (b * d) (by omega), wr _ (by omega), lowest_eq _ _ hd (by omega) (by omega) k (by omega)]
  rfl
theorem raAdd_eq (hk : 300 ≤ k) : spec_raAdd.f k a b c d = some (addT a b c d) := by
  unfold spec_raAdd.f
  obtain ⟨m1, m2, m3, _⟩ := cross_bd h1.bd h2.bd
  have hd := den_pos h1 h2
  rw [wr (a * d) (by omega), wr (c * b) (by omega), wr (b * d) (by omega), wr _ (by omega), raMake_eq _ _ hd (by omega) (by omega) k (by omega)]
  rfl
theorem raSub_eq (hk : 300 ≤ k) : spec_raSub.f k a b c d = some (subT a b c d) := by
  unfold spec_raSub.f
  obtain ⟨m1, m2, m3, _⟩ := cross_bd h1.bd h2.bd
  have hd := den_pos h1 h2
  rw [wr (a * d) (by omega), wr (c * b) (by omega), wr (b * d) (by omega), wr _ (by omega), raMake_eq _ _ hd (by omega) (by omega) k (by omega)]
  rfl
theorem raMul_eq (hk : 300 ≤ k) : spec_raMul.f k a b c d = some (mulT a b c d) := by
  unfold spec_raMul.f
  obtain ⟨m1, m2, m3, m4⟩ := cross_bd h1.bd h2.bd
  have hd := den_pos h1 h2
  rw [wr (a * c) (by omega), wr (b * d) (by omega), raMake_eq _ _ hd (by omega) (by omega) k (by omega)]
  rfl
theorem raDiv_eq (hk : 300 ≤ k) : spec_raDiv.f k a b c d = some (divT a b c d) := by
  unfold spec_raDiv.f divT
  obtain ⟨m1, m2, m3, m4⟩ := cross_bd h1.bd h2.bd
  split
  · rfl
  · rename_i hc
    have hd : b * c ≠ 0 := Int.mul_ne_zero (by have := h1.1; omega) hc
    have m5 := mul_bd b c _ _ h1.bd.2 h2.bd.1
    rw [wr (a * d) (by omega), wr (b * c) (by omega), raMake_eq _ _ hd (by omega) (by omega) k (by omega)]
    rfl
omit h1 in
theorem negated_ok : OkR (-c) d := by
  obtain ⟨e1, e2, e3, e4, e5⟩ := h2
  exact ⟨e1, e2, by omega, by omega, by rw [Int.neg_gcd]; exact e5⟩
theorem subRats_eq (hk : 300 ≤ k) : impl_SubtractRats.f k a b c d = some (subT a b c d) := by
  unfold impl_SubtractRats.f impl_negated.f
  have hb := h2.bd
  simp only [Option.bind_some]
  rw [wr (-c) (by unfold Bd at hb; omega), addRats_eq h1 (negated_ok h2) k hk]
  simp only [Option.bind_some]
  unfold addT subT
  rw [Int.neg_mul]
  rfl
theorem mulRats_eq (hk : 300 ≤ k) : impl_MultiplyRats.f k a b c d = some (mulT a b c d) := by
  unfold impl_MultiplyRats.f
  rw [areRats2 _ _ k hk, decide_eq_true h1, decide_eq_true h2]
  simp only [Option.bind_some, Bool.and_true, if_true]
  obtain ⟨m1, m2, m3, m4⟩ := cross_bd h1.bd h2.bd
  have hd := den_pos h1 h2
  rw [wr (a * c) (by omega), wr (b * d) (by omega), lowest_eq _ _ hd (by omega) (by omega) k (by omega)]
  rfl
theorem divRats_eq (hk : 300 ≤ k) : impl_DivideRats.f k a b c d = some (divT a b c d) := by
  unfold impl_DivideRats.f divT
  rw [areRats2 _ _ k hk, decide_eq_true h1, decide_eq_true h2]
  simp only [Option.bind_some, Bool.and_true, if_true]
  obtain ⟨m1, m2, m3, m4⟩ := cross_bd h1.bd h2.bd
  split
  · rfl
  · rename_i hc
    have hd : b * c ≠ 0 := Int.mul_ne_zero (by have := h1.1; omega) hc
    have m5 := mul_bd b c _ _ h1.bd.2 h2.bd.1
    rw [wr (a * d) (by omega), wr (b * c) (by omega), lowest_eq _ _ hd (by omega) (by omega) k (by omega)]
    rfl
theorem calc_add (s : Bool) (hk : 300 ≤ k) : impl_calc_add.f k s a b c d = some (kp s (addT a b c d)) := by
  unfold impl_calc_add.f
  rw [addRats_eq h1 h2 k hk, Option.bind_some, keep_eq, Option.bind_some]
theorem calc_sub (s : Bool) (hk : 300 ≤ k) : impl_calc_sub.f k s a b c d = some (kp s (subT a b c d)) := by
  unfold impl_calc_sub.f
  rw [subRats_eq h1 h2 k hk, Option.bind_some, keep_eq, Option.bind_some]
theorem calc_mul (s : Bool) (hk : 300 ≤ k) : impl_calc_mul.f k s a b c d = some (kp s (mulT a b c d)) := by
  unfold impl_calc_mul.f
  rw [mulRats_eq h1 h2 k hk, Option.bind_some, keep_eq, Option.bind_some]
theorem calc_div (s : Bool) (hk : 300 ≤ k) : impl_calc_div.f k s a b c d = some (kp s (divT a b c d)) := by
  unfold impl_calc_div.f
  rw [divRats_eq h1 h2 k hk, Option.bind_some, keep_eq, Option.bind_some]
end
def slT (p q : Pt) : Tri := divT (subT q.f1.f0 q.f1.f1 p.f1.f0 p.f1.f1).1 (subT q.f1.f0 q.f1.f1 p.f1.f0 p.f1.f1).2.1 (subT q.f0.f0 q.f0.f1 p.f0.f0 p.f0.f1).1 (subT q.f0.f0 q.f0.f1 p.f0.f0 p.f0.f1).2.1
theorem co_sub {a b c d : Int} (h1 : Co a b) (h2 : Co c d) : (subT a b c d).2.2 = true ∧ OkR (subT a b c d).1 (subT a b c d).2.1 ∧ (subT a b c d).1.natAbs ≤ 10000 ∧ (subT a b c d).2.1.natAbs ≤ 10000 := by
  obtain ⟨⟨⟨b1, b2, _, _, _⟩, b3, b4⟩, b5⟩ := h1
  obtain ⟨⟨⟨d1, d2, _, _, _⟩, d3, d4⟩, d5⟩ := h2
  have m1 := mul_bd a d 100 100 (by omega) (by omega)
  have m2 := mul_bd c b 100 100 (by omega) (by omega)
  have m3 := mul_bd b d 100 100 (by omega) (by omega)
  have n1 := Int.mul_nonneg b3 (show (0 : Int) ≤ d by omega)
  have n2 := Int.mul_nonneg d3 (show (0 : Int) ≤ b by omega)
  have n3 := Int.mul_pos (show (0 : Int) < b by omega) (show (0 : Int) < d by omega)
  unfold subT
  generalize a * d = x at *
  generalize c * b = y at *
  generalize b * d = z at *
  obtain ⟨e1, e2, e3, e4⟩ := mk_small (x - y) z (by omega) (by omega) (by omega)
  rw [e4]
  exact ⟨rfl, e1, by show (Int.tdiv _ _).natAbs ≤ _; omega, by show (Int.tdiv _ _).natAbs ≤ _; omega⟩
theorem sub_ne {a b c d : Int} (h1 : OkR a b) (h2 : OkR c d) (hlt : c * b < a * d) (hok : (subT a b c d).2.2 = true) : (subT a b c d).1 ≠ 0 := by
  have hd := den_pos h1 h2
  unfold subT mk at hok ⊢
  split at hok
  · rename_i h
    rw [if_pos h]
    intro h0
    have h0' : (a * d - c * b).tdiv (sg (a * d - c * b) (b * d)) = 0 := h0
    have hdv : (sg (a * d - c * b) (b * d)) ∣ (a * d - c * b) := by
      unfold sg
      split
      · exact Int.neg_dvd.2 (Int.gcd_dvd_left _ _)
      · exact Int.gcd_dvd_left _ _
    obtain ⟨t, ht⟩ := hdv
    have hs : sg (a * d - c * b) (b * d) ≠ 0 := by
      have := gcd_pos (a * d - c * b) (b * d) hd
      unfold sg
      split <;> omega
    have : (sg (a * d - c * b) (b * d) * t).tdiv (sg (a * d - c * b) (b * d)) = t := Int.mul_tdiv_cancel_left _ hs
    generalize hg : sg (a * d - c * b) (b * d) = g at *
    rw [ht, this] at h0'
    rw [h0', Int.mul_zero] at ht
    omega
  · cases hok
structure Seg (p q : Pt) : Prop where
  cp : CoP p
  cq : CoP q
  lt : Lt p.f0 q.f0
theorem IsMap.seg {l : List Pt} (h : IsMap l) (i : Nat) (hi : i + 1 < l.length) : Seg (np l i) (np l (i + 1)) :=
  ⟨h.co i (by omega), h.co (i + 1) hi, by have := h.up (i + 1) (by omega) hi; rwa [Nat.add_sub_cancel] at this⟩
theorem seg_slope {p q : Pt} (h : Seg p q) : (slT p q).2.2 = true ∧ OkR (slT p q).1 (slT p q).2.1 := by
  obtain ⟨u1, u2, u3, u4⟩ := co_sub h.cq.2 h.cp.2
  obtain ⟨v1, v2, v3, v4⟩ := co_sub h.cq.1 h.cp.1
  have v5 := sub_ne h.cq.1.1.1 h.cp.1.1.1 h.lt v1
  unfold slT
  generalize hx : subT q.f1.f0 q.f1.f1 p.f1.f0 p.f1.f1 = x at *
  generalize hy : subT q.f0.f0 q.f0.f1 p.f0.f0 p.f0.f1 = y at *
  unfold divT
  rw [if_neg v5]
  have m1 := mul_bd x.1 y.2.1 10000 10000 u3 v4
  have m2 := mul_bd x.2.1 y.1 10000 10000 u4 v3
  have hd : x.2.1 * y.1 ≠ 0 := Int.mul_ne_zero (by have := u2.1; omega) v5
  obtain ⟨e1, e2, e3, e4⟩ := mk_small (x.1 * y.2.1) (x.2.1 * y.1) hd (by omega) (by omega)
  rw [e4]
  exact ⟨rfl, e1⟩
theorem slope_eq {p q : Pt} (h : Seg p q) (s : Bool) (k : Nat) (hk : 300 ≤ k) : impl_calc_slope.f k s p.f0.f0 p.f0.f1 p.f1.f0 p.f1.f1 q.f0.f0 q.f0.f1 q.f1.f0 q.f1.f1 = some ((slT p q).1, (slT p q).2.1, s) := by
  obtain ⟨u1, u2, u3, u4⟩ := co_sub h.cq.2 h.cp.2
  obtain ⟨v1, v2, v3, v4⟩ := co_sub h.cq.1 h.cp.1
  unfold impl_calc_slope.f
  rw [calc_sub h.cq.2.1.1 h.cp.2.1.1 k s hk, kp_val u1, Option.bind_some, calc_sub h.cq.1.1.1 h.cp.1.1.1 k s hk, kp_val v1, Option.bind_some, calc_div u2 v2 k s hk, Option.bind_some]
  have := kp_val (s := s) (seg_slope h).1
  unfold slT at this ⊢
  rw [this]
theorem imSlope_eq {p q : Pt} (h : Seg p q) (k : Nat) (hk : 300 ≤ k) : spec_imSlope.f k p.f0.f0 p.f0.f1 p.f1.f0 p.f1.f1 q.f0.f0 q.f0.f1 q.f1.f0 q.f1.f1 = some ((slT p q).1, (slT p q).2.1) := by
  obtain ⟨u1, u2, u3, u4⟩ := co_sub h.cq.2 h.cp.2
  obtain ⟨v1, v2, v3, v4⟩ := co_sub h.cq.1 h.cp.1
  unfold spec_imSlope.f
  rw [raSub_eq h.cq.2.1.1 h.cp.2.1.1 k hk, Option.bind_some, raSub_eq h.cq.1.1.1 h.cp.1.1.1 k hk, Option.bind_some, raDiv_eq u2 v2 k hk, Option.bind_some]
  rfl
end Go.Proofs.Ytgejkhbehoabdaa.Pu
set_option linter.unusedVariables false
set_option linter.unusedSimpArgs false
namespace Go.Proofs.Ytgejkhbehoabdaa.Pu
open Go.RowKit Go.Proofs.Ytgejkhbehoabdaa.Q Go.Proofs.YtgejkhbehoabdaaW.PrintWords Go.Proofs.YtgejkhbehoabdaaW.PrintLast Go.Proofs.YtgejkhbehoabdaaW.PrintMore
structure Rel (s : Bool) (v m : Tri) : Prop where
  ok : OkR v.1 v.2.1
  bad : v.2.2 = (s || !m.2.2)
  val : m.2.2 = true → v.1 = m.1 ∧ v.2.1 = m.2.1
theorem rel_kp {s : Bool} {m : Tri} (h : m.2.2 = true → OkR m.1 m.2.1) : Rel s (kp s m) m :=
  ⟨kp_ok h, kp_bad s m, fun hm => by rw [kp_val hm]; exact ⟨rfl, rfl⟩⟩
def pcq (x0 x1 : Int) (p : Pt) : Bool := !decide (p.f0.f0 * x1 < x0 * p.f0.f1)
def pc (l : List Pt) (x0 x1 : Int) : Nat := (idxOf (pcq x0 x1) l - 1).toNat
theorem imPiece_l (l : List Pt) (x0 x1 : Int) (hm : IsMap l) (hx : OkR x0 x1) (j : Nat) (hj : j < l.length) (h1 : 1 ≤ j) (hq : ¬ (np l j).f0.f0 * x1 < x0 * (np l j).f0.f1) (hlt : ∀ m, m < j → (np l m).f0.f0 * x1 < x0 * (np l m).f0.f1) :
    ∀ (d k i : Nat), i + d = j - 1 → d < k → spec_imPiece.l0 k l (i : Int) x0 x1 = some ((j - 1 : Nat) : Int) := by
  have hmost := hm.most
  intro d
  induction d with
  | zero =>
    intro k i hi hk
    obtain ⟨k, rfl⟩ : ∃ m, k = m + 1 := ⟨k - 1, by omega⟩
    simp only [spec_imPiece.l0]
    rw [wr (_ + 2) (by omega), wr (_ + 1) (by omega)]
    by_cases h2 : (i : Int) + 2 < (l.length : Int)
    · rw [if_pos h2, if_pos (by omega), if_pos (by omega), show (i : Int) + 1 = ((i + 1 : Nat) : Int) by omega, rd_np]
      obtain ⟨t, e, ht, _⟩ := raCmp_eq (hm.co (i + 1) (by omega)).bx hx.bd
      rw [e, Option.bind_some]
      have ej : i + 1 = j := by omega
      rw [ej] at ht
      rw [if_neg (fun h => hq (ht.1 h))]
      congr 1
      omega
    · rw [if_neg h2]
      congr 1
      omega
  | succ d ih =>
    intro k i hi hk
    obtain ⟨k, rfl⟩ : ∃ m, k = m + 1 := ⟨k - 1, by omega⟩
    simp only [spec_imPiece.l0]
    rw [wr (_ + 2) (by omega), wr (_ + 1) (by omega), if_pos (by omega), if_pos (by omega), if_pos (by omega), show (i : Int) + 1 = ((i + 1 : Nat) : Int) by omega, rd_np]
    obtain ⟨t, e, ht, _⟩ := raCmp_eq (hm.co (i + 1) (by omega)).bx hx.bd
    rw [e, Option.bind_some, if_pos (ht.2 (hlt (i + 1) (by omega)))]
    exact ih k (i + 1) (by omega) (by omega)
theorem piece_eq (l : List Pt) (x0 x1 : Int) (hm : IsMap l) (hx : OkU x0 x1) : pc l x0 x1 + 1 < l.length ∧ impl_pieceAt.f l x0 x1 = some (pc l x0 x1 : Int) ∧ (∀ k, 100 ≤ k → spec_imPiece.f k l x0 x1 = some (pc l x0 x1 : Int)) ∧
    (np l (pc l x0 x1)).f0.f0 * x1 ≤ x0 * (np l (pc l x0 x1)).f0.f1 ∧ x0 * (np l (pc l x0 x1 + 1)).f0.f1 ≤ (np l (pc l x0 x1 + 1)).f0.f0 * x1 := by
  have h2 := hm.two
  have hmost := hm.most
  have hne : idxOf (pcq x0 x1) l ≠ -1 := fun h => by
    have := idxOf_neg _ _ h (np l (l.length - 1)) (np_mem l _ (by omega))
    unfold pcq at this
    rw [hm.last] at this
    have h3 := hx.2.2
    simp at this
    omega
  obtain ⟨j, ej, hj, hq, hlt⟩ := idxOf_pos _ _ z79 hne
  have hqj : ¬ (np l j).f0.f0 * x1 < x0 * (np l j).f0.f1 := by
    have : pcq x0 x1 (np l j) = true := hq
    unfold pcq at this
    simpa using this
  have hltj : ∀ m, m < j → (np l m).f0.f0 * x1 < x0 * (np l m).f0.f1 := fun m hmj => by
    have : pcq x0 x1 (np l m) = false := hlt m hmj
    unfold pcq at this
    simpa using this
  have himpl : impl_pieceAt.f l x0 x1 = some (if (j : Int) ≤ 1 then 0 else (j : Int) - 1) := by
    unfold impl_pieceAt.f
    rw [idxS_of (p := pcq x0 x1) (fun p hp => by
      obtain ⟨i, hi, e⟩ := mem_np l p hp
      have hb := (hm.co i hi).bx
      rw [e] at hb
      rw [less_eq hb hx.1.bd]
      rfl)]
    rw [Option.bind_some, ej]
  have hpc : pc l x0 x1 = j - 1 := by
    unfold pc
    rw [ej]
    omega
  rw [hpc]
  rcases Nat.eq_zero_or_pos j with h0 | hpos
  · subst h0
    rw [hm.first] at hqj
    simp at hqj
    have hx0 : x0 = 0 := by have := hx.2.1; omega
    subst hx0
    have hx1 := hx.1.1
    refine ⟨by omega, himpl, fun k hk => ?_, by simp [hm.first], ?_⟩
    · obtain ⟨k, rfl⟩ : ∃ m, k = m + 1 := ⟨k - 1, by omega⟩
      unfold spec_imPiece.f
      simp only [spec_imPiece.l0]
      rw [wr (0 + 2) (by omega), wr (0 + 1) (by omega)]
      by_cases h3 : (0 : Int) + 2 < (l.length : Int)
      · rw [if_pos h3, if_pos (by omega), if_pos (by omega), show (0 : Int) + 1 = ((1 : Nat) : Int) by omega, rd_np]
        obtain ⟨t, e, ht, _⟩ := raCmp_eq (hm.co 1 (by omega)).bx hx.1.bd
        rw [e, Option.bind_some, if_neg (fun h => by
          have h4 := ht.1 h
          have h5 := Int.mul_nonneg (hm.co 1 (by omega)).1.1.2.1 (show (0 : Int) ≤ x1 by omega)
          omega)]
        rfl
      · rw [if_neg h3]; rfl
    · have h5 := Int.mul_nonneg (hm.co (0 - 1 + 1) (by omega)).1.1.2.1 (show (0 : Int) ≤ x1 by omega)
      omega
  · have e1 : j - 1 + 1 = j := by omega
    refine ⟨by omega, ?_, fun k hk => ?_, ?_, ?_⟩
    · rw [himpl]
      congr 1
      split <;> omega
    · unfold spec_imPiece.f
      exact imPiece_l l x0 x1 hm hx.1 j hj hpos hqj hltj (j - 1) k 0 (by omega) (by omega)
    · exact Int.le_of_lt (hltj (j - 1) (by omega))
    · rw [e1]
      omega
def onT (p q : Pt) (x0 x1 : Int) : Tri :=
  if (subT x0 x1 p.f0.f0 p.f0.f1).2.2 = true then
    if (mulT (subT x0 x1 p.f0.f0 p.f0.f1).1 (subT x0 x1 p.f0.f0 p.f0.f1).2.1 (slT p q).1 (slT p q).2.1).2.2 = true then
      addT p.f1.f0 p.f1.f1 (mulT (subT x0 x1 p.f0.f0 p.f0.f1).1 (subT x0 x1 p.f0.f0 p.f0.f1).2.1 (slT p q).1 (slT p q).2.1).1 (mulT (subT x0 x1 p.f0.f0 p.f0.f1).1 (subT x0 x1 p.f0.f0 p.f0.f1).2.1 (slT p q).1 (slT p q).2.1).2.1
    else (0, 0, false)
  else (0, 0, false)
theorem imOn_eq {p q : Pt} (h : Seg p q) {x0 x1 : Int} (hx : OkR x0 x1) (k : Nat) (hk : 300 ≤ k) : spec_imOn.f k p.f0.f0 p.f0.f1 p.f1.f0 p.f1.f1 q.f0.f0 q.f0.f1 q.f1.f0 q.f1.f1 x0 x1 = some (onT p q x0 x1) := by
  unfold spec_imOn.f onT
  rw [raSub_eq hx h.cp.1.1.1 k hk, Option.bind_some, imSlope_eq h k hk, Option.bind_some]
  have hsl := (seg_slope h).2
  cases hf : (subT x0 x1 p.f0.f0 p.f0.f1).2.2 with
  | true =>
    have hfo := subT_ok _ _ _ _ hf
    rw [raMul_eq hfo hsl k hk, Option.bind_some, if_pos rfl, if_pos rfl]
    cases hu : (mulT (subT x0 x1 p.f0.f0 p.f0.f1).1 (subT x0 x1 p.f0.f0 p.f0.f1).2.1 (slT p q).1 (slT p q).2.1).2.2 with
    | true =>
      rw [if_pos rfl, if_pos rfl, raAdd_eq h.cp.2.1.1 (mulT_ok _ _ _ _ hu) k hk, Option.bind_some]
    | false => rw [if_neg (by decide), if_neg (by decide)]
  | false =>
    have e : subT x0 x1 p.f0.f0 p.f0.f1 = (0, 0, false) := mk_bad _ _ hf
    rw [e]
    unfold spec_raMul.f
    rw [Int.zero_mul, Int.zero_mul, wr 0 (by omega), raMake_zero]
    rfl
theorem line_eq {p q : Pt} (h : Seg p q) {x0 x1 : Int} (hx : OkR x0 x1) (s : Bool) (k : Nat) (hk : 300 ≤ k) : ∃ v, impl_calc_line.f k s p.f0.f0 p.f0.f1 p.f1.f0 p.f1.f1 (slT p q).1 (slT p q).2.1 x0 x1 = some v ∧ Rel s v (onT p q x0 x1) := by
  unfold impl_calc_line.f onT
  have hsl := (seg_slope h).2
  have r1 : Rel s (kp s (subT x0 x1 p.f0.f0 p.f0.f1)) (subT x0 x1 p.f0.f0 p.f0.f1) := rel_kp (subT_ok _ _ _ _)
  rw [calc_sub hx h.cp.1.1.1 k s hk, Option.bind_some]
  generalize kp s (subT x0 x1 p.f0.f0 p.f0.f1) = v1 at r1 ⊢
  generalize subT x0 x1 p.f0.f0 p.f0.f1 = m1 at r1 ⊢
  rw [calc_mul hsl r1.ok k v1.2.2 hk, Option.bind_some]
  have r2 : Rel v1.2.2 (kp v1.2.2 (mulT (slT p q).1 (slT p q).2.1 v1.1 v1.2.1)) (mulT (slT p q).1 (slT p q).2.1 v1.1 v1.2.1) := rel_kp (mulT_ok _ _ _ _)
  have ec : mulT (slT p q).1 (slT p q).2.1 v1.1 v1.2.1 = mulT v1.1 v1.2.1 (slT p q).1 (slT p q).2.1 := by
    unfold mulT
    rw [Int.mul_comm (slT p q).1, Int.mul_comm (slT p q).2.1]
  generalize kp v1.2.2 (mulT (slT p q).1 (slT p q).2.1 v1.1 v1.2.1) = v2 at r2 ⊢
  rw [ec] at r2
  rw [calc_add h.cp.2.1.1 r2.ok k v2.2.2 hk, Option.bind_some]
  have r3 : Rel v2.2.2 (kp v2.2.2 (addT p.f1.f0 p.f1.f1 v2.1 v2.2.1)) (addT p.f1.f0 p.f1.f1 v2.1 v2.2.1) := rel_kp (addT_ok _ _ _ _)
  generalize kp v2.2.2 (addT p.f1.f0 p.f1.f1 v2.1 v2.2.1) = v3 at r3 ⊢
  refine ⟨_, rfl, r3.ok, ?_, ?_⟩
  · show v3.2.2 = _
    rw [r3.bad, r2.bad, r1.bad]
    cases hm1 : m1.2.2 with
    | false => simp
    | true =>
      obtain ⟨e1, e2⟩ := r1.val hm1
      rw [if_pos rfl, e1, e2]
      rw [e1, e2] at r2
      cases hm2 : (mulT m1.1 m1.2.1 (slT p q).1 (slT p q).2.1).2.2 with
      | false => simp
      | true =>
        obtain ⟨e3, e4⟩ := r2.val hm2
        rw [if_pos rfl, e3, e4]
        simp
  · intro hok
    show v3.1 = _ ∧ v3.2.1 = _
    split at hok
    · rename_i hm1
      obtain ⟨e1, e2⟩ := r1.val hm1
      rw [e1, e2] at r2
      rw [if_pos hm1]
      split at hok
      · rename_i hm2
        obtain ⟨e3, e4⟩ := r2.val hm2
        rw [e3, e4] at r3
        rw [if_pos hm2]
        exact r3.val hok
      · cases hok
    · cases hok
def atT (l : List Pt) (x0 x1 : Int) : Tri := onT (np l (pc l x0 x1)) (np l (pc l x0 x1 + 1)) x0 x1
theorem imAt_eq {l : List Pt} (hm : IsMap l) {x0 x1 : Int} (hx : OkU x0 x1) (k : Nat) (hk : 300 ≤ k) : spec_imAt.f k l x0 x1 = some (atT l x0 x1) := by
  obtain ⟨h1, _, h3, _⟩ := piece_eq l x0 x1 hm hx
  have hmost := hm.most
  unfold spec_imAt.f atT
  rw [h3 k (by omega), Option.bind_some, wr (_ + 1) (by omega), if_pos (by omega), if_pos (by omega), if_pos (by omega), if_pos (by omega), show ((pc l x0 x1 : Nat) : Int) + 1 = ((pc l x0 x1 + 1 : Nat) : Int) by omega, rd_np, rd_np, imOn_eq (hm.seg _ h1) hx.1 k hk, Option.bind_some]
theorem value_eq {l : List Pt} (hm : IsMap l) {x0 x1 : Int} (hx : OkU x0 x1) (s : Bool) (k : Nat) (hk : 300 ≤ k) : ∃ v, impl_calc_value.f k s l x0 x1 = some v ∧ Rel s v (atT l x0 x1) := by
  obtain ⟨h1, h2, _, _⟩ := piece_eq l x0 x1 hm hx
  have hmost := hm.most
  unfold impl_calc_value.f atT
  rw [h2, Option.bind_some, wr (_ + 1) (by omega), if_pos (by omega), if_pos (by omega), if_pos (by omega), if_pos (by omega), show ((pc l x0 x1 : Nat) : Int) + 1 = ((pc l x0 x1 + 1 : Nat) : Int) by omega, rd_np, rd_np, slope_eq (hm.seg _ h1) s k hk, Option.bind_some]
  obtain ⟨v, e, r⟩ := line_eq (hm.seg _ h1) hx.1 s k hk
  exact ⟨v, by rw [e]; rfl, r⟩
def Units (l : List Ra) : Prop := ∀ x ∈ l, OkU x.f0 x.f1
instance (l : List Ra) : Decidable (Units l) := by unfold Units; infer_instance
theorem areUnits_eq (l : List Ra) (k : Nat) (hk : 300 ≤ k) : impl_areUnits.f k l = some (decide (Units l)) := by
  unfold impl_areUnits.f ContainsFunc_impl_areUnits_1.f
  rw [anyS_of (p := fun x => !decide (OkU x.f0 x.f1)) (fun x _ => by
    unfold impl_areUnits_1.f
    rw [isUnit_eq _ _ k (by omega)]
    rfl), Option.bind_some]
  congr 1
  rw [Bool.eq_iff_iff]
  rw [Bool.not_eq_true', decide_eq_true_eq, ← Bool.not_eq_true, List.any_eq_true]
  constructor
  · intro h x hx
    by_cases hu : OkU x.f0 x.f1
    · exact hu
    · exact absurd ⟨x, hx, by simp [hu]⟩ h
  · rintro h ⟨x, hx, hn⟩
    simp [h x hx] at hn
def Pseudo (l : List Ra) : Prop := 1 ≤ l.length ∧ l.length ≤ 20 ∧ Units l
instance (l : List Ra) : Decidable (Pseudo l) := by unfold Pseudo; infer_instance
theorem isPseudo_eq (l : List Ra) (k : Nat) (hk : 300 ≤ k) : impl_isPseudo.f k l = some (decide (Pseudo l)) := by
  unfold impl_isPseudo.f impl_within.f
  by_cases h1 : (1 : Int) ≤ (l.length : Int)
  · rw [if_pos h1, Option.bind_some]
    by_cases h2 : (l.length : Int) ≤ 20
    · rw [if_pos (by simpa using h2), areUnits_eq l k hk, Option.bind_some]
      congr 1
      rw [Bool.eq_iff_iff, decide_eq_true_eq, decide_eq_true_eq]
      exact ⟨fun h => ⟨by omega, by omega, h⟩, fun h => h.2.2⟩
    · rw [if_neg (by simpa using h2), decide_eq_false (fun h : Pseudo l => h2 (by have := h.2.1; omega))]
  · rw [if_neg h1, Option.bind_some, if_neg (by decide), decide_eq_false (fun h : Pseudo l => h1 (by have := h.1; omega))]
theorem sdGood_l (l : List Ra) (hl : l.length ≤ 1048576) : ∀ (d k i : Nat), i + d = l.length → (∀ j, j < i → OkU (nr l j).f0 (nr l j).f1) → 300 + d < k → spec_sdGood.l0 k l l (l.length : Int) (i : Int) = some (decide (Pseudo l)) := by
  intro d
  induction d with
  | zero =>
    intro k i hi hj hk
    obtain ⟨k, rfl⟩ : ∃ m, k = m + 1 := ⟨k - 1, by omega⟩
    simp only [spec_sdGood.l0, spec_l1In.f]
    rw [if_neg (by omega)]
    have hu : Units l := fun x hx => by
      obtain ⟨i, hi, rfl⟩ := mem_nr l x hx
      exact hj i (by omega)
    by_cases h1 : (l.length : Int) ≥ 1
    · rw [if_pos h1, Option.bind_some]
      congr 1
      rw [Bool.eq_iff_iff, decide_eq_true_eq, decide_eq_true_eq]
      exact ⟨fun h => ⟨by omega, by omega, hu⟩, fun h => by have := h.2.1; omega⟩
    · rw [if_neg h1, Option.bind_some, decide_eq_false (fun h : Pseudo l => h1 (by have := h.1; omega))]
  | succ d ih =>
    intro k i hi hj hk
    obtain ⟨k, rfl⟩ : ∃ m, k = m + 1 := ⟨k - 1, by omega⟩
    simp only [spec_sdGood.l0]
    rw [if_pos (by omega), if_pos (by omega), if_pos (by omega), rd_nr, raUnit_eq _ _ k (by omega), Option.bind_some]
    by_cases h : OkU (nr l i).f0 (nr l i).f1
    · rw [if_pos (decide_eq_true h), wr (_ + 1) (by omega), show (i : Int) + 1 = ((i + 1 : Nat) : Int) by omega]
      refine ih k (i + 1) (by omega) (fun j hj2 => ?_) (by omega)
      by_cases e : j = i
      · subst e; exact h
      · exact hj j (by omega)
    · rw [if_neg (by simpa using h), decide_eq_false (fun hp : Pseudo l => h (hp.2.2 _ (nr_mem l i (by omega))))]
theorem sdGood_eq (l : List Ra) (hl : l.length ≤ 1048576) (k : Nat) (hk : 1048576 + 400 ≤ k) : spec_sdGood.f k l = some (decide (Pseudo l)) := by
  unfold spec_sdGood.f
  exact sdGood_l l hl l.length k 0 (by omega) (fun j hj => by omega) (by omega)
theorem sdAsked_eq (f : List Pt) (l : List Ra) (hf : f.length ≤ 1048576) (hl : l.length ≤ 1048576) (k : Nat) (hk : 1048576 + 400 ≤ k) : spec_sdAsked.f k f l = some (mapB f && decide (Pseudo l)) := by
  unfold spec_sdAsked.f
  rw [imGoodB f hf k (by omega), Option.bind_some]
  cases h : mapB f with
  | true => rw [if_pos rfl, sdGood_eq l hl k hk]; rfl
  | false => rfl
theorem Pseudo.unit {l : List Ra} (h : Pseudo l) (i : Nat) (hi : i < l.length) : OkU (nr l i).f0 (nr l i).f1 := h.2.2 _ (nr_mem l i hi)
end Go.Proofs.Ytgejkhbehoabdaa.Pu
set_option linter.unusedVariables false
set_option linter.unusedSimpArgs false
namespace Go.Proofs.Ytgejkhbehoabdaa.Pure
open Go.RowKit Go.Proofs.Ytgejkhbehoabdaa.Q Go.Proofs.Ytgejkhbehoabdaa.Pu Go.Proofs.YtgejkhbehoabdaaW.PrintWords Go.Proofs.YtgejkhbehoabdaaW.PrintLast Go.Proofs.YtgejkhbehoabdaaW.PrintMore
noncomputable def extR (f : List Pt) (l : List Ra) : List Ra × Bool :=
  if mapB f = true ∧ Pseudo l ∧ l.length ≠ 20 then
    if (atT f (nr l (l.length - 1)).f0 (nr l (l.length - 1)).f1).2.2 = true then (l ++ [⟨(atT f (nr l (l.length - 1)).f0 (nr l (l.length - 1)).f1).1, (atT f (nr l (l.length - 1)).f0 (nr l (l.length - 1)).f1).2.1⟩], true) else ([], false)
  else ([], false)
theorem extR_len (f : List Pt) (l : List Ra) (hl : l.length ≤ 1048576) : (extR f l).1.length ≤ 1048577 := by
  unfold extR
  split
  · split
    · simp; omega
    · simp
  · simp
theorem spec_eq (f : List Pt) (l : List Ra) (hf : f.length ≤ 1048576) (hl : l.length ≤ 1048576) (k : Nat) (hk : 2000000 ≤ k) : spec_ExtendPseudo.f k f l = some (extR f l) := by
  unfold spec_ExtendPseudo.f extR
  obtain ⟨k, rfl⟩ : ∃ m, k = m + 1 := ⟨k - 1, by omega⟩
  rw [sdAsked_eq f l hf hl (k + 1) (by omega), Option.bind_some]
  by_cases h : mapB f = true ∧ Pseudo l
  · rw [h.1, decide_eq_true h.2, Bool.and_self, if_pos rfl]
    simp only [spec_ExtendPseudo.j0]
    by_cases h20 : l.length = 20
    · rw [if_pos (by simp; omega), if_neg (fun hh => hh.2.2 h20)]
    · have hp := h.2
      have h1 := hp.1
      have h2 := hp.2.1
      rw [if_neg (by simp; omega), wr _ (by omega), if_pos (by omega), if_pos (by omega), if_pos (by refine ⟨?_, hp, h20⟩ <;> first | rfl | trivial), show (l.length : Int) - 1 = ((l.length - 1 : Nat) : Int) by omega, rd_nr, imAt_eq ((mapB_iff f).1 h.1) (hp.unit _ (by omega)) k (by omega), Option.bind_some]
      split
      · simp only [Option.bind_some, List.nil_append]
        rw [if_pos (by simp; omega), if_pos (by simp; omega)]
      · rfl
  · rw [if_neg (fun hh => by simp only [Bool.and_eq_true, decide_eq_true_eq] at hh; exact h hh), if_neg (fun hh => h ⟨hh.1, hh.2.1⟩)]
    simp only [spec_ExtendPseudo.j0, if_true]
theorem valueAt_eq (f : List Pt) (hf : f.length ≤ 1048576) (hm : mapB f = true) (x0 x1 : Int) (hx : OkU x0 x1) (k : Nat) (hk : 2000 ≤ k) : ∃ v : Tri, impl_ValueAt.f k f x0 x1 = some v ∧ v.2.2 = (atT f x0 x1).2.2 ∧ ((atT f x0 x1).2.2 = true → v.1 = (atT f x0 x1).1 ∧ v.2.1 = (atT f x0 x1).2.1) := by
  unfold impl_ValueAt.f
  obtain ⟨k, rfl⟩ : ∃ m, k = m + 1 := ⟨k - 1, by omega⟩
  rw [isMapB f hf (k + 1) (by omega), hm, Option.bind_some, if_pos rfl, isUnit_eq _ _ (k + 1) (by omega), decide_eq_true hx, Option.bind_some]
  simp only [impl_ValueAt.j0]
  rw [if_neg (by decide)]
  obtain ⟨v, e, r⟩ := value_eq ((mapB_iff f).1 hm) hx false k (by omega)
  rw [e, Option.bind_some]
  have rb := r.bad
  cases hv : v.2.2 with
  | true =>
    rw [hv] at rb
    rw [if_pos rfl]
    have : (atT f x0 x1).2.2 = false := by cases h : (atT f x0 x1).2.2 with | false => rfl | true => rw [h] at rb; cases rb
    exact ⟨_, rfl, this.symm, fun h => by rw [this] at h; cases h⟩
  | false =>
    rw [hv] at rb
    rw [if_neg (by decide)]
    have : (atT f x0 x1).2.2 = true := by cases h : (atT f x0 x1).2.2 with | true => rfl | false => rw [h] at rb; cases rb
    exact ⟨_, rfl, this.symm, fun h => r.val h⟩
theorem impl_eq (f : List Pt) (l : List Ra) (hf : f.length ≤ 1048576) (hl : l.length ≤ 1048576) (k : Nat) (hk : 2000000 ≤ k) : impl_ExtendPseudo.f k f l = some (extR f l) := by
  unfold impl_ExtendPseudo.f extR
  obtain ⟨k, rfl⟩ : ∃ m, k = m + 1 := ⟨k - 1, by omega⟩
  rw [isMapB f hf (k + 1) (by omega), Option.bind_some]
  cases hmb : mapB f with
  | false =>
    rw [if_neg (by decide), if_neg (fun h => by cases h.1)]
    simp only [impl_ExtendPseudo.j0, if_true]
  | true =>
    rw [if_pos rfl, isPseudo_eq l (k + 1) (by omega), Option.bind_some]
    by_cases hp : Pseudo l
    · rw [decide_eq_true hp, if_pos rfl]
      simp only [impl_ExtendPseudo.j0]
      by_cases h20 : l.length = 20
      · rw [if_pos (by simp; omega), if_neg (fun hh => hh.2.2 h20)]
      · have h1 := hp.1
        have h2 := hp.2.1
        rw [if_neg (by simp; omega), wr _ (by omega), if_pos (by omega), if_pos (by omega), if_pos (by refine ⟨?_, hp, h20⟩ <;> first | rfl | trivial), show (l.length : Int) - 1 = ((l.length - 1 : Nat) : Int) by omega, rd_nr]
        obtain ⟨v, e, e2, e3⟩ := valueAt_eq f hf hmb _ _ (hp.unit (l.length - 1) (by omega)) k (by omega)
        rw [e, Option.bind_some, e2]
        cases ha : (atT f (nr l (l.length - 1)).f0 (nr l (l.length - 1)).f1).2.2 with
        | false => rw [if_neg (by decide), if_neg (by decide)]
        | true =>
          obtain ⟨v1, v2⟩ := e3 ha
          rw [if_pos rfl, if_pos rfl, v1, v2]
          unfold impl_Rat_117.f
          rw [if_pos (by omega)]
          simp only [Option.bind_some]
          rw [if_pos (by simp; omega)]
    · rw [decide_eq_false hp, if_neg (by decide), if_neg (fun h => hp h.2.1)]
      simp only [impl_ExtendPseudo.j0, if_true]
theorem FnExactExtendPseudo : laws_FnExactExtendPseudo.Pure := by
  intro l0 l1 _ _ _ _
  refine ⟨4000005, ?_⟩
  unfold laws_FnExactExtendPseudo.f laws_szPointS.f
  have hm0 : (maxLen : Nat) ≤ 9223372036854775807 := by decide
  by_cases hb : (wrap64 (1048576 - (l0.length : Int))) < 0
  · rw [if_pos hb]; rfl
  · rw [if_neg hb]
    have hl0 : l0.length ≤ 1048576 := by rw [wr _ (by omega)] at hb; omega
    simp only [Option.bind_some]
    rw [if_neg hb]
    unfold laws_szRatS.f
    rw [wr (1048576 - _) (by omega)]
    by_cases hc : (wrap64 (1048576 - (l0.length : Int) - (l1.length : Int))) < 0
    · rw [if_pos hc]; rfl
    · rw [if_neg hc]
      have hl1 : l1.length ≤ 1048576 := by rw [wr _ (by omega)] at hc; omega
      simp only [Option.bind_some]
      rw [if_neg hc, toPointS l0 hl0 _ (by omega), toRatS l1 hl1 _ (by omega)]
      simp only [Option.bind_some]
      have hf : (l0.map cvPoint).length ≤ 1048576 := by simpa using hl0
      have hr : (l1.map cvRat).length ≤ 1048576 := by simpa using hl1
      generalize hF : l0.map cvPoint = F at hf
      generalize hR : l1.map cvRat = R at hr
      rcases hv : extR F R with ⟨v, b⟩
      have hv9 : v.length ≤ 1048577 := by have := extR_len F R hr; rw [hv] at this; exact this
      rw [spec_eq F R hf hr _ (by omega), impl_eq F R hf hr _ (by omega), hv]
      simp only [Option.bind_some]
      rw [eqRatS_self v (by omega) _ (by omega)]
      simp only [Option.bind_some, if_true, bne_self_eq_false, laws_FnExactExtendPseudo.j0]
      rw [if_neg (by decide), toPointS l0 hl0 _ (by omega), hF]
      simp only [Option.bind_some]
      rw [eqPointS_self F (by omega) _ (by omega)]
      simp only [Option.bind_some, if_true]
      rw [toRatS l1 hl1 _ (by omega), hR]
      simp only [Option.bind_some]
      rw [eqRatS_self R (by omega) _ (by omega)]
      simp only [Option.bind_some, if_true]
      rw [markPointS F 1 (by omega) (by omega) _ (by omega)]
      simp only [Option.bind_some]
      rw [markRatS R _ (by omega) (by omega) _ (by omega)]
      simp only [Option.bind_some]
      rw [if_neg (by omega), eqRatS_self v (by omega) _ (by omega)]
      simp only [Option.bind_some, if_true, laws_FnExactExtendPseudo.j1]
      rw [if_neg (by decide), markRatS v 1 (by omega) (by omega) _ (by omega)]
      simp only [Option.bind_some]
      rw [heldRatS v.length 1 (by omega) (by omega) _ (by omega)]
      simp only [Option.bind_some]
      rw [if_neg (by omega), if_pos (by trivial), toPointS l0 hl0 _ (by omega), toRatS l1 hl1 _ (by omega), hF, hR]
      simp only [Option.bind_some]
      rw [impl_eq F R hf hr _ (by omega), hv]
      simp only [Option.bind_some]
      rw [eqRatS_self v (by omega) _ (by omega)]
      simp only [Option.bind_some, if_true, bne_self_eq_false, laws_FnExactExtendPseudo.j2]
      rw [if_neg (by decide), heldRatS v.length 1 (by omega) (by omega) _ (by omega)]
      simp only [Option.bind_some]
      rw [if_neg (by omega), if_pos (by trivial)]
end Go.Proofs.Ytgejkhbehoabdaa.Pure

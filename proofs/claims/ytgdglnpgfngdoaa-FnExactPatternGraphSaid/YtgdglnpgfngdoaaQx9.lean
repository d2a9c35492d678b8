-- Laid by wip/tools/lay.py (a program of this session) over the kit's print.py and hand-proved contracts.
import Derived.Test.YtgdglnpgfngdoaaQx0
import Derived.Test.YtgdglnpgfngdoaaQx1
import Derived.Test.YtgdglnpgfngdoaaQx4
import Derived.Test.YtgdglnpgfngdoaaQx7
import Derived.Test.YtgdglnpgfngdoaaQx8
namespace Go.Proofs.Ytgdglnpgfngdoaa.Q
open Go.RowKit Go.Proofs.YtgdglnpgfngdoaaW.PrintWords Go.Proofs.YtgdglnpgfngdoaaW.PrintLast Go.Proofs.YtgdglnpgfngdoaaW.PrintMore
attribute [local go_sem] max2_int min2_int max_two min_two max_three min_three max_four min_four   -- for this text's walks alone
set_option linter.unusedVariables false
set_option linter.unusedSimpArgs false

/-! ### laws_heldIntS: function 20 -/
def laws_heldIntS.l0 : Nat → List Int → Int → Int → Option (Int)
  | 0, _, _, _ => none
  | k + 1, x0, x1, x5 => if x5 < (x0.length : Int) then (if 0 ≤ x5 then (if (rd x0 x5) = x1 then (laws_heldIntS.l0 k x0 (wrap64 (x1 + 1)) (wrap64 (x5 + 1))) else (some (-1))) else (none)) else (some x1)
def laws_heldIntS.f (k : Nat) (l0 : List Int) (a1 : Int) : Option (Int) := laws_heldIntS.l0 k l0 a1 0
theorem laws_heldIntS.mono_l : ∀ k, (∀ y0 y1 y2, LeO (laws_heldIntS.l0 k y0 y1 y2) (laws_heldIntS.l0 (k + 1) y0 y1 y2))
  | 0 => fun _ _ _ r h => by simp [laws_heldIntS.l0] at h
  | k + 1 => by
    have ih0 := laws_heldIntS.mono_l k
    · intro y0 y1 y2
      unfold laws_heldIntS.l0
      repeat' first
      | (with_reducible exact ih0 _ _ _)
      | (with_reducible exact LeO.refl _)
      | (with_reducible exact LeO.none _)
      | (with_reducible refine LeO.ite ?_ ?_)
      | (with_reducible refine LeO.bind ?_ (fun _ => ?_))
      | exact ih0 _ _ _
      | exact LeO.none _
      | refine LeO.ite ?_ ?_
      | refine LeO.bind ?_ (fun _ => ?_)
theorem laws_heldIntS.mono : ∀ a0 a1 k, LeO (laws_heldIntS.f k a0 a1) (laws_heldIntS.f (k + 1) a0 a1) := by
  intro a0 a1 k
  have ih0 := laws_heldIntS.mono_l k
  unfold laws_heldIntS.f
  repeat' first
      | (with_reducible exact ih0 _ _ _)
      | (with_reducible exact LeO.refl _)
      | (with_reducible exact LeO.none _)
      | (with_reducible refine LeO.ite ?_ ?_)
      | (with_reducible refine LeO.bind ?_ (fun _ => ?_))
      | exact ih0 _ _ _
      | exact LeO.none _
      | refine LeO.ite ?_ ?_
      | refine LeO.bind ?_ (fun _ => ?_)
set_option maxHeartbeats 8000000 in
set_option maxRecDepth 100000 in
theorem laws_heldIntS.calls (k : Nat) (A0 : Option Addr) (c0 : Nat) (l0 : List Int) (a1 : Int) (r : Int) (w : World) (hr0 : Kd.C (Kd.int .i64) w A0 l0.length l0) (hc0 : l0.length ≤ c0) (h : laws_heldIntS.f k l0 a1 = some r) :
    Calls Try.prog 20 #[.slice A0 l0.length c0, .int .i64 a1] w fun e w' => e = .returned (.int .i64 r) ∧ Drawn0 w w' := by
  have HR0 := Aside0.mk hr0
  have HC0 := Aside0.mk hc0
  clear hr0 hc0
  have H : (laws_heldIntS.l0 k l0 a1 0) = some r := h
  clear h
  have H' := Aside0.mk H
  clear H
  go_enter Try.func20, Try.ntmps20
  go_wp2
  go_loopg [1, 5] k (fun kq v1 v5 w' => ∃ (x1_1 : Int) (x5_1 : Int), v1 = .int .i64 x1_1 ∧ v5 = .int .i64 x5_1 ∧ Aside0 (laws_heldIntS.l0 kq l0 x1_1 x5_1 = some r) ∧ Aside0 (kq ≤ k) ∧ Drawn0 w w')
  case atStart => exact ⟨(a1), (0), (by first | rfl | (simp; done) | (simp [*]; done)), (by first | rfl | (simp; done) | (simp [*]; done)), H', ⟨Nat.le_refl _⟩, by repeat (first | exact Drawn0.refl _ | apply Drawn0.step)⟩
  case round =>
    clear H'
    try clear c2
    try clear p2
    obtain ⟨x1_1, x5_1, rfl, rfl, HA, HK1, ⟨m1, rfl⟩⟩ := hrel
    cases gk with
    | zero => exact absurd HA.out (by simp [laws_heldIntS.l0])
    | succ k1 =>
      have H := HA.out
      clear HA
      simp only [laws_heldIntS.l0] at H
      by_cases c3 : x5_1 < (l0.length : Int)
      · rw [if_pos c3] at H
        have c3b0 : decide (x5_1 < (l0.length : Int)) = true := decide_eq_true c3
        clear c3
        by_cases c4 : 0 ≤ x5_1
        · rw [if_pos c4] at H
          have c4b0 : decide (0 ≤ x5_1) = true := decide_eq_true c4
          clear c4
          by_cases c5 : (rd l0 x5_1) = x1_1
          · rw [if_pos c5] at H
            have c5b0 : ((rd l0 x5_1) == x1_1) = true := beq_iff_eq.mpr c5
            have c5b1 : ((rd l0 x5_1) != x1_1) = false := bne_eq_false_iff_eq.mpr c5
            clear c5
            have H' := Aside0.mk H
            clear H
            have p179 : 0 ≤ (x5_1 : Int) := of_decide_eq_true (by first | (with_reducible assumption) | assumption)
            have q179 : x5_1 < (l0.length : Int) := of_decide_eq_true (by first | (with_reducible assumption) | assumption)
            obtain ⟨ad179, e179, hx179_0⟩ := Kd.at_int HR0.out x5_1 p179 q179
            cases e179
            replace p179 := eq_true p179
            replace q179 := eq_true q179
            go_wp2
            go_roundg k1
            case measure => have := HK1.out; omega
            case rel => exact ⟨(wrap64 (x1_1 + 1)), (wrap64 (x5_1 + 1)), (by first | rfl | (simp; done) | (simp [*]; done)), (by first | rfl | (simp; done) | (simp [*]; done)), H', ⟨by have := HK1.out; omega⟩, by repeat (first | exact Drawn0.refl _ | apply Drawn0.step)⟩
          · rw [if_neg c5] at H
            have c5b0 : ((rd l0 x5_1) == x1_1) = false := beq_eq_false_iff_ne.mpr c5
            have c5b1 : ((rd l0 x5_1) != x1_1) = true := bne_iff_ne.mpr c5
            obtain rfl := Option.some.inj H
            have p179 : 0 ≤ (x5_1 : Int) := of_decide_eq_true (by first | (with_reducible assumption) | assumption)
            have q179 : x5_1 < (l0.length : Int) := of_decide_eq_true (by first | (with_reducible assumption) | assumption)
            obtain ⟨ad179, e179, hx179_0⟩ := Kd.at_int HR0.out x5_1 p179 q179
            cases e179
            replace p179 := eq_true p179
            replace q179 := eq_true q179
            go_wp2
            go_ret
            exact ⟨by first | rfl | (simp; done) | (simp [*]; done), by repeat (first | exact Drawn0.refl _ | apply Drawn0.step)⟩
        · rw [if_neg c4] at H
          exact absurd H (by simp)
      · rw [if_neg c3] at H
        have c3b0 : decide (x5_1 < (l0.length : Int)) = false := decide_eq_false c3
        clear c3
        obtain rfl := Option.some.inj H
        go_wp2
        go_ret
        exact ⟨by first | rfl | (simp; done) | (simp [*]; done), by repeat (first | exact Drawn0.refl _ | apply Drawn0.step)⟩

/-! ### laws_heldIntSS: function 37 -/
def laws_heldIntSS.l0 : Nat → List (List Int) → Int → Int → Option (Int)
  | 0, _, _, _ => none
  | k + 1, x0, x1, x5 => if x5 < (x0.length : Int) then (if 0 ≤ x5 then ((laws_heldIntS.f k (rd_L1 x0 x5) x1).bind fun t181 => (if t181 < 0 then (some (-1)) else (laws_heldIntSS.l0 k x0 t181 (wrap64 (x5 + 1))))) else (none)) else (some x1)
def laws_heldIntSS.f (k : Nat) (l0 : List (List Int)) (a1 : Int) : Option (Int) := laws_heldIntSS.l0 k l0 a1 0
theorem laws_heldIntSS.mono_l : ∀ k, (∀ y0 y1 y2, LeO (laws_heldIntSS.l0 k y0 y1 y2) (laws_heldIntSS.l0 (k + 1) y0 y1 y2))
  | 0 => fun _ _ _ r h => by simp [laws_heldIntSS.l0] at h
  | k + 1 => by
    have ih0 := laws_heldIntSS.mono_l k
    · intro y0 y1 y2
      unfold laws_heldIntSS.l0
      repeat' first
      | (with_reducible exact ih0 _ _ _)
      | (with_reducible exact laws_heldIntS.mono _ _ _)
      | (with_reducible exact LeO.refl _)
      | (with_reducible exact LeO.none _)
      | (with_reducible refine LeO.ite ?_ ?_)
      | (with_reducible refine LeO.bind ?_ (fun _ => ?_))
      | exact ih0 _ _ _
      | exact laws_heldIntS.mono _ _ _
      | exact LeO.none _
      | refine LeO.ite ?_ ?_
      | refine LeO.bind ?_ (fun _ => ?_)
theorem laws_heldIntSS.mono : ∀ a0 a1 k, LeO (laws_heldIntSS.f k a0 a1) (laws_heldIntSS.f (k + 1) a0 a1) := by
  intro a0 a1 k
  have ih0 := laws_heldIntSS.mono_l k
  unfold laws_heldIntSS.f
  repeat' first
      | (with_reducible exact ih0 _ _ _)
      | (with_reducible exact laws_heldIntS.mono _ _ _)
      | (with_reducible exact LeO.refl _)
      | (with_reducible exact LeO.none _)
      | (with_reducible refine LeO.ite ?_ ?_)
      | (with_reducible refine LeO.bind ?_ (fun _ => ?_))
      | exact ih0 _ _ _
      | exact laws_heldIntS.mono _ _ _
      | exact LeO.none _
      | refine LeO.ite ?_ ?_
      | refine LeO.bind ?_ (fun _ => ?_)
set_option maxHeartbeats 8000000 in
set_option maxRecDepth 100000 in
theorem laws_heldIntSS.calls (k : Nat) (A0 : Option Addr) (c0 : Nat) (l0 : List (List Int)) (a1 : Int) (r : Int) (w : World) (hr0 : Kd.C (Kd.slice 3 (Kd.int .i64)) w A0 l0.length l0) (hc0 : l0.length ≤ c0) (h : laws_heldIntSS.f k l0 a1 = some r) :
    Calls Try.prog 37 #[.slice A0 l0.length c0, .int .i64 a1] w fun e w' => e = .returned (.int .i64 r) ∧ Drawn0 w w' := by
  have HR0 := Aside0.mk hr0
  have HC0 := Aside0.mk hc0
  clear hr0 hc0
  have H : (laws_heldIntSS.l0 k l0 a1 0) = some r := h
  clear h
  have H' := Aside0.mk H
  clear H
  go_enter Try.func37, Try.ntmps37
  go_wp2
  go_loopg [1, 5] k (fun kq v1 v5 w' => ∃ (x1_1 : Int) (x5_1 : Int), v1 = .int .i64 x1_1 ∧ v5 = .int .i64 x5_1 ∧ Aside0 (laws_heldIntSS.l0 kq l0 x1_1 x5_1 = some r) ∧ Aside0 (kq ≤ k) ∧ Drawn0 w w')
  case atStart => exact ⟨(a1), (0), (by first | rfl | (simp; done) | (simp [*]; done)), (by first | rfl | (simp; done) | (simp [*]; done)), H', ⟨Nat.le_refl _⟩, by repeat (first | exact Drawn0.refl _ | apply Drawn0.step)⟩
  case round =>
    clear H'
    try clear p2
    obtain ⟨x1_1, x5_1, rfl, rfl, HA, HK1, ⟨m1, rfl⟩⟩ := hrel
    cases gk with
    | zero => exact absurd HA.out (by simp [laws_heldIntSS.l0])
    | succ k1 =>
      have H := HA.out
      clear HA
      simp only [laws_heldIntSS.l0] at H
      by_cases c3 : x5_1 < (l0.length : Int)
      · rw [if_pos c3] at H
        have c3b0 : decide (x5_1 < (l0.length : Int)) = true := decide_eq_true c3
        clear c3
        by_cases c4 : 0 ≤ x5_1
        · rw [if_pos c4] at H
          have c4b0 : decide (0 ≤ x5_1) = true := decide_eq_true c4
          clear c4
          replace H := Option.bind_eq_some_iff.mp H
          obtain ⟨t181, A50, H⟩ := H
          replace H : (if t181 < 0 then (some (-1)) else (laws_heldIntSS.l0 k1 l0 t181 (wrap64 (x5_1 + 1)))) = some r := H
          have A5 := Aside0.mk A50
          clear A50
          by_cases c6 : t181 < 0
          · rw [if_pos c6] at H
            have c6b0 : decide (t181 < 0) = true := decide_eq_true c6
            clear c6
            obtain rfl := Option.some.inj H
            have p180 : 0 ≤ (x5_1 : Int) := of_decide_eq_true (by first | (with_reducible assumption) | assumption)
            have q180 : x5_1 < (l0.length : Int) := of_decide_eq_true (by first | (with_reducible assumption) | assumption)
            obtain ⟨ad180, A180_0, c180_0, e180, hx180_0, hl180_0, hi180_0⟩ := at_L1 HR0.out x5_1 p180 q180
            cases e180
            have HR180_0 := Aside0.mk hi180_0
            have HC180_0 := Aside0.mk hl180_0
            clear hi180_0 hl180_0
            replace p180 := eq_true p180
            replace q180 := eq_true q180
            go_wp2_with (first | ((with_reducible refine gate_callee (f := 20) rfl ?_); refine goesL_ (some 17) rfl rfl Try.func20 (by kernel_rfl) rfl #[.slice A180_0 (rd_L1 l0 x5_1).length c180_0, .int .i64 x1_1] rfl (by (try simp only [List.map_toArray, List.map_cons, List.map_nil]); first | done | rfl | (simp only [List.length_drop, List.length_take]; rfl)) ?_; (with_reducible refine (laws_heldIntS.calls k1 _ _ (rd_L1 l0 x5_1) x1_1 t181 _ ?side1 ?side2 A5.out).mono ?_); (case side1 => repeat (first | exact HR180_0.out | (with_reducible refine Kd.C_alloc ?_ _) | (with_reducible refine Kd.C_drewN ?_ _) | (with_reducible refine Kd.C_drew ?_))); (case side2 => exact HC180_0.out); rintro e w' ⟨rfl, ⟨nd, rfl⟩⟩; refine ⟨_, rfl, ?_⟩))
            go_ret
            exact ⟨by first | rfl | (simp; done) | (simp [*]; done), by repeat (first | exact Drawn0.refl _ | apply Drawn0.step)⟩
          · rw [if_neg c6] at H
            have c6b0 : decide (t181 < 0) = false := decide_eq_false c6
            clear c6
            have H' := Aside0.mk H
            clear H
            have p180 : 0 ≤ (x5_1 : Int) := of_decide_eq_true (by first | (with_reducible assumption) | assumption)
            have q180 : x5_1 < (l0.length : Int) := of_decide_eq_true (by first | (with_reducible assumption) | assumption)
            obtain ⟨ad180, A180_0, c180_0, e180, hx180_0, hl180_0, hi180_0⟩ := at_L1 HR0.out x5_1 p180 q180
            cases e180
            have HR180_0 := Aside0.mk hi180_0
            have HC180_0 := Aside0.mk hl180_0
            clear hi180_0 hl180_0
            replace p180 := eq_true p180
            replace q180 := eq_true q180
            go_wp2_with (first | ((with_reducible refine gate_callee (f := 20) rfl ?_); refine goesL_ (some 17) rfl rfl Try.func20 (by kernel_rfl) rfl #[.slice A180_0 (rd_L1 l0 x5_1).length c180_0, .int .i64 x1_1] rfl (by (try simp only [List.map_toArray, List.map_cons, List.map_nil]); first | done | rfl | (simp only [List.length_drop, List.length_take]; rfl)) ?_; (with_reducible refine (laws_heldIntS.calls k1 _ _ (rd_L1 l0 x5_1) x1_1 t181 _ ?side1 ?side2 A5.out).mono ?_); (case side1 => repeat (first | exact HR180_0.out | (with_reducible refine Kd.C_alloc ?_ _) | (with_reducible refine Kd.C_drewN ?_ _) | (with_reducible refine Kd.C_drew ?_))); (case side2 => exact HC180_0.out); rintro e w' ⟨rfl, ⟨nd, rfl⟩⟩; refine ⟨_, rfl, ?_⟩))
            go_roundg k1
            case measure => have := HK1.out; omega
            case rel => exact ⟨(t181), (wrap64 (x5_1 + 1)), (by first | rfl | (simp; done) | (simp [*]; done)), (by first | rfl | (simp; done) | (simp [*]; done)), H', ⟨by have := HK1.out; omega⟩, by repeat (first | exact Drawn0.refl _ | apply Drawn0.step)⟩
        · rw [if_neg c4] at H
          exact absurd H (by simp)
      · rw [if_neg c3] at H
        have c3b0 : decide (x5_1 < (l0.length : Int)) = false := decide_eq_false c3
        clear c3
        obtain rfl := Option.some.inj H
        go_wp2
        go_ret
        exact ⟨by first | rfl | (simp; done) | (simp [*]; done), by repeat (first | exact Drawn0.refl _ | apply Drawn0.step)⟩

/-! ### laws_FnExactPatternGraph: function 10 -/
def laws_FnExactPatternGraph.Pure : Prop := ∀ (l0 : List Int), l0.length ≤ maxLen → l0.length * 8 ≤ 140737488351232 → (∀ x ∈ l0, (Lit.int .i64 x).wf = true) →
  (l0.length : Int) ≤ 1048576 → ∃ (k : Nat) (v : List (List Int)) (b : Bool) (q1 : Int) (mk : List Int) (m2 : Int) (ys : List (List Int)),
    laws_toIntS.f k l0 = some l0 ∧ spec_PatternGraph.f k l0 = some (v, b) ∧ impl_PatternGraph.f k l0 = some (v, b) ∧ laws_eqIntSS.f k v v = some true ∧ laws_eqIntS.f k l0 l0 = some true ∧
    laws_markIntS.f k l0 1 = some (q1, mk) ∧ 0 ≤ q1 ∧ laws_markIntSS.f k v 1 = some (m2, ys) ∧ laws_heldIntSS.f k ys 1 = some m2 ∧ 0 ≤ m2
set_option maxHeartbeats 16000000 in
set_option maxRecDepth 100000 in
theorem laws_FnExactPatternGraph.walk (P : laws_FnExactPatternGraph.Pure) (a0 : Option Addr) (len0 cap0 : Nat) (z0 : List Int) (w : World) (w0 : (a0 = none ∧ len0 = 0 ∧ cap0 = 0 ∧ z0 = []) ∨ ∃ x, a0 = some x ∧ len0 ≤ cap0 ∧ cap0 ≤ maxLen ∧ z0.length = cap0 ∧ (∀ i, i < z0.length → w.cell? (x.add i) = some (.int .i64 (z0.getD i 0))) ∧ ∀ n ∈ z0, (Lit.int .i64 n).wf = true) (y0 : len0 * 8 ≤ 140737488351232) :
    Calls Try.prog 10 #[.slice a0 len0 cap0] w fun e w' => e = .returned (.bool true) ∧ Below w.heap.size w w' := by
  obtain ⟨l0, rfl, hr0, hm0, hw0, hc0⟩ := ReadsInt.ofRowC w0
  clear w0
  have HR0 := Aside0.mk (show Kd.C (Kd.int .i64) w a0 l0.length l0 from Kd.C_of_reads (d := (0 : Int)) (h1 := fun _ => rfl) hr0)
  have hm : l0.length ≤ 9223372036854775807 := HR0.out.2.1
  by_cases hbig : (l0.length : Int) ≤ 1048576
  · obtain ⟨k, v, b, q1, mk, m2, ys, f1, f2, f3, f4, f5, f6, f7, f8, f9, f10⟩ := P l0 hm0 y0 hw0 hbig
    have F1 := Aside0.mk f1
    have F2 := Aside0.mk f2
    have F3 := Aside0.mk f3
    have F4 := Aside0.mk f4
    have F5 := Aside0.mk f5
    have F6 := Aside0.mk f6
    have F8 := Aside0.mk f8
    have F9 := Aside0.mk f9
    clear f1 f2 f3 f4 f5 f6 f8 f9 hr0 hw0 P
    have hng : ¬ (l0.length : Int) > 1048576 := by omega
    go_enter Try.func10, Try.ntmps10
    go_wp2_with fail
    refine (laws_toIntS.calls k a0 cap0 l0 l0 _ HR0.out hc0 F1.out).mono ?_
    rintro e w1 ⟨v1, rfl, hR, hb⟩
    have HB1 := Aside0.mk hb
    obtain ⟨A1, c1, rfl⟩ := Kd.R_slice hR
    have hrd := Kd.R_reads' hR
    have HS := Aside0.mk (spec_PatternGraph.calls k A1 c1 l0 v b w1 hrd.2.2 hrd.2.1 F2.out)
    clear hR hb hrd
    go_wp2_with fail
    refine HS.out.mono ?_
    rintro e wa ⟨v2, rfl, hS, hb⟩
    have HBa := Aside0.mk (below_step HB1.out hb)
    obtain ⟨A2, c2, rfl⟩ := Kd.S_slice hS
    have hrd := Kd.S_reads' hS
    have HCV := Aside0.mk hrd.2.2
    have HC2 := Aside0.mk hrd.2.1
    clear HS hS hb hrd HB1
    go_wp2_with fail
    refine (laws_toIntS.calls k a0 cap0 l0 l0 _ (Kd.C_below HR0.out HBa.out) hc0 F1.out).mono ?_
    rintro e wb ⟨v3, rfl, hR, hb⟩
    have HBb := Aside0.mk hb
    have HBab := Aside0.mk hb.size
    obtain ⟨A3, c3, rfl⟩ := Kd.R_slice hR
    have HX := Aside0.mk hR
    have hrd := Kd.R_reads' hR
    have HXlt := Aside0.mk (show ∀ q, (Value.slice A3 l0.length c3).ownBlock = some q → q < wb.heap.size from fun q hq => own_lt (Kd.R_own hR).choose_spec q hq)
    have HG := Aside0.mk (impl_PatternGraph.calls k A3 c3 l0 v b wb hrd.2.2 hrd.2.1 F3.out)
    clear hR hb hrd
    go_wp2_with fail
    refine HG.out.mono ?_
    rintro e wc ⟨v4, rfl, hS, hb⟩
    have HBc := Aside0.mk hb
    have HBac := Aside0.mk (below_step HBb.out hb)
    obtain ⟨A4, c4, rfl⟩ := Kd.S_slice hS
    have HGS := Aside0.mk hS
    have hrd := Kd.S_reads' hS
    have HXc := Aside0.mk (Kd.R_below HX.out hb)
    have HQ := Aside0.mk (laws_eqIntSS.calls k A4 c4 v A2 c2 v true wc hrd.2.2 hrd.2.1 (Kd.C_below HCV.out HBac.out) HC2.out F4.out)
    clear HG hS hb hrd HX HBb
    have hbb : (b != b) = false := bne_self_eq_false b
    go_wp2_with fail
    refine HQ.out.mono ?_
    rintro e wd ⟨rfl, ⟨nd, rfl⟩⟩
    clear HQ
    go_wp2_with fail
    have HBad := Aside0.mk (pw_below_drewN HBac.out nd)
    have HBwd := Aside0.mk (below_step HBa.out HBad.out)
    have HGd := Aside0.mk (Kd.S_drewN HGS.out nd)
    have HXd := Aside0.mk (Kd.R_drewN HXc.out nd)
    have HBbd := Aside0.mk (pw_below_drewN HBc.out nd)
    clear HGS HXc HBc HBac
    generalize wc.drewN nd = wd at HBad HBwd HGd HXd HBbd ⊢
    refine (laws_toIntS.calls k a0 cap0 l0 l0 _ (Kd.C_below HR0.out HBwd.out) hc0 F1.out).mono ?_
    rintro e we ⟨v5, rfl, hR, hb⟩
    obtain ⟨A5, c5, rfl⟩ := Kd.R_slice hR
    have hrd := Kd.R_reads' hR
    have HXe := Aside0.mk (Kd.R_below HXd.out hb)
    have HGe := Aside0.mk (Kd.S_below HGd.out hb)
    have HBae := Aside0.mk (below_then HBad.out HBad.out.size hb)
    have HBbe := Aside0.mk (below_then HBbd.out HBbd.out.size hb)
    have hrx := Kd.R_reads' HXe.out
    have HQ := Aside0.mk (laws_eqIntS.calls k A3 c3 l0 A5 c5 l0 true we hrx.2.2 hrx.2.1 hrd.2.2 hrd.2.1 F5.out)
    clear hR hb hrd hrx HXd HGd HBad HBbd HBwd
    go_wp2_with fail
    refine HQ.out.mono ?_
    rintro e wf ⟨rfl, ⟨nd2, rfl⟩⟩
    have HXf := Aside0.mk (Kd.R_drewN HXe.out nd2)
    have HGf := Aside0.mk (Kd.S_drewN HGe.out nd2)
    have HBaf := Aside0.mk (pw_below_drewN HBae.out nd2)
    have HBbf := Aside0.mk (pw_below_drewN HBbe.out nd2)
    clear HQ HXe HGe HBae HBbe
    go_wp2_with fail
    generalize we.drewN nd2 = wf at HXf HGf HBaf HBbf ⊢
    refine (laws_markIntS.calls k (fun k_ => some k_ = (Value.slice A3 l0.length c3).ownBlock) (.slice A3 l0.length c3) l0 1 q1 mk wa wf HBaf.out (Kd.R_tight rfl HXf.out) F6.out).mono ?_
    rintro e wg ⟨rfl, _, hb, hk⟩
    have hgr := grown_of_kept hk HBaf.out hb
    have HGg := Aside0.mk (Kd.S_grown (Kd.S_bound HGf.out) hgr (fun q hq e => by have := HXlt.out q e.symm; have := hq.2.1; omega))
    have HBag := Aside0.mk hb
    have HBsz := Aside0.mk (show wa.heap.size ≤ wb.heap.size from HBab.out)
    have hq1 : ¬ q1 < 0 := by omega
    have hm2 : ¬ m2 < 0 := by omega
    have hrg := Kd.S_reads' HGg.out
    have HQ := Aside0.mk (laws_eqIntSS.calls k A4 c4 v A2 c2 v true wg hrg.2.2 hrg.2.1 (Kd.C_below HCV.out HBag.out) HC2.out F4.out)
    clear hgr hb hk hrg HXf HGf HBaf HBbf
    go_wp2_with fail
    refine HQ.out.mono ?_
    rintro e wh ⟨rfl, ⟨nd3, rfl⟩⟩
    have HGh := Aside0.mk (Kd.S_lower (Kd.S_drewN HGg.out nd3) HBsz.out)
    have HBah := Aside0.mk (pw_below_drewN HBag.out nd3)
    clear HQ HGg HBag
    generalize wg.drewN nd3 = wh at HGh HBah ⊢
    go_wp2_with fail
    refine (laws_markIntSS.calls k _ _ v 1 m2 ys wa wh HBah.out HGh.out F8.out).mono ?_
    rintro e wi ⟨rfl, hS, hb⟩
    have hys : ys.length = v.length := by have := (Kd.S_reads' hS).1; omega
    have hrd := Kd.S_reads' hS
    have hy0 := laws_heldIntSS.calls k A4 c4 ys 1 m2 wi hrd.2.2 (by rw [hys]; exact hrd.2.1) F9.out
    rw [hys] at hy0
    have HQ := Aside0.mk hy0
    have HYS := Aside0.mk hys
    have HSi := Aside0.mk hS
    have HBai := Aside0.mk hb
    clear hy0 hrd hS hb HGh HBah hys
    go_wp2_with fail
    refine HQ.out.mono ?_
    rintro e wj ⟨rfl, ⟨nd4, rfl⟩⟩
    have HSj := Aside0.mk (Kd.S_drewN HSi.out nd4)
    have HBaj := Aside0.mk (pw_below_drewN HBai.out nd4)
    have HBwj := Aside0.mk (below_step HBa.out HBaj.out)
    clear HQ HSi HBai
    go_wp2_with fail
    generalize wi.drewN nd4 = wj at HSj HBaj HBwj ⊢
    refine (laws_toIntS.calls k a0 cap0 l0 l0 _ (Kd.C_below HR0.out HBwj.out) hc0 F1.out).mono ?_
    rintro e wk ⟨v6, rfl, hR, hb⟩
    obtain ⟨A6, c6, rfl⟩ := Kd.R_slice hR
    have hrd := Kd.R_reads' hR
    have HG := Aside0.mk (impl_PatternGraph.calls k A6 c6 l0 v b wk hrd.2.2 hrd.2.1 F3.out)
    have HSk := Aside0.mk (Kd.S_below HSj.out hb)
    have HBak := Aside0.mk (below_then HBaj.out HBaj.out.size hb)
    clear hR hb hrd HSj HBaj HBwj
    go_wp2_with fail
    refine HG.out.mono ?_
    rintro e wl ⟨v7, rfl, hS, hb⟩
    obtain ⟨A7, c7, rfl⟩ := Kd.S_slice hS
    have hrd := Kd.S_reads' hS
    have HSl := Aside0.mk (Kd.S_below HSk.out hb)
    have HBal := Aside0.mk (below_then HBak.out HBak.out.size hb)
    have HQ := Aside0.mk (laws_eqIntSS.calls k A7 c7 v A2 c2 v true wl hrd.2.2 hrd.2.1 (Kd.C_below HCV.out HBal.out) HC2.out F4.out)
    clear hS hb hrd HSk HBak HG
    go_wp2_with fail
    refine HQ.out.mono ?_
    rintro e wm ⟨rfl, ⟨nd5, rfl⟩⟩
    have HSm := Aside0.mk (Kd.S_drewN HSl.out nd5)
    have HBam := Aside0.mk (pw_below_drewN HBal.out nd5)
    clear HQ HSl HBal
    go_wp2_with fail
    generalize wl.drewN nd5 = wm at HSm HBam ⊢
    have hrd := Kd.S_reads' HSm.out
    have hys := HYS.out
    have hy0 := laws_heldIntSS.calls k A4 c4 ys 1 m2 wm hrd.2.2 (by rw [hys]; exact hrd.2.1) F9.out
    rw [hys] at hy0
    have HQ := Aside0.mk hy0
    clear hy0 hrd hys
    go_wp2_with fail
    refine HQ.out.mono ?_
    rintro e wn ⟨rfl, ⟨nd6, rfl⟩⟩
    clear HQ
    go_wp2_with fail
    go_ret
    exact ⟨rfl, below_step HBa.out (pw_below_drewN HBam.out nd6)⟩
  · have hng : (l0.length : Int) > 1048576 := by omega
    go_enter Try.func10, Try.ntmps10
    go_wp2_with fail
    go_ret
    exact ⟨rfl, Below.refl _ _⟩

end Go.Proofs.Ytgdglnpgfngdoaa.Q

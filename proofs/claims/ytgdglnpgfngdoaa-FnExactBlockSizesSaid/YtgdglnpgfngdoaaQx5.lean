-- Laid by wip/tools/lay.py (a program of this session) over the kit's print.py and hand-proved contracts.
import Derived.Test.YtgdglnpgfngdoaaQx0
import Derived.Test.YtgdglnpgfngdoaaQx4
namespace Go.Proofs.Ytgdglnpgfngdoaa.Q
open Go.RowKit Go.Proofs.YtgdglnpgfngdoaaW.PrintWords Go.Proofs.YtgdglnpgfngdoaaW.PrintLast Go.Proofs.YtgdglnpgfngdoaaW.PrintMore
attribute [local go_sem] max2_int min2_int max_two min_two max_three min_three max_four min_four   -- for this text's walks alone
set_option linter.unusedVariables false
set_option linter.unusedSimpArgs false

/-! ### impl_cycleOf: function 86 -/
def impl_cycleOf.l0 : Nat → List Int → List Int → Int → Option (List Int)
  | 0, _, _, _ => none
  | k + 1, x0, x3, x4 => (slices_Contains_int_int.f k x3 x4).bind fun t135 => (if t135 = true then (some x3) else (if x3.length < 17592186044416 then (if 0 ≤ x4 then (if x4 < (x0.length : Int) then (impl_cycleOf.l0 k x0 (x3 ++ [x4]) (rd x0 x4)) else (none)) else (none)) else (none)))
def impl_cycleOf.f (k : Nat) (l0 : List Int) : Option (List Int) := impl_cycleOf.l0 k l0 ([] : List Int) 0
theorem impl_cycleOf.mono_l : ∀ k, (∀ y0 y1 y2, LeO (impl_cycleOf.l0 k y0 y1 y2) (impl_cycleOf.l0 (k + 1) y0 y1 y2))
  | 0 => fun _ _ _ r h => by simp [impl_cycleOf.l0] at h
  | k + 1 => by
    have ih0 := impl_cycleOf.mono_l k
    · intro y0 y1 y2
      unfold impl_cycleOf.l0
      repeat' first
      | (with_reducible exact ih0 _ _ _)
      | (with_reducible exact slices_Contains_int_int.mono _ _ _)
      | (with_reducible exact LeO.refl _)
      | (with_reducible exact LeO.none _)
      | (with_reducible refine LeO.ite ?_ ?_)
      | (with_reducible refine LeO.bind ?_ (fun _ => ?_))
      | exact ih0 _ _ _
      | exact slices_Contains_int_int.mono _ _ _
      | exact LeO.none _
      | refine LeO.ite ?_ ?_
      | refine LeO.bind ?_ (fun _ => ?_)
theorem impl_cycleOf.mono : ∀ a0 k, LeO (impl_cycleOf.f k a0) (impl_cycleOf.f (k + 1) a0) := by
  intro a0 k
  have ih0 := impl_cycleOf.mono_l k
  unfold impl_cycleOf.f
  repeat' first
      | (with_reducible exact ih0 _ _ _)
      | (with_reducible exact slices_Contains_int_int.mono _ _ _)
      | (with_reducible exact LeO.refl _)
      | (with_reducible exact LeO.none _)
      | (with_reducible refine LeO.ite ?_ ?_)
      | (with_reducible refine LeO.bind ?_ (fun _ => ?_))
      | exact ih0 _ _ _
      | exact slices_Contains_int_int.mono _ _ _
      | exact LeO.none _
      | refine LeO.ite ?_ ?_
      | refine LeO.bind ?_ (fun _ => ?_)
set_option maxHeartbeats 8000000 in
set_option maxRecDepth 100000 in
theorem impl_cycleOf.calls (k : Nat) (A0 : Option Addr) (c0 : Nat) (l0 : List Int) (r : List Int) (w : World) (hr0 : Kd.C (Kd.int .i64) w A0 l0.length l0) (hc0 : l0.length ≤ c0) (h : impl_cycleOf.f k l0 = some r) :
    Calls Try.prog 86 #[.slice A0 l0.length c0] w fun e w' => ∃ v0_ : Value, e = .returned (v0_) ∧ Kd.R (Kd.int .i64) 3 w' w.heap.size (fun _ => True) v0_ r ∧ Below w.heap.size w w' := by
  have HR0 := Aside0.mk hr0
  have HC0 := Aside0.mk hc0
  clear hr0 hc0
  have HB := Aside0.mk (Below.refl w.heap.size w)
  have H : (impl_cycleOf.l0 k l0 ([] : List Int) 0) = some r := h
  clear h
  have H' := Aside0.mk H
  clear H
  go_enter Try.func86, Try.ntmps86
  go_wp2
  go_loopg [3, 4] k (fun kq v3 v4 w' => ∃ (x3_1 : List Int) (x4_1 : Int), v4 = .int .i64 x4_1 ∧ Aside0 (impl_cycleOf.l0 kq l0 x3_1 x4_1 = some r) ∧ Aside0 (kq ≤ k) ∧ Aside0 (Kd.R (Kd.int .i64) 3 w' w.heap.size (fun _ => True) v3 x3_1) ∧ Aside0 (Below w.heap.size w w'))
  case atStart => exact ⟨(([] : List Int)), (0), (by first | rfl | (simp; done) | (simp [*]; done)), H', ⟨Nat.le_refl _⟩, ⟨by first | exact Kd.R_nil _ _ _ _ _ | exact Kd.N_nil _ _ _ _ _ | exact Kd.V_nil _ _ _ _ _ | exact Kd.Q_nil _ _ _ _ _ | exact Kd.S_nil _ _ _ _ _⟩, ⟨by repeat (first | (with_reducible first | exact HB.out | apply below_alloc | apply pw_below_drewN | apply below_drew1) | exact HB.out)⟩⟩
  case round =>
    clear H'
    obtain ⟨x3_1, x4_1, rfl, HA, HK1, HO_3, HB⟩ := hrel
    cases gk with
    | zero => exact absurd HA.out (by simp [impl_cycleOf.l0])
    | succ k1 =>
      have H := HA.out
      clear HA
      simp only [impl_cycleOf.l0] at H
      replace H := Option.bind_eq_some_iff.mp H
      obtain ⟨t135, A20, H⟩ := H
      replace H : (if t135 = true then (some x3_1) else (if x3_1.length < 17592186044416 then (if 0 ≤ x4_1 then (if x4_1 < (l0.length : Int) then (impl_cycleOf.l0 k1 l0 (x3_1 ++ [x4_1]) (rd l0 x4_1)) else (none)) else (none)) else (none))) = some r := H
      have A2 := Aside0.mk A20
      clear A20
      by_cases c3 : t135 = true
      · subst c3
        have H1 : (some x3_1) = some r := by rw [if_pos rfl] at H; exact H
        clear H
        have H := H1
        clear H1
        obtain rfl := Option.some.inj H
        obtain ⟨Ao4, co4, eo4⟩ := Kd.R_slice HO_3.out
        subst eo4
        go_wp2_with (first | ((with_reducible refine gate_callee (f := 103) rfl ?_); refine goesL_ (some 7) rfl rfl Try.func103 (by kernel_rfl) rfl #[.slice Ao4 x3_1.length co4, .int .i64 x4_1] rfl (by (try simp only [List.map_toArray, List.map_cons, List.map_nil]); first | done | rfl | (simp only [List.length_drop, List.length_take]; rfl)) ?_; (with_reducible refine (slices_Contains_int_int.calls k1 _ _ x3_1 x4_1 true _ ?side1 ?side2 A2.out).mono ?_); (case side1 => repeat (first | exact (Kd.R_reads' HO_3.out).2.2 | (with_reducible refine Kd.C_alloc ?_ _) | (with_reducible refine Kd.C_drewN ?_ _) | (with_reducible refine Kd.C_drew ?_))); (case side2 => exact (Kd.R_reads' HO_3.out).2.1); rintro e w' ⟨rfl, ⟨nd, rfl⟩⟩; refine ⟨_, rfl, ?_⟩))
        go_ret
        exact ⟨_, by first | rfl | (simp [errW_none, errW_some] <;> rfl) | (simp [*, errW_none, errW_some] <;> rfl), by (with_reducible repeat (first | apply Kd.R_alloc | apply Kd.R_drewN | apply Kd.R_drew)); exact HO_3.out, by repeat (first | (with_reducible first | exact HB.out | apply below_alloc | apply pw_below_drewN | apply below_drew1) | exact HB.out)⟩
      · replace c3 := Bool.eq_false_iff.mpr c3
        subst c3
        have H1 : (if x3_1.length < 17592186044416 then (if 0 ≤ x4_1 then (if x4_1 < (l0.length : Int) then (impl_cycleOf.l0 k1 l0 (x3_1 ++ [x4_1]) (rd l0 x4_1)) else (none)) else (none)) else (none)) = some r := by rw [if_neg (show ¬ (false = true) by decide)] at H; exact H
        clear H
        have H := H1
        clear H1
        by_cases c5 : x3_1.length < 17592186044416
        · rw [if_pos c5] at H
          have LMc5 := Aside0.mk c5
          clear c5
          obtain ⟨y136, hy136⟩ : ∃ y_ : List Int, y_ = (x3_1 ++ [x4_1]) := ⟨_, rfl⟩
          replace H : (if 0 ≤ x4_1 then (if x4_1 < (l0.length : Int) then (impl_cycleOf.l0 k1 l0 y136 (rd l0 x4_1)) else (none)) else (none)) = some r := by first | (rw [hy136]; with_reducible exact H) | (have H2_ := (Option.bind_some _ _).symm.trans H; rw [hy136]; with_reducible exact H2_) | (have H2_ := (Option.bind_some _ _).symm.trans H; with_reducible exact H2_) | with_reducible exact H | (rw [hy136]; exact H) | exact H
          have Ny136 := Aside0.mk hy136
          clear hy136
          by_cases c6 : 0 ≤ x4_1
          · rw [if_pos c6] at H
            have c6b0 : decide (0 ≤ x4_1) = true := decide_eq_true c6
            clear c6
            by_cases c7 : x4_1 < (l0.length : Int)
            · rw [if_pos c7] at H
              have c7b0 : decide (x4_1 < (l0.length : Int)) = true := decide_eq_true c7
              clear c7
              have H' := Aside0.mk H
              clear H
              obtain ⟨Ao8, co8, eo8⟩ := Kd.R_slice HO_3.out
              subst eo8
              go_wp2_with (first | ((with_reducible refine gate_callee (f := 103) rfl ?_); refine goesL_ (some 7) rfl rfl Try.func103 (by kernel_rfl) rfl #[.slice Ao8 x3_1.length co8, .int .i64 x4_1] rfl (by (try simp only [List.map_toArray, List.map_cons, List.map_nil]); first | done | rfl | (simp only [List.length_drop, List.length_take]; rfl)) ?_; (with_reducible refine (slices_Contains_int_int.calls k1 _ _ x3_1 x4_1 false _ ?side1 ?side2 A2.out).mono ?_); (case side1 => repeat (first | exact (Kd.R_reads' HO_3.out).2.2 | (with_reducible refine Kd.C_alloc ?_ _) | (with_reducible refine Kd.C_drewN ?_ _) | (with_reducible refine Kd.C_drew ?_))); (case side2 => exact (Kd.R_reads' HO_3.out).2.1); rintro e w' ⟨rfl, ⟨nd, rfl⟩⟩; refine ⟨_, rfl, ?_⟩) | ((with_reducible refine gate_builtin (b := .append) (xs := #[.tmp 13, .tmp 15]) rfl ?_); at_builtin; refine Kd.R_append (Kd.int .i64) (w0 := w) w.heap.size rfl (.tmp 13) (.tmp 15) 22 3 (.int .i64 0) 8 rfl Try.underlying22 info3 rfl (by decide) (by omega) (.slice Ao8 x3_1.length co8) x3_1 x4_1 [.int .i64 x4_1] (fun _ => True) (fun _ => False) rfl rfl ?aP (fun _ hk => hk.elim) ?aF ?aO ?aB ?aS ?aL ?_; (case aP => exact rfl); (case aB => exact (by repeat (first | (with_reducible first | exact HB.out | apply below_alloc | apply pw_below_drewN | apply below_drew1) | exact HB.out))); (case aF => exact (fun _ _ => trivial)); (case aO => exact (by (with_reducible repeat (first | apply Kd.R_alloc | apply Kd.R_drewN | apply Kd.R_drew)); exact HO_3.out)); (case aS => exact (below_size (by repeat (first | (with_reducible first | exact HB.out | apply below_alloc | apply pw_below_drewN | apply below_drew1) | exact HB.out)))); (case aL => have := LMc5.out; omega); intro v137 w9 ho hb hg hat; rw [← Ny136.out] at ho; have n0_ := Aside0.mk (hb); have n1_ := Aside0.mk (ho); clear HB; clear HO_3; have HB := n0_; have HO138 := n1_; clear n0_ n1_; clear ho hb hg hat; have p139 : 0 ≤ (x4_1 : Int) := of_decide_eq_true (by first | (with_reducible assumption) | assumption); have q139 : x4_1 < (l0.length : Int) := of_decide_eq_true (by first | (with_reducible assumption) | assumption); obtain ⟨ad139, e139, hx139_0⟩ := Kd.at_int HR0.out x4_1 p139 q139; cases e139; replace hx139_0 := (HB.out.cell (World.block_lt_of_cell? w _ hx139_0)).trans hx139_0; replace p139 := eq_true p139; replace q139 := eq_true q139))
              go_roundg k1
              case measure => have := HK1.out; omega
              case rel => exact ⟨(y136), (rd l0 x4_1), (by first | rfl | (simp; done) | (simp [*]; done)), H', ⟨by have := HK1.out; omega⟩, ⟨by (with_reducible repeat (first | apply Kd.R_alloc | apply Kd.R_drewN | apply Kd.R_drew)); exact HO138.out⟩, ⟨by repeat (first | (with_reducible first | exact HB.out | apply below_alloc | apply pw_below_drewN | apply below_drew1) | exact HB.out)⟩⟩
            · rw [if_neg c7] at H
              exact absurd H (by simp)
          · rw [if_neg c6] at H
            exact absurd H (by simp)
        · rw [if_neg c5] at H
          exact absurd H (by simp)

/-! ### impl_isPattern: function 53 -/
set_option maxHeartbeats 8000000 in
set_option maxRecDepth 100000 in
theorem impl_isPattern_1.calls (g : Nat) (A1 : Option Addr) (n1 c1 : Nat) (a0 : Int) (w : World) (hn : n1 ≤ 9223372036854775807)
    (hg : w.heap[g]? = some (.cells #[.slice A1 n1 c1] 22 (0, 0))) :
    Calls Try.prog 85 #[.int .i64 a0, .pointer (some ⟨g, 0, none⟩)] w fun e w' => e = .returned (.bool (!(decide (0 ≤ a0) && decide (a0 ≤ (n1 : Int) - 1)))) ∧ Below w.heap.size w w' := by
  have hc : w.cell? ⟨g, 0, none⟩ = some (.slice A1 n1 c1) := (blk_cell hg 0).trans rfl
  clear hg
  have hw := within_eq a0 0 ((n1 : Int) - 1)
  generalize (decide (0 ≤ a0) && decide (a0 ≤ (n1 : Int) - 1)) = b at hw
  have HW := Aside0.mk hw
  clear hw
  go_enter Try.func85, Try.ntmps85
  go_wp2_with (first | ((with_reducible refine gate_callee (f := 57) rfl ?_); refine goesL_ (some 8) rfl rfl Try.func57 (by kernel_rfl) rfl #[.int .i64 a0, .int .i64 0, .int .i64 ((n1 : Int) - 1)] rfl (by (try simp only [List.map_toArray, List.map_cons, List.map_nil]); first | done | rfl | (simp only [List.length_drop, List.length_take]; rfl)) ?_; (with_reducible refine (impl_within.calls a0 0 ((n1 : Int) - 1) b _ HW.out).mono ?_); rintro e w' ⟨rfl, ⟨nd, rfl⟩⟩; refine ⟨_, rfl, ?_⟩))
  go_ret
  exact ⟨rfl, pw_below_drewN (Below.refl _ _) _⟩

def impl_isPattern.f (k : Nat) (l0 : List Int) : Option Bool :=
  if (decide (1 ≤ (l0.length : Int)) && decide ((l0.length : Int) ≤ 9)) = true then
    if (l0.any fun x => !(decide (0 ≤ x) && decide (x ≤ (l0.length : Int) - 1))) = true then some false
    else (impl_cycleOf.f k l0).bind fun y => if (y.length : Int) = (l0.length : Int) then
      (if 0 ≤ rd y ((y.length : Int) - 1) then (if rd y ((y.length : Int) - 1) < (l0.length : Int) then some (decide (rd l0 (rd y ((y.length : Int) - 1)) = 0)) else none) else none)
      else some false
  else some false
theorem impl_isPattern.mono : ∀ a0 k, LeO (impl_isPattern.f k a0) (impl_isPattern.f (k + 1) a0) := by
  intro a0 k
  unfold impl_isPattern.f
  refine LeO.ite (LeO.ite (LeO.refl _) (LeO.bind (impl_cycleOf.mono _ _) fun _ => LeO.refl _)) (LeO.refl _)
set_option maxHeartbeats 8000000 in
set_option maxRecDepth 100000 in
theorem impl_isPattern.calls (k : Nat) (A0 : Option Addr) (c0 : Nat) (l0 : List Int) (r : Bool) (w : World) (hr0 : Kd.C (Kd.int .i64) w A0 l0.length l0) (hc0 : l0.length ≤ c0) (h : impl_isPattern.f k l0 = some r) :
    Calls Try.prog 53 #[.slice A0 l0.length c0] w fun e w' => e = .returned (.bool r) ∧ Below w.heap.size w w' := by
  have HR0 := Aside0.mk hr0
  have hm : l0.length ≤ 9223372036854775807 := hr0.2.1
  clear hr0
  have HB := Aside0.mk (Below.refl w.heap.size w)
  have hw := within_eq (l0.length : Int) 1 9
  have H := Aside0.mk h
  clear h
  go_enter Try.func53, Try.ntmps53
  cases hb : (decide (1 ≤ (l0.length : Int)) && decide ((l0.length : Int) ≤ 9)) with
  | false =>
    rw [hb] at hw
    have HW := Aside0.mk hw
    have HE := Aside0.mk hb
    clear hw hb
    go_wp2_with fail
    refine (impl_within.calls _ _ _ _ _ HW.out).mono ?_
    rintro e w' ⟨rfl, ⟨nd, rfl⟩⟩
    clear HW
    go_wp2_with fail
    go_ret
    have h := H.out
    unfold impl_isPattern.f at h
    rw [if_neg (by rw [HE.out]; decide)] at h
    injection h with h
    subst h
    exact ⟨rfl, pw_below_drewN (below_alloc (Below.refl _ _) _) _⟩
  | true =>
    rw [hb] at hw
    have HW := Aside0.mk hw
    have HE := Aside0.mk hb
    clear hw hb
    have H2 := H.out
    clear H
    unfold impl_isPattern.f at H2
    rw [if_pos HE.out] at H2
    generalize hq : (l0.any fun x => !(decide (0 ≤ x) && decide (x ≤ (l0.length : Int) - 1))) = q at H2
    have HQ := Aside0.mk hq
    clear hq
    go_wp2_with fail
    refine (impl_within.calls _ _ _ _ _ HW.out).mono ?_
    rintro e w' ⟨rfl, ⟨nd, rfl⟩⟩
    clear HW
    have hCF := slices_ContainsFunc_int_int.with_ (fun x => !(decide (0 ≤ x) && decide (x ≤ (l0.length : Int) - 1))) 85 #[.pointer (some ⟨w.heap.size, 0, none⟩)] A0 c0 l0
      ((w.alloc (Obj.cells #[Value.slice A0 l0.length c0] 22)).drewN nd) (enters_ Try.func85 (by kernel_rfl) rfl) (Kd.C_drewN (Kd.C_alloc HR0.out _) _) hc0
      (fun W x _ hb => impl_isPattern_1.calls w.heap.size A0 l0.length c0 x W hm (blk_below (blk_drewN (blk_new w _) nd) hb))
    rw [HQ.out] at hCF
    have HCF := Aside0.mk hCF
    clear hCF HQ
    cases q with
    | true =>
      injection H2 with H2
      subst H2
      go_wp2_with fail
      refine HCF.out.mono ?_
      rintro e w' ⟨rfl, hb⟩
      have HB := Aside0.mk (below_step (pw_below_drewN (below_alloc (Below.refl _ _) _) _) hb)
      clear HCF hb
      go_wp2_with fail
      go_ret
      exact ⟨rfl, HB.out⟩
    | false =>
      rw [if_neg (by decide)] at H2
      replace H2 := Option.bind_eq_some_iff.mp H2
      obtain ⟨y, hy, H2⟩ := H2
      have HY := Aside0.mk hy
      clear hy
      go_wp2_with fail
      refine HCF.out.mono ?_
      rintro e w' ⟨rfl, hb⟩
      have hcell : w'.cell? ⟨w.heap.size, 0, none⟩ = some (.slice A0 l0.length c0) := (blk_cell (blk_below (blk_drewN (blk_new w _) nd) hb) 0).trans rfl
      have HCY := Aside0.mk (impl_cycleOf.calls k A0 c0 l0 y w' (Kd.C_below (Kd.C_drewN (Kd.C_alloc HR0.out _) _) hb) hc0 HY.out)
      have HB := Aside0.mk (below_step (pw_below_drewN (below_alloc (Below.refl _ _) _) _) hb)
      have hbx := hb
      clear HCF hb
      go_wp2_with fail
      refine HCY.out.mono ?_
      rintro e w2 ⟨v, rfl, hR, hb⟩
      have hcell2 := pw_cell_below hb hcell
      have HRd := Aside0.mk (Kd.C_below (Kd.C_below (Kd.C_drewN (Kd.C_alloc HR0.out _) nd) hbx) hb)
      obtain ⟨A1, c1, rfl⟩ := Kd.R_slice hR
      have HR1 := Aside0.mk (Kd.R_reads' hR).2.2
      have hy9 := HR1.out.2.1
      have HB2 := Aside0.mk (below_step HB.out hb)
      clear HCY hb hR hcell HB hbx
      have h19 : (decide (1 ≤ (l0.length : Int)) && decide ((l0.length : Int) ≤ 9)) = true := HE.out
      rw [Bool.and_eq_true, decide_eq_true_iff, decide_eq_true_iff] at h19
      obtain ⟨h1, h9⟩ := h19
      by_cases hlen : y.length = l0.length
      · rw [if_pos (by omega)] at H2
        by_cases i0 : 0 ≤ rd y ((y.length : Int) - 1)
        · rw [if_pos i0] at H2
          by_cases i1 : rd y ((y.length : Int) - 1) < (l0.length : Int)
          · rw [if_pos i1] at H2
            injection H2 with H2
            have i2 : (0 : Int) ≤ (y.length : Int) - 1 := by omega
            have i3 : (y.length : Int) - 1 < (y.length : Int) := by omega
            obtain ⟨i, hi⟩ : ∃ i, i = (y.length : Int) - 1 := ⟨_, rfl⟩
            have hwr : IntKind.i64.wrap ((y.length : Int) - 1) = i := (Go.IntWalk.i64_in _ (by omega)).trans hi.symm
            rw [← hi] at i0 i1 i2 i3 H2
            clear hi
            obtain ⟨ad1, e1, hx1⟩ := Kd.at_int HR1.out i i2 i3
            obtain ⟨ad0, e0, hx0⟩ := Kd.at_int HRd.out (rd y i) i0 i1
            cases e1
            cases e0
            have d1 : ((y.length : Int) == (l0.length : Int)) = true := by simp; omega
            have d2 : decide ((y.length : Int) = (l0.length : Int)) = true := by simp; omega
            clear hlen
            generalize rd y i = v at *
            generalize rd l0 v = z at *
            subst H2
            go_wp2_with fail
            go_quiet (fail)
            go_wp2_with fail
            go_ret
            exact ⟨rfl, pw_below_drewN HB2.out _⟩
          · rw [if_neg i1] at H2
            cases H2
        · rw [if_neg i0] at H2
          cases H2
      · rw [if_neg (by omega)] at H2
        injection H2 with H2
        subst H2
        have hd : decide ((y.length : Int) = (l0.length : Int)) = false := by simp; omega
        have hd2 : ((y.length : Int) == (l0.length : Int)) = false := by simp; omega
        clear hlen
        go_wp2_with fail
        go_quiet (fail)
        go_wp2_with fail
        go_ret
        exact ⟨rfl, pw_below_drewN HB2.out _⟩

end Go.Proofs.Ytgdglnpgfngdoaa.Q

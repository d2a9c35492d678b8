-- Laid by wip/tools/lay.py (a program of this session) over the kit's print.py and hand-proved contracts.
import Derived.Test.YtgdglnpgfngdoaaQx0
import Derived.Test.YtgdglnpgfngdoaaQx4
import Derived.Test.YtgdglnpgfngdoaaQx5
import Derived.Test.YtgdglnpgfngdoaaQx21
namespace Go.Proofs.Ytgdglnpgfngdoaa.Q
open Go.RowKit Go.Proofs.YtgdglnpgfngdoaaW.PrintWords Go.Proofs.YtgdglnpgfngdoaaW.PrintLast Go.Proofs.YtgdglnpgfngdoaaW.PrintMore
attribute [local go_sem] max2_int min2_int max_two min_two max_three min_three max_four min_four   -- for this text's walks alone
set_option linter.unusedVariables false
set_option linter.unusedSimpArgs false

/-! ### slices_DeleteFunc_int_int: function 63 -/
set_option maxHeartbeats 8000000 in
set_option maxRecDepth 100000 in
theorem slices_DeleteFunc_int_int.with_ (p : Int → Bool) (f : Nat) (lb : Array Value) (P : Nat → Prop) (u : Value) (l0 : List Int) (w0 w : World)
    (eg : ∀ args w, (callFunc f args).run Try.prog w = .ok (.enter f args) w) (hB : Below w0.heap.size w0 w) (ho : Kd.R (Kd.int .i64) 3 w w0.heap.size P u l0)
    (hp : ∀ W x, x ∈ l0 → Below w0.heap.size w0 W → Calls Try.prog f (#[.int .i64 x] ++ lb) W fun e w' => e = .returned (.bool (p x)) ∧ Below W.heap.size W w') :
    Calls Try.prog 63 #[u, .func (.func f) #[] lb] w fun e w' => ∃ v, e = .returned v ∧ Kd.R (Kd.int .i64) 3 w' w0.heap.size P v (l0.filter fun x => !p x) ∧ Below w0.heap.size w0 w' := by
  obtain ⟨A0, c0, rfl⟩ := Kd.R_slice ho
  have hr := Kd.R_reads' ho
  have HI := Aside0.mk (slices_IndexFunc_int_int.with_ p f lb A0 c0 l0 w eg hr.2.2 hr.2.1 (fun W x hx hb => hp W x hx (below_then hB hB.size hb)))
  have hm : l0.length ≤ 9223372036854775807 := hr.2.2.2.1
  have HP := Aside0.mk hp
  have HO := Aside0.mk ho
  have HB := Aside0.mk hB
  clear hp ho hB hr
  by_cases hn : idxOf p l0 = -1
  · have HN := Aside0.mk hn
    rw [hn] at HI
    clear hn
    go_enter Try.func63, Try.ntmps63
    go_wp2_with fail
    refine HI.out.mono ?_
    rintro e w' ⟨rfl, hb⟩
    clear HI
    go_wp2_with fail
    go_ret
    refine ⟨_, rfl, ?_, below_then HB.out HB.out.size hb⟩
    rw [show (l0.filter fun x => !p x) = l0 from List.filter_eq_self.2 (fun x hx => by rw [idxOf_neg p l0 HN.out x hx]; rfl)]
    exact Kd.R_below HO.out hb
  · obtain ⟨i0, hi, hil, hip, hij⟩ := idxOf_pos p l0 0 hn
    rw [hi] at HI
    have hne : ((i0 : Int) == -1) = false := by simp
    obtain ⟨g, cap, hu, hbg, hgl, _⟩ := Kd.R_form HO.out (by omega)
    injection hu with hu1 hu2 hu3
    subst hu1
    subst hu3
    have hcap := (Kd.R_reads' HO.out).2.1
    have HT : Aside0 (l0.take i0 = (l0.take (i0 + 1)).filter fun x => !p x) := ⟨by
      rw [take_snoc_getD l0 i0 0 hil, List.filter_append, filter_none (fun x => !p x) l0 0 i0 (by omega) (fun j hj => by rw [hij j hj]; rfl)]
      rw [show [l0.getD i0 0].filter (fun x => !p x) = [] by rw [List.filter_cons, hip]; rfl, List.append_nil]⟩
    clear hi hn hip hij hu2
    go_enter Try.func63, Try.ntmps63
    go_wp2_with fail
    refine HI.out.mono ?_
    rintro e w' ⟨rfl, hb⟩
    have HO1 := Aside0.mk (Kd.R_below HO.out hb)
    have HB1 := Aside0.mk (below_then HB.out HB.out.size hb)
    clear HI hb HO HB
    go_wp2_with fail
    go_loopg [5, 6] l0.length (fun gg v5 v6 wr => ∃ (i j : Nat) (cur : List Int), v5 = .int .i64 (i : Int) ∧ v6 = .int .i64 (j : Int) ∧ i < j ∧ j ≤ l0.length ∧ l0.length - j ≤ gg ∧ Aside0 (cur.length = l0.length) ∧ Aside0 (cur.take i = (l0.take j).filter fun x => !p x) ∧ Aside0 (∀ t, j ≤ t → cur.getD t 0 = l0.getD t 0) ∧ Aside0 (Kd.R (Kd.int .i64) 3 wr w0.heap.size P (.slice (some ⟨g, 0, none⟩) l0.length c0) cur) ∧ Aside0 (Below w0.heap.size w0 wr))
    case atStart => exact ⟨i0, i0 + 1, l0, rfl, by go_num, by omega, by omega, by omega, ⟨rfl⟩, HT, ⟨fun t _ => rfl⟩, HO1, HB1⟩
    case round =>
      clear HO1 HB1 HT hne
      obtain ⟨i, j, cur, rfl, rfl, hij, hjn, hg, HL, HT, HE, HO, HB⟩ := hrel
      by_cases hlt : j < l0.length
      · have hltz : (j : Int) < (l0.length : Int) := by omega
        obtain ⟨hx, hf⟩ := Kd.R_celln 0 HO.out (j : Int) (by omega) hltz
        obtain ⟨hxi, hfi⟩ := Kd.R_celln 0 HO.out (i : Int) (by omega) (by omega)
        have HV := Aside0.mk (show rdOf (0 : Int) cur (j : Int) = l0.getD j 0 by rw [← HE.out j (Nat.le_refl _)]; simp [rdOf])
        generalize rdOf (0 : Int) cur (j : Int) = y at hx HV
        have HC := Aside0.mk (HP.out wr y (by rw [HV.out]; exact getD_mem l0 j 0 hlt) HB.out)
        rw [Int.toNat_natCast] at hx hf hxi hfi
        have HBy := HB.out
        cases hq : p y with
        | true =>
          rw [hq] at HC
          have HQ := Aside0.mk hq
          clear hq
          go_wp2_with fail
          refine HC.out.mono ?_
          rintro e w2 ⟨rfl, hb⟩
          have HO2 := Aside0.mk (Kd.R_below HO.out hb)
          have HB2 := Aside0.mk (below_then HB.out HB.out.size hb)
          clear HC hb hx hf hxi hfi HBy HO HB
          go_wp2_with fail
          go_roundg (l0.length - (j + 1))
          case measure => omega
          case rel =>
            refine ⟨i, j + 1, cur, by go_num, by go_num, by omega, by omega, by omega, HL, ⟨?_⟩, ⟨fun t ht => HE.out t (by omega)⟩, HO2, HB2⟩
            rw [HT.out, take_snoc_getD l0 j 0 hlt, List.filter_append, ← HV.out]
            rw [show [y].filter (fun x => !p x) = [] by rw [List.filter_cons, HQ.out]; rfl, List.append_nil]
        | false =>
          rw [hq] at HC
          have HQ := Aside0.mk hq
          clear hq
          go_wp2_with fail
          refine HC.out.mono ?_
          rintro e w2 ⟨rfl, hb⟩
          have HO2 := Aside0.mk (Kd.R_below HO.out hb)
          have HB2 := Aside0.mk (below_then HB.out HB.out.size hb)
          clear HC hb hx hf hxi hfi HBy HO HB
          obtain ⟨hx, hf⟩ := Kd.R_celln 0 HO2.out (i : Int) (by omega) (by omega)
          have HP3 := Aside0.mk (Kd.R_putg HO2.out (i : Int) y).1
          rw [Int.toNat_natCast] at hx hf HP3
          have hj1 : (i : Int) < (l0.length : Int) := by omega
          go_wp2_with fail
          go_roundg (l0.length - (j + 1))
          case measure => omega
          case rel =>
            refine ⟨i + 1, j + 1, cur.set i y, by go_num, by go_num, by omega, by omega, by omega, ⟨by rw [List.length_set]; exact HL.out⟩, ⟨?_⟩, ⟨fun t ht => ?_⟩, HP3, ⟨HB2.out.setCell hbg _⟩⟩
            · have hil2 : i < (cur.set i y).length := by rw [List.length_set, HL.out]; omega
              rw [take_snoc_getD (cur.set i y) i 0 hil2, List.take_set_of_le (Nat.le_refl _), HT.out, take_snoc_getD l0 j 0 hlt, List.filter_append, ← HV.out]
              rw [show [y].filter (fun x => !p x) = [y] by rw [List.filter_cons, HQ.out]; rfl]
              rw [List.getD_eq_getElem?_getD, List.getElem?_set_self (by rw [HL.out]; omega)]
              rfl
            · rw [List.getD_eq_getElem?_getD, List.getElem?_set_ne (by omega), ← List.getD_eq_getElem?_getD]
              exact HE.out t (by omega)
      · have hltz : ¬ (j : Int) < (l0.length : Int) := by omega
        have hi0 : (0 : Int) ≤ (i : Int) := by omega
        have hi1 : (i : Int) ≤ (l0.length : Int) := by omega
        have hi2 : (i : Int) ≤ (c0 : Int) := by omega
        have hi3 : c0 ≠ i := by omega
        have hcl : ∀ ty, (Builtin.clear_ #[22] ty #[.slice (some ⟨g, i, none⟩) (l0.length - i) (c0 - i)]).run Try.prog wr = .ok (.tuple #[]) (wr.setCells g i (List.replicate (l0.length - i) (.int .i64 0))) := fun ty =>
          Lib.run_clear_slice wr 22 3 ty (.int .i64 0) Try.underlying22 (fun w => by kernel_rfl) rfl rfl g i (l0.length - i) (c0 - i) (by omega)
            (fun t ht => by have := (Kd.R_celln 0 HO.out ((i + t : Nat) : Int) (by omega) (by omega)).1; rw [Int.toNat_natCast] at this; rw [this]; rfl)
            (fun t ht => by have := (Kd.R_celln 0 HO.out ((i + t : Nat) : Int) (by omega) (by omega)).2; rw [Int.toNat_natCast] at this; exact this)
        obtain ⟨ys, hyl, hyt, hyr⟩ := clear_row (l0.length - i) i wr cur HO.out
        have HY := Aside0.mk (show (cur.take i = (l0.take j).filter fun x => !p x) ∧ ys.length = cur.length ∧ ys.take i = cur.take i from ⟨HT.out, hyl, hyt⟩)
        have HR := Aside0.mk hyr
        have hbs := below_cells g hbg (List.replicate (l0.length - i) (.int .i64 0)) i HB.out
        generalize hW : wr.setCells g i (List.replicate (l0.length - i) (.int .i64 0)) = W2 at hcl hyr HR hbs
        have HB2 := Aside0.mk hbs
        clear hW hbs hyr hyl hyt HT HO HB
        go_wp2_with fail
        go_ret
        refine ⟨.slice (some ⟨g, 0, none⟩) i c0, rfl, ?_, HB2.out⟩
        have hfin := Kd.R_take HR.out (m := i) (by have := HY.out.2.1; have := HL.out; omega)
        rw [HY.out.2.2, HY.out.1, show l0.take j = l0 from List.take_of_length_le (by omega)] at hfin
        exact hfin

/-! ### impl_numbersTo: function 64 -/
def impl_numbersTo.l0 : Nat → List Int → Int → Int → Option (List Int)
  | 0, _, _, _ => none
  | k + 1, x3, x8, x9 => if x9 < x8 then (if 0 ≤ x9 then (if x9 < (x3.length : Int) then (impl_numbersTo.l0 k (x3.set (x9 : Int).toNat x9) x8 (wrap64 (x9 + 1))) else (none)) else (none)) else (some x3)
def impl_numbersTo.f (k : Nat) (a0 : Int) : Option (List Int) := if 0 ≤ a0 then (if (a0 : Int).toNat ≤ 35184372088832 then ((some (List.replicate (a0 : Int).toNat 0 : List Int)).bind fun y460 => (impl_numbersTo.l0 k y460 (y460.length : Int) 0)) else (none)) else (none)
theorem impl_numbersTo.mono_l : ∀ k, (∀ y0 y1 y2, LeO (impl_numbersTo.l0 k y0 y1 y2) (impl_numbersTo.l0 (k + 1) y0 y1 y2))
  | 0 => fun _ _ _ r h => by simp [impl_numbersTo.l0] at h
  | k + 1 => by
    have ih0 := impl_numbersTo.mono_l k
    · intro y0 y1 y2
      unfold impl_numbersTo.l0
      repeat' first
      | (with_reducible exact ih0 _ _ _)
      | (with_reducible exact LeO.refl _)
      | (with_reducible exact LeO.none _)
      | (with_reducible refine LeO.ite ?_ ?_)
      | (with_reducible refine LeO.bind ?_ (fun _ => ?_))
      | exact ih0 _ _ _
      | exact LeO.none _
      | refine LeO.ite ?_ ?_
      | refine LeO.bind ?_ (fun _ => ?_)
theorem impl_numbersTo.mono : ∀ a0 k, LeO (impl_numbersTo.f k a0) (impl_numbersTo.f (k + 1) a0) := by
  intro a0 k
  have ih0 := impl_numbersTo.mono_l k
  unfold impl_numbersTo.f
  repeat' first
      | (with_reducible exact ih0 _ _ _)
      | (with_reducible exact LeO.refl _)
      | (with_reducible exact LeO.none _)
      | (with_reducible refine LeO.ite ?_ ?_)
      | (with_reducible refine LeO.bind ?_ (fun _ => ?_))
      | exact ih0 _ _ _
      | exact LeO.none _
      | refine LeO.ite ?_ ?_
      | refine LeO.bind ?_ (fun _ => ?_)
set_option maxHeartbeats 8000000 in
set_option maxRecDepth 100000 in
theorem impl_numbersTo.calls (k : Nat) (a0 : Int) (r : List Int) (w : World) (h : impl_numbersTo.f k a0 = some r) :
    Calls Try.prog 64 #[.int .i64 a0] w fun e w' => ∃ v0_ : Value, e = .returned (v0_) ∧ Kd.R (Kd.int .i64) 3 w' w.heap.size (fun _ => True) v0_ r ∧ Below w.heap.size w w' := by
  have HB := Aside0.mk (Below.refl w.heap.size w)
  have H : (if 0 ≤ a0 then (if (a0 : Int).toNat ≤ 35184372088832 then ((some (List.replicate (a0 : Int).toNat 0 : List Int)).bind fun y460 => (impl_numbersTo.l0 k y460 (y460.length : Int) 0)) else (none)) else (none)) = some r := h
  clear h
  by_cases c2 : 0 ≤ a0
  · rw [if_pos c2] at H
    have c2b0 := eq_true c2
    have c2b1 : decide (0 ≤ a0) = true := decide_eq_true c2
    clear c2
    by_cases c3 : (a0 : Int).toNat ≤ 35184372088832
    · rw [if_pos c3] at H
      have c3b0 := eq_true c3
      have c3b1 : decide ((a0 : Int).toNat ≤ 35184372088832) = true := decide_eq_true c3
      clear c3
      obtain ⟨y460, hy460⟩ : ∃ y_ : List Int, y_ = (List.replicate (a0 : Int).toNat 0) := ⟨_, rfl⟩
      replace H : (impl_numbersTo.l0 k y460 (y460.length : Int) 0) = some r := by first | (rw [hy460]; with_reducible exact H) | (have H2_ := (Option.bind_some _ _).symm.trans H; rw [hy460]; with_reducible exact H2_) | (have H2_ := (Option.bind_some _ _).symm.trans H; with_reducible exact H2_) | with_reducible exact H | (rw [hy460]; exact H) | exact H
      have Ny460 := Aside0.mk hy460
      clear hy460
      have H' := Aside0.mk H
      clear H
      go_enter Try.func64, Try.ntmps64
      go_wp2_with (first | ((with_reducible refine gate_dst (N := 6) rfl ?_); refine Kd.R_make (Kd.int .i64) _ 3 rfl (N := 6) rfl 22 _ _ rfl a0 rfl rfl Try.underlying22 (.int .i64 0) 8 info3 rfl (by decide) (by omega) 0 (ok := fun _ => True) (okp := fun _ => True) rfl (fun _ hk => hk) trivial (of_decide_eq_true (by first | (with_reducible assumption) | assumption)) (Nat.le_trans (Nat.mul_le_mul_right _ (of_decide_eq_true (by first | (with_reducible assumption) | assumption) : a0.toNat ≤ 35184372088832)) (by omega)) (Below.refl _ _) (Nat.le_refl _) ?_; intro v461 w4 ho5 hb hg_ hnew_; clear hg_ hnew_; (first | rw [← Ny460.out] at ho5 | (simp only [Int.reduceToNat] at ho5; rw [← Ny460.out] at ho5)); have n0_ := Aside0.mk (Kd.R_lower ho5 (below_size (by repeat (first | (with_reducible first | exact HB.out | apply below_alloc | apply pw_below_drewN | apply below_drew1) | exact HB.out)))); have n1_ := Aside0.mk (below_step (by repeat (first | (with_reducible first | exact HB.out | apply below_alloc | apply pw_below_drewN | apply below_drew1) | exact HB.out)) hb); clear HB; have HO462 := n0_; have HB := n1_; clear n0_ n1_; clear hb ho5; obtain ⟨Ao6, co6, eo6⟩ := Kd.R_slice HO462.out; subst eo6))
      go_loopg [9] k (fun kq v9 w' => ∃ (x3_1 : List Int) (x9_1 : Int), v9 = .int .i64 x9_1 ∧ Aside0 (impl_numbersTo.l0 kq x3_1 (y460.length : Int) x9_1 = some r) ∧ Aside0 (kq ≤ k) ∧ Aside0 (Kd.R (Kd.int .i64) 3 w' w.heap.size (fun _ => True) (.slice Ao6 y460.length co6) x3_1) ∧ Aside0 (Below w.heap.size w w'))
      case atStart => exact ⟨(y460), (0), (by first | rfl | (simp; done) | (simp [*]; done)), H', ⟨Nat.le_refl _⟩, ⟨by (with_reducible repeat (first | apply Kd.R_alloc | apply Kd.R_drewN | apply Kd.R_drew)); exact HO462.out⟩, ⟨by repeat (first | (with_reducible first | exact HB.out | apply below_alloc | apply pw_below_drewN | apply below_drew1) | exact HB.out)⟩⟩
      case round =>
        clear H'
        try clear c2
        try clear c2b0
        try clear c2b1
        try clear p2
        try clear c3
        try clear c3b0
        try clear c3b1
        try clear c6
        obtain ⟨x3_1, x9_1, rfl, HA, HK1, HO_3, HB⟩ := hrel
        have hl3_1 := (Kd.R_reads' HO_3.out).1
        rw [hl3_1] at HO_3
        (try simp only [hl3_1])
        cases gk with
        | zero => exact absurd HA.out (by simp [impl_numbersTo.l0])
        | succ k1 =>
          have H := HA.out
          clear HA
          simp only [impl_numbersTo.l0] at H
          by_cases c7 : x9_1 < (y460.length : Int)
          · rw [if_pos c7] at H
            have c7b0 : decide (x9_1 < (y460.length : Int)) = true := decide_eq_true c7
            (try (have c7b0z := c7b0; simp only [hl3_1] at c7b0z))
            clear c7
            by_cases c8 : 0 ≤ x9_1
            · rw [if_pos c8] at H
              have c8b0 : decide (0 ≤ x9_1) = true := decide_eq_true c8
              clear c8
              by_cases c9 : x9_1 < (x3_1.length : Int)
              · rw [if_pos c9] at H
                have c9b0 : decide (x9_1 < (x3_1.length : Int)) = true := decide_eq_true c9
                (try (have c9b0z := c9b0; simp only [hl3_1] at c9b0z))
                clear c9
                obtain ⟨y463, hy463⟩ : ∃ y_ : List Int, y_ = (x3_1.set (x9_1 : Int).toNat x9_1) := ⟨_, rfl⟩
                replace H : (impl_numbersTo.l0 k1 y463 (y460.length : Int) (wrap64 (x9_1 + 1))) = some r := by first | (rw [hy463]; with_reducible exact H) | (have H2_ := (Option.bind_some _ _).symm.trans H; rw [hy463]; with_reducible exact H2_) | (have H2_ := (Option.bind_some _ _).symm.trans H; with_reducible exact H2_) | with_reducible exact H | (rw [hy463]; exact H) | exact H
                have Ny463 := Aside0.mk hy463
                clear hy463
                have H' := Aside0.mk H
                clear H
                have p10 : 0 ≤ (x9_1 : Int) := of_decide_eq_true (by first | (with_reducible assumption) | assumption)
                have q10 : (x9_1 : Int) < ((x3_1.length : Int) : Int) := of_decide_eq_true (by first | (with_reducible assumption) | assumption)
                obtain ⟨go10, co10, eo10, gb10, gl10, cl10, HG10⟩ := Kd.R_form HO_3.out (by omega)
                (first | cases eo10 | (injection eo10 with ea_ en_ ec_; (first | subst ea_ | (injection ea_ with ea_; subst ea_)); subst ec_; clear en_))
                have GB10 := Aside0.mk gb10
                have GG10 := Aside0.mk HG10
                clear gb10 gl10 HG10
                obtain ⟨hx10_0, hf10_0⟩ := Kd.R_celln 0 HO_3.out (x9_1 : Int) p10 q10
                replace p10 := eq_true p10
                replace q10 := eq_true q10
                have HP11 := Kd.R_putg HO_3.out (x9_1 : Int) x9_1
                go_wp2_with (first | ((with_reducible refine gate_store (t := 3) (p := 15) rfl ?_); refine store_event (t := 3) (p := 15) (v := ?vo_w12) (w1 := (wr.setCell ⟨go10, (x9_1 : Int).toNat, none⟩ (.int .i64 x9_1))) ?hg ?ho ?hn ?hr ?_; (case ho => rfl); (case hg => rfl); (case hn => rfl); (case hr => first | (go_simp; done) | (go_simp; rfl)); intro w12 hw; have hg : wr.grownBy w12 (some go10) := (by rw [hw]; exact HP11.2); have hp_ : Kd.R (Kd.int .i64) 3 w12 w.heap.size (fun _ => True) (.slice (some ⟨go10, 0, none⟩) x3_1.length co6) y463 := (by rw [hw, Ny463.out]; exact HP11.1); clear HP11; have n0_ := Aside0.mk (hp_); have n1_ := Aside0.mk ((by rw [hw]; exact below_set (HB.out) GB10.out : Below w.heap.size w w12)); clear HO_3; clear HB; have HO_3 := n0_; have HB := n1_; clear n0_ n1_; clear hg hw hp_))
                (try simp only [← hl3_1])
                go_roundg k1
                case measure => have := HK1.out; omega
                case rel => exact ⟨(y463), (wrap64 (x9_1 + 1)), (by first | rfl | (simp; done) | (simp [*]; done)), H', ⟨by have := HK1.out; omega⟩, ⟨by (try simp only [hl3_1]); (with_reducible repeat (first | apply Kd.R_alloc | apply Kd.R_drewN | apply Kd.R_drew)); exact HO_3.out⟩, ⟨by repeat (first | (with_reducible first | exact HB.out | apply below_alloc | apply pw_below_drewN | apply below_drew1) | exact HB.out)⟩⟩
              · rw [if_neg c9] at H
                exact absurd H (by simp)
            · rw [if_neg c8] at H
              exact absurd H (by simp)
          · rw [if_neg c7] at H
            have c7b0 : decide (x9_1 < (y460.length : Int)) = false := decide_eq_false c7
            (try (have c7b0z := c7b0; simp only [hl3_1] at c7b0z))
            clear c7
            obtain rfl := Option.some.inj H
            go_wp2
            go_ret
            exact ⟨_, by first | rfl | (simp [errW_none, errW_some] <;> rfl) | (simp [*, errW_none, errW_some] <;> rfl), by (with_reducible repeat (first | apply Kd.R_alloc | apply Kd.R_drewN | apply Kd.R_drew)); exact HO_3.out, by repeat (first | (with_reducible first | exact HB.out | apply below_alloc | apply pw_below_drewN | apply below_drew1) | exact HB.out)⟩
    · rw [if_neg c3] at H
      exact absurd H (by simp)
  · rw [if_neg c2] at H
    exact absurd H (by simp)

/-! ### impl_BlockSizes: function 32 -/
set_option maxHeartbeats 8000000 in
set_option maxRecDepth 100000 in
theorem impl_BlockSizes_1.calls (k : Nat) (g : Nat) (A1 : Option Addr) (c1 : Nat) (l1 : List Int) (a0 : Int) (b : Bool) (w : World) (hr : Kd.C (Kd.int .i64) w A1 l1.length l1) (hc1 : l1.length ≤ c1)
    (hg : w.heap[g]? = some (.cells #[.slice A1 l1.length c1] 22 (0, 0))) (h : impl_hasBlocks.f k l1 a0 = some b) :
    Calls Try.prog 65 #[.int .i64 a0, .pointer (some ⟨g, 0, none⟩)] w fun e w' => e = .returned (.bool (!b)) ∧ Below w.heap.size w w' := by
  have hc : w.cell? ⟨g, 0, none⟩ = some (.slice A1 l1.length c1) := (blk_cell hg 0).trans rfl
  have HC := Aside0.mk (impl_hasBlocks.calls k A1 c1 l1 a0 b w hr hc1 h)
  clear hg hr h
  go_enter Try.func65, Try.ntmps65
  go_wp2_with fail
  refine HC.out.mono ?_
  rintro e w' ⟨rfl, hb⟩
  clear HC
  go_wp2_with fail
  go_ret
  exact ⟨rfl, by first | exact hb | exact Drawn0.below hb⟩
/-- Those of a list for which a pattern has blocks. -/
def impl_BlockSizes.sel (k : Nat) (l : List Int) : List Int → Option (List Int)
  | [] => some []
  | x :: t => (impl_hasBlocks.f k l x).bind fun b => (impl_BlockSizes.sel k l t).bind fun r => some (if b = true then x :: r else r)
theorem impl_BlockSizes.sel_mono (l : List Int) (y : List Int) (k : Nat) : LeO (impl_BlockSizes.sel k l y) (impl_BlockSizes.sel (k + 1) l y) := by
  induction y with
  | nil => exact LeO.refl _
  | cons x t ih => exact LeO.bind (impl_hasBlocks.mono _ _ _) fun _ => LeO.bind ih fun _ => LeO.refl _
theorem impl_BlockSizes.sel_all (k : Nat) (l : List Int) : ∀ (y r : List Int), impl_BlockSizes.sel k l y = some r → (∀ x ∈ y, ∃ b, impl_hasBlocks.f k l x = some b) ∧ r = y.filter fun x => decide (impl_hasBlocks.f k l x = some true) := by
  intro y
  induction y with
  | nil => intro r h; injection h with h; subst h; exact ⟨by simp, rfl⟩
  | cons x t ih =>
    intro r h
    unfold impl_BlockSizes.sel at h
    obtain ⟨b, hb, h⟩ := Option.bind_eq_some_iff.mp h
    obtain ⟨r', hr, h⟩ := Option.bind_eq_some_iff.mp h
    injection h with h
    obtain ⟨h1, h2⟩ := ih r' hr
    refine ⟨fun z hz => ?_, ?_⟩
    · rcases List.mem_cons.1 hz with rfl | hz
      · exact ⟨b, hb⟩
      · exact h1 z hz
    · rw [List.filter_cons, hb, ← h2, ← h]
      cases b <;> rfl
def impl_BlockSizes.f (k : Nat) (l0 : List Int) : Option (List Int × Bool) :=
  (impl_isPattern.f k l0).bind fun t => if t = true then ((impl_numbersTo.f k (l0.length : Int)).bind fun y => (impl_BlockSizes.sel k l0 y).bind fun r => some (r, true)) else some (([] : List Int), false)
theorem impl_BlockSizes.mono : ∀ a0 k, LeO (impl_BlockSizes.f k a0) (impl_BlockSizes.f (k + 1) a0) := by
  intro a0 k
  unfold impl_BlockSizes.f
  exact LeO.bind (impl_isPattern.mono _ _) fun _ => LeO.ite (LeO.bind (impl_numbersTo.mono _ _) fun _ => LeO.bind (impl_BlockSizes.sel_mono _ _ _) fun _ => LeO.refl _) (LeO.refl _)
set_option maxHeartbeats 8000000 in
set_option maxRecDepth 100000 in
theorem impl_BlockSizes.calls (k : Nat) (A0 : Option Addr) (c0 : Nat) (l0 : List Int) (r1 : List Int) (r2 : Bool) (w : World) (hr0 : Kd.C (Kd.int .i64) w A0 l0.length l0) (hc0 : l0.length ≤ c0) (h : impl_BlockSizes.f k l0 = some (r1, r2)) :
    Calls Try.prog 32 #[.slice A0 l0.length c0] w fun e w' => ∃ v0_ : Value, e = .returned (.tuple #[v0_, .bool r2]) ∧ Kd.R (Kd.int .i64) 3 w' w.heap.size (fun _ => True) v0_ r1 ∧ Below w.heap.size w w' := by
  have HR0 := Aside0.mk hr0
  have hm : l0.length ≤ 9223372036854775807 := hr0.2.1
  clear hr0
  unfold impl_BlockSizes.f at h
  obtain ⟨t, ht, h⟩ := Option.bind_eq_some_iff.mp h
  have HT := Aside0.mk ht
  clear ht
  cases t with
  | false =>
    rw [if_neg (by decide)] at h
    injection h with h
    injection h with h1 h2
    subst h1
    subst h2
    go_enter Try.func32, Try.ntmps32
    go_wp2_with fail
    refine (impl_isPattern.calls k A0 c0 l0 false _ (Kd.C_alloc HR0.out _) hc0 HT.out).mono ?_
    rintro e w2 ⟨rfl, hb⟩
    have HB := Aside0.mk (below_step (below_alloc (Below.refl _ w) _) hb)
    clear hb HT
    go_wp2_with fail
    go_ret2
    exact ⟨_, rfl, Kd.R_nil _ _ _ _ _, HB.out⟩
  | true =>
    rw [if_pos rfl] at h
    obtain ⟨y, hy, h⟩ := Option.bind_eq_some_iff.mp h
    obtain ⟨r, hr, h⟩ := Option.bind_eq_some_iff.mp h
    injection h with h
    injection h with h1 h2
    subst h1
    subst h2
    have HY := Aside0.mk hy
    have HS := Aside0.mk (impl_BlockSizes.sel_all k l0 y r hr)
    clear hy hr
    go_enter Try.func32, Try.ntmps32
    go_wp2_with fail
    refine (impl_isPattern.calls k A0 c0 l0 true _ (Kd.C_alloc HR0.out _) hc0 HT.out).mono ?_
    rintro e w2 ⟨rfl, hb⟩
    have HB := Aside0.mk (below_step (below_alloc (Below.refl _ w) _) hb)
    have HK := Aside0.mk (blk_below (blk_new w _) hb)
    have hcell := (blk_cell HK.out 0).trans rfl
    have HR2 := Aside0.mk (Kd.C_below (Kd.C_alloc HR0.out _) hb)
    clear hb HT
    go_wp2_with fail
    refine (impl_numbersTo.calls k _ y w2 HY.out).mono ?_
    rintro e w3 ⟨v, rfl, hv, hb⟩
    have HV := Aside0.mk hv
    have HB3 := Aside0.mk hb
    clear hv hb hcell HY
    have HD := Aside0.mk (slices_DeleteFunc_int_int.with_ (fun x => !decide (impl_hasBlocks.f k l0 x = some true)) 65 #[.pointer (some ⟨w.heap.size, 0, none⟩)] (fun _ => True) v y w2 w3
      (enters_ Try.func65 (by kernel_rfl) rfl) HB3.out HV.out (fun W x hx hb => by
        obtain ⟨b, hb1⟩ := HS.out.1 x hx
        have := impl_BlockSizes_1.calls k w.heap.size A0 c0 l0 x b W (Kd.C_below HR2.out hb) hc0 (blk_below HK.out hb) hb1
        rw [hb1, show (decide (some b = some true)) = b by cases b <;> rfl]
        exact this))
    go_wp2_with fail
    refine HD.out.mono ?_
    rintro e w4 ⟨v4, rfl, hv4, hb⟩
    have HV4 := Aside0.mk hv4
    have HB4 := Aside0.mk (below_step HB.out hb)
    clear HD hv4 hb
    go_wp2_with fail
    go_ret2
    refine ⟨v4, rfl, ?_, HB4.out⟩
    rw [HS.out.2]
    have := Kd.R_lower HV4.out HB.out.size
    simpa using this

end Go.Proofs.Ytgdglnpgfngdoaa.Q

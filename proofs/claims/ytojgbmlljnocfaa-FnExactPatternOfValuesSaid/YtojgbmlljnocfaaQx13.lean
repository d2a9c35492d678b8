-- Laid by wip/tools/lay.py (a program of this session) over the kit's print.py and hand-proved contracts.
import Derived.Test.YtojgbmlljnocfaaQx0
import Derived.Test.YtojgbmlljnocfaaQx4
import Derived.Test.YtojgbmlljnocfaaQx7
import Derived.Test.YtojgbmlljnocfaaQx8
import Derived.Test.YtojgbmlljnocfaaQx12
namespace Go.Proofs.Ytojgbmlljnocfaa.Q
open Go.RowKit Go.Proofs.YtojgbmlljnocfaaW.PrintWords Go.Proofs.YtojgbmlljnocfaaW.PrintLast Go.Proofs.YtojgbmlljnocfaaW.PrintMore
attribute [local go_sem] max2_int min2_int max_two min_two max_three min_three max_four min_four   -- for this text's walks alone
set_option linter.unusedVariables false
set_option linter.unusedSimpArgs false

/-! ### impl_PatternOfValues: function 16 -/
set_option maxHeartbeats 8000000 in
set_option maxRecDepth 100000 in
theorem impl_PatternOfValues_1.calls (a0 : Int) (w : World) :
    Calls Try.prog 60 #[.int .i64 a0] w fun e w' => e = .returned (.bool (!(decide (0 ≤ a0) && decide (a0 ≤ 1000000)))) ∧ Below w.heap.size w w' := by
  have hw := within_eq a0 0 1000000
  generalize (decide (0 ≤ a0) && decide (a0 ≤ 1000000)) = b at hw
  have HW := Aside0.mk hw
  clear hw
  go_enter Try.func60, Try.ntmps60
  go_wp2_with fail
  refine (impl_within.calls _ _ _ _ _ HW.out).mono ?_
  rintro e w' ⟨rfl, ⟨nd, rfl⟩⟩
  go_wp2_with fail
  go_ret
  exact ⟨rfl, pw_below_drewN (Below.refl _ _) _⟩
def impl_PatternOfValues.f (k : Nat) (l0 : List Int) : Option (List Int × Bool) :=
  if (decide (1 ≤ (l0.length : Int)) && decide ((l0.length : Int) ≤ 9)) = true then
    if (l0.any fun x => !(decide (0 ≤ x) && decide (x ≤ 1000000))) = true then some (([] : List Int), false)
    else (slices_Sort_int_int.f k (ranksOf l0)).bind fun s => (impl_numbersTo.f k (l0.length : Int)).bind fun y => (slices_Equal_int_int.f k s y).bind fun t =>
      if t = true then (impl_ofCycle.f k (ranksOf l0)).bind fun o => some (o, true) else some (([] : List Int), false)
  else some (([] : List Int), false)
theorem impl_PatternOfValues.mono : ∀ a0 k, LeO (impl_PatternOfValues.f k a0) (impl_PatternOfValues.f (k + 1) a0) := by
  intro a0 k
  unfold impl_PatternOfValues.f
  exact LeO.ite (LeO.ite (LeO.refl _) (LeO.bind (slices_Sort_int_int.mono _ _) fun _ => LeO.bind (impl_numbersTo.mono _ _) fun _ => LeO.bind (slices_Equal_int_int.mono _ _ _) fun _ => LeO.ite (LeO.bind (impl_ofCycle.mono _ _) fun _ => LeO.refl _) (LeO.refl _))) (LeO.refl _)
set_option maxHeartbeats 8000000 in
set_option maxRecDepth 100000 in
theorem impl_PatternOfValues.calls (k : Nat) (A0 : Option Addr) (c0 : Nat) (l0 : List Int) (r1 : List Int) (r2 : Bool) (w : World) (hr0 : Kd.C (Kd.int .i64) w A0 l0.length l0) (hc0 : l0.length ≤ c0) (h : impl_PatternOfValues.f k l0 = some (r1, r2)) :
    Calls Try.prog 16 #[.slice A0 l0.length c0] w fun e w' => ∃ v0_ : Value, e = .returned (.tuple #[v0_, .bool r2]) ∧ Kd.R (Kd.int .i64) 3 w' w.heap.size (fun _ => True) v0_ r1 ∧ Below w.heap.size w w' := by
  have HR0 := Aside0.mk hr0
  have hm : l0.length ≤ 9223372036854775807 := hr0.2.1
  clear hr0
  have hw := within_eq (l0.length : Int) 1 9
  unfold impl_PatternOfValues.f at h
  cases hb : (decide (1 ≤ (l0.length : Int)) && decide ((l0.length : Int) ≤ 9)) with
  | false =>
    rw [hb] at hw h
    rw [if_neg (by decide)] at h
    injection h with h
    injection h with h1 h2
    subst h1
    subst h2
    have HW := Aside0.mk hw
    clear hw hb
    go_enter Try.func16, Try.ntmps16
    go_wp2_with fail
    refine (impl_within.calls _ _ _ _ _ HW.out).mono ?_
    rintro e w' ⟨rfl, ⟨nd, rfl⟩⟩
    clear HW
    go_wp2_with fail
    go_ret2
    exact ⟨_, rfl, Kd.R_nil _ _ _ _ _, pw_below_drewN (Below.refl _ _) _⟩
  | true =>
    rw [hb] at hw h
    rw [if_pos rfl] at h
    have HW := Aside0.mk hw
    rw [Bool.and_eq_true, decide_eq_true_iff, decide_eq_true_iff] at hb
    obtain ⟨h1, h9⟩ := hb
    clear hw
    generalize hq : (l0.any fun x => !(decide (0 ≤ x) && decide (x ≤ 1000000))) = q at h
    have HQ := Aside0.mk hq
    have H := Aside0.mk h
    clear hq h
    go_enter Try.func16, Try.ntmps16
    go_wp2_with fail
    refine (impl_within.calls _ _ _ _ _ HW.out).mono ?_
    rintro e w' ⟨rfl, ⟨nd, rfl⟩⟩
    clear HW
    have hCF := slices_ContainsFunc_int_int.with_ (fun x => !(decide (0 ≤ x) && decide (x ≤ 1000000))) 60 #[] A0 c0 l0
      (w.drewN nd) (enters_ Try.func60 (by kernel_rfl) rfl) (Kd.C_drewN HR0.out _) hc0
      (fun W x _ hb => impl_PatternOfValues_1.calls x W)
    rw [HQ.out] at hCF
    have HCF := Aside0.mk hCF
    clear hCF HQ
    have h := H.out
    clear H
    cases q with
    | true =>
      rw [if_pos rfl] at h
      injection h with h
      injection h with h1 h2
      subst h1
      subst h2
      go_wp2_with fail
      refine HCF.out.mono ?_
      rintro e w' ⟨rfl, hb⟩
      have HB := Aside0.mk (below_step (pw_below_drewN (Below.refl _ _) _) hb)
      clear HCF hb
      go_wp2_with fail
      go_ret2
      exact ⟨_, rfl, Kd.R_nil _ _ _ _ _, HB.out⟩
    | false =>
      rw [if_neg (by decide)] at h
      obtain ⟨s, hs, h⟩ := Option.bind_eq_some_iff.mp h
      obtain ⟨y, hy, h⟩ := Option.bind_eq_some_iff.mp h
      obtain ⟨t, ht, h⟩ := Option.bind_eq_some_iff.mp h
      have HS := Aside0.mk hs
      have HY := Aside0.mk hy
      have HE := Aside0.mk ht
      have H := Aside0.mk h
      clear hs hy ht h
      go_wp2_with fail
      refine HCF.out.mono ?_
      rintro e w1 ⟨rfl, hb⟩
      have HB := Aside0.mk (below_step (pw_below_drewN (Below.refl w.heap.size w) nd) hb)
      have HR1 := Aside0.mk (Kd.C_below (Kd.C_drewN HR0.out nd) hb)
      clear HCF hb
      have HRK := Aside0.mk (impl_ranks_int.with_ A0 c0 l0 w1 HR1.out hc0 (by omega))
      go_wp2_with fail
      refine HRK.out.mono ?_
      rintro e w2 ⟨v, rfl, hR, hb⟩
      have HB2 := Aside0.mk (below_step HB.out hb)
      obtain ⟨Ap, cp, rfl⟩ := Kd.R_slice hR
      have hrl : (ranksOf l0).length = l0.length := by simp [ranksOf]
      have hrd := Kd.R_reads' hR
      have HCP := Aside0.mk hrd.2.1
      have HRP := Aside0.mk hrd.2.2
      have HRL := Aside0.mk hrl
      clear HRK hR hb HB hrd
      obtain ⟨pl, hpl⟩ : ∃ pl, pl = ranksOf l0 := ⟨_, rfl⟩
      rw [← hpl] at HS HRP HCP HRL H hrl ⊢
      clear hpl
      go_wp2_with fail
      refine (slices_Values_int.calls _ _ _ _).mono ?_
      rintro e w3 ⟨rfl, rfl⟩
      have HB3 := Aside0.mk (below_alloc HB2.out (Obj.cells #[Value.slice Ap l0.length cp] 22))
      have HRP3 := Aside0.mk (Kd.C_alloc HRP.out (Obj.cells #[Value.slice Ap l0.length cp] 22))
      have HC := Aside0.mk (slices_Sorted_int.with_ k _ cp Ap pl s _ (by omega) HRP3.out (by rw [hrl]; exact blk_new w2 (Obj.cells #[Value.slice Ap l0.length cp] 22)) HS.out)
      clear HS
      go_wp2_with fail
      refine HC.out.mono ?_
      rintro e w4 ⟨v, rfl, hR, hb⟩
      have HB4 := Aside0.mk (below_step HB3.out hb)
      have HRP4 := Aside0.mk (Kd.C_below HRP3.out hb)
      have HV := Aside0.mk hR
      clear HC HB3 hR hb HRP3 HRP HB2
      go_wp2_with fail
      refine (impl_numbersTo.calls k _ y _ HY.out).mono ?_
      rintro e w5 ⟨v5, rfl, hR, hb⟩
      have HB5 := Aside0.mk (below_step HB4.out hb)
      have HV3 := Aside0.mk (Kd.R_below HV.out hb)
      have HV4 := Aside0.mk hR
      have HRP5 := Aside0.mk (Kd.C_below HRP4.out hb)
      clear HB4 HV HY hR hb HRP4
      obtain ⟨A3, c3, rfl⟩ := Kd.R_slice HV3.out
      obtain ⟨A4, c4, rfl⟩ := Kd.R_slice HV4.out
      have h3 := Kd.R_reads' HV3.out
      have h4 := Kd.R_reads' HV4.out
      have HQ := Aside0.mk (slices_Equal_int_int.calls k A3 c3 s A4 c4 y t _ h3.2.2 h3.2.1 h4.2.2 h4.2.1 HE.out)
      clear h3 h4 HE HV3 HV4
      have h := H.out
      clear H
      cases t with
      | false =>
        rw [if_neg (by decide)] at h
        injection h with h
        injection h with h1 h2
        subst h1
        subst h2
        go_wp2_with fail
        refine HQ.out.mono ?_
        rintro e w6 ⟨rfl, ⟨nd2, rfl⟩⟩
        clear HQ
        go_wp2_with fail
        go_ret2
        exact ⟨_, rfl, Kd.R_nil _ _ _ _ _, pw_below_drewN HB5.out _⟩
      | true =>
        rw [if_pos rfl] at h
        obtain ⟨o, ho, h⟩ := Option.bind_eq_some_iff.mp h
        injection h with h
        injection h with h1 h2
        subst h1
        subst h2
        have HOC := Aside0.mk ho
        clear ho
        go_wp2_with fail
        refine HQ.out.mono ?_
        rintro e w6 ⟨rfl, ⟨nd2, rfl⟩⟩
        clear HQ
        have HB6 := Aside0.mk (pw_below_drewN HB5.out nd2)
        have hof := impl_ofCycle.calls k Ap cp pl o _ (Kd.C_drewN HRP5.out nd2) HCP.out HOC.out
        rw [hrl] at hof
        have HOF := Aside0.mk hof
        clear hof
        go_wp2_with fail
        refine HOF.out.mono ?_
        rintro e w7 ⟨v7, rfl, hR, hb⟩
        have HB7 := Aside0.mk (below_step HB6.out hb)
        have HV7 := Aside0.mk (Kd.R_lower hR (HB6.out.size))
        clear HOF hR hb
        go_wp2_with fail
        go_ret2
        exact ⟨v7, rfl, HV7.out, HB7.out⟩

end Go.Proofs.Ytojgbmlljnocfaa.Q

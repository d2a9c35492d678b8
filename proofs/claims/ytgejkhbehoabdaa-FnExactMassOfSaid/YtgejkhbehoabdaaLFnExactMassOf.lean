/- The statement FnExactMassOf, out of its one pure statement and the contract of its walk: no condition of its own. Laid by wip/tools/lay.py, a program of this session. -/
import Derived.Test.YtgejkhbehoabdaaKFnExactMassOf5
import Derived.Test.YtgejkhbehoabdaaRows
import Derived.WalkKit
import Derived.ProofKit
import Derived.OpenShut
import Derived.ShutString
import Derived.ChangeOld
import Derived.Below
import Derived.SizedLaws
namespace Go.Proofs.Ytgejkhbehoabdaa.fnExactMassOf
open Go.ChangeShapes Go.WideShapes Go.ChangeAt Go.RowKit Go.Proofs.Ytgejkhbehoabdaa.Open Go.Proofs.Ytgejkhbehoabdaa.Q Go.Proofs.YtgejkhbehoabdaaW.PrintWords
open Go.ChangeMaps (open_string shut_string)
theorem own : ownKnob Try.prog.godebug = none := by kernel_rfl
theorem laidOut : laidOutB Try.prog = true := by kernel_rfl
theorem opens43 : Opens Try.prog 43 k43 (fun x => ((Lit.int .i64 x.f0).wf = true ∧ (Lit.int .i64 x.f1).wf = true)) := by
  have h := opens_struct (P := Try.prog) Try.underlying43 (by kernel_rfl) (opensF_cons (opens_int (k := .i64) Try.underlying3 (by kernel_rfl)) rfl (opensF_one (opens_int (k := .i64) Try.underlying3 (by kernel_rfl)) rfl)) (fun x : S43 => (x.f0, x.f1)) (fun p => ⟨p.1, p.2⟩) (fun _ => rfl)
  exact h
structure S60 where
  f0 : S43
  f1 : S43
def z60 : S60 := ⟨z43, z43⟩
def k60 : Kd S60 := Kd.iso (Kd.pair k43 k43) (fun x : S60 => (x.f0, x.f1))
theorem k60_heap : Kd.Heap k60 := Kd.heap_iso _ (Kd.heap_pair k43_heap k43_heap)
theorem k60_open {w : World} {x : S60} {cs : List Value} (h : k60.K w x cs) : cs = [.int .i64 x.f0.f0, .int .i64 x.f0.f1, .int .i64 x.f1.f0, .int .i64 x.f1.f1] := by
  obtain ⟨_, _, rfl, s0, s2⟩ := h
  obtain rfl := k43_open s0
  obtain rfl := k43_open s2
  exact rfl
theorem opens60 : Opens Try.prog 60 k60 (fun x => (((Lit.int .i64 x.f0.f0).wf = true ∧ (Lit.int .i64 x.f0.f1).wf = true) ∧ ((Lit.int .i64 x.f1.f0).wf = true ∧ (Lit.int .i64 x.f1.f1).wf = true))) := by
  have h := opens_struct (P := Try.prog) Try.underlying60 (by kernel_rfl) (opensF_cons opens43 rfl (opensF_one opens43 rfl)) (fun x : S60 => (x.f0, x.f1)) (fun p => ⟨p.1, p.2⟩) (fun _ => rfl)
  exact h
set_option maxRecDepth 100000 in
theorem lifted (os : Os) (started : os.Started) (H : Type) (enc : TypeId × Value → H) :
    ReturnsInHanded {} Try.checked os 10 .any (Rows.fnExactMassOfSpec.pre6 enc Try.prog Try.f10 Rows.fnExactMassOfRow.domain false) (Rows.fnExactMassOfSpec.post enc Try.prog Try.f10 false true false false) := by
  refine returnsInHanded_of_change_sized (C := Try.checked) own started (by kernel_rfl) Try.func10
    (ChangeSpec.witness6 (enc := enc) (C := Try.checked) false ⟨#[], #[.slice none 0 0, .slice none 0 0, (.agg #[(.int .i64 0), (.int .i64 0), (.int .i64 0), (.int .i64 0)])], []⟩ 8 (by kernel_rfl) (by kernel_rfl) (by kernel_rfl) (by kernel_rfl)) ?_
  intro W base args ds gs before hval0 hW hcnd hsz0 _
  have hval : ∀ (j : Nat) t v, Try.f10.params[j]? = some t → args[j]? = some v → Value.okWide Try.prog W .any base t v := hval0
  have hW' := hW
  obtain ⟨p, q, hA0, hV, rfl, hfz, hnd⟩ := hW
  have hA : DataW.TrodAll enc Try.prog W 0 (fun _ => true) true Try.f10.params.toList args.toList ds p := hA0
  rw [Try.params10] at hA hval
  obtain ⟨v0, vs0, d0, ds0, p0, q0, hargs, rfl, rfl, h0, r0⟩ := trodAll_cons hA
  obtain ⟨v1, vs1, d1, ds1, p1, q1, rfl, rfl, rfl, h1, r1⟩ := trodAll_cons r0
  obtain ⟨v2, vs2, d2, ds2, p2, q2, rfl, rfl, rfl, h2, r2⟩ := trodAll_cons r1
  obtain ⟨rfl, rfl, rfl⟩ := trodAll_nil r2
  obtain rfl : args = #[v0, v1, v2] := by cases args; simp_all
  obtain ⟨rfl, rfl⟩ := trodVars_none hV
  have k0_ := h0
  have lt0 : ∀ x ∈ p0, x.block < W.heap.size := by obtain ⟨m, hm⟩ := k0_; exact DataW.trod_lt m _ _ _ hm
  obtain ⟨A0, c0, l0, rfl, hc0, hm0, hC0, hw0⟩ := arg_row (P := Try.prog) Try.underlying22 opens43 (hval 0 22 v0 rfl rfl) h0
  have k1_ := h1
  have lt1 : ∀ x ∈ p1, x.block < W.heap.size := by obtain ⟨m, hm⟩ := k1_; exact DataW.trod_lt m _ _ _ hm
  obtain ⟨A1, c1, l1, rfl, hc1, hm1, hC1, hw1⟩ := arg_row (P := Try.prog) Try.underlying22 opens43 (hval 1 22 v1 rfl rfl) h1
  have k2_ := h2
  have lt2 : ∀ x ∈ p2, x.block < W.heap.size := by obtain ⟨m, hm⟩ := k2_; exact DataW.trod_lt m _ _ _ hm
  obtain ⟨cs2, x2, rfl, hK2, hw2⟩ := arg_struct (P := Try.prog) Try.underlying60 opens60 (hval 2 60 v2 rfl rfl) h2
  obtain rfl := k60_open hK2
  clear hA0 hval0 hsz0
  obtain ⟨k, hk⟩ := Pure.FnExactMassOf l0 l1 x2.f0.f0 x2.f0.f1 x2.f1.f0 x2.f1.f1 hm0 hw0 hm1 hw1 hw2.1.1 hw2.1.2 hw2.2.1 hw2.2.2
  refine (laws_FnExactMassOf.calls k A0 c0 l0 A1 c1 l1 x2.f0.f0 x2.f0.f1 x2.f1.f0 x2.f1.f1 true W hC0 hc0 hC1 hc1 hk).mono ?_
  rintro e W' ⟨he, bel0⟩
  have bel : Below W.heap.size W W' := by first | exact bel0 | exact bel0.below
  subst he
  exact ⟨_, rfl, _, _, _, [], _, [], hW', trodAll_mk1 (shut_bool Try.underlying4 _), (trodAll_cons_mk (Below.trod laidOut (by kernel_rfl) (of_decide_eq_true (by kernel_rfl)) k0_ bel lt0) (trodAll_cons_mk (Below.trod laidOut (by kernel_rfl) (of_decide_eq_true (by kernel_rfl)) k1_ bel lt1) (trodAll_cons_mk (Below.trod laidOut (by kernel_rfl) (of_decide_eq_true (by kernel_rfl)) k2_ bel lt2) trodAll_mk0))), rfl, bel.frame _, fun h => by cases h⟩
theorem over : Rows.fnExactMassOfRow.holds Try.pinned (OpenSpec.ofChange Rows.fnExactMassOfSpec) :=
  OpenClaim.holds_of_wide 10 Try.f10 rfl rfl rfl rfl rfl rfl rfl ⟨rfl, rfl, rfl, rfl, rfl⟩ rfl rfl rfl rfl rfl (by kernel_rfl) Try.func10 (by kernel_rfl)
    (of_decide_eq_true (by kernel_rfl)) (by unfold Func.isWrapper; first | (rw [if_pos (by decide +kernel)]; kernel_rfl) | (rw [if_neg (by decide +kernel)]; exact ⟨rfl, rfl⟩))
    (fun os started H enc _ => lifted os started H enc)
theorem proved : Rows.FnExactMassOfSaid := over
#print axioms proved
end Go.Proofs.Ytgejkhbehoabdaa.fnExactMassOf
namespace Go.Proofs.Ytgejkhbehoabdaa
/-- The row, under a short name, for the claim. -/
theorem fnExactMassOf_holds : Rows.FnExactMassOfSaid := fnExactMassOf.proved
end Go.Proofs.Ytgejkhbehoabdaa

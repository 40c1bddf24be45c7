
/- The row of the law FnExactStepViews: for every input the call returns true, and each argument reads afterwards as it read before. -/
import Derived.Test.YtgdkffddcbjmmaaRows
import Derived.Test.YtgdkffddcbjmmaaLStepViews
import Derived.Test.YtgdkffddcbjmmaaOp
import Derived.ProofKit
import Derived.OpenShut
import Derived.ShutString
import Derived.ChangeOld
import Derived.Below
import Derived.SizedLaws
import Derived.Test.YtgdkffddcbjmmaaWSized
namespace Go.Proofs.Ytgdkffddcbjmmaa.fnExactStepViews
open Go.ChangeShapes Go.WideShapes Go.ChangeAt Go.RowKit
open Go.ChangeMaps (open_string shut_string)
open Go.Proofs.YtgdkffddcbjmmaaW.PrintWords Go.Proofs.YtgdkffddcbjmmaaW.PrintLast Go.Proofs.YtgdkffddcbjmmaaW.PrintMore
open Go.Proofs.Ytgdkffddcbjmmaa.U
set_option linter.unusedVariables false
theorem own : ownKnob Try.prog.godebug = none := by kernel_rfl
theorem laidOut : laidOutB Try.prog = true := by kernel_rfl
set_option maxRecDepth 100000 in
theorem lifted (os : Os) (started : os.Started) (H : Type) (enc : TypeId × Value → H) :
  ReturnsInHanded {} Try.checked os 3 .any (Rows.fnExactStepViewsSpec.pre6 enc Try.prog Try.f3 Rows.fnExactStepViewsRow.domain false) (Rows.fnExactStepViewsSpec.post enc Try.prog Try.f3 false true false false) := by
 refine returnsInHanded_of_change_sized (C := Try.checked) own started (by kernel_rfl) Try.func3
  (ChangeSpec.witness6 (enc := enc) (C := Try.checked) false ⟨#[], #[.slice none 0 0, .int .i64 0], []⟩ 8 (by kernel_rfl) (by kernel_rfl) (by kernel_rfl) (by kernel_rfl)) ?_
 intro W base args ds gs before hval0 hW hcnd hsz0 _
 have hsz : (DataW.weightsEach Try.prog (Try.f3.params.toList ++ Rows.fnExactStepViewsSpec.plain.varTypes Try.prog) (ds ++ gs)).all (· ≤ reachBytes) = true := hsz0
 have hval : ∀ (j : Nat) t v, Try.f3.params[j]? = some t → args[j]? = some v → Value.okWide Try.prog W .any base t v := hval0
 have hW' := hW
 obtain ⟨p, q, hA0, hV, rfl, hfz, hnd⟩ := hW
 have hA : DataW.TrodAll enc Try.prog W 0 (fun _ => true) true Try.f3.params.toList args.toList ds p := hA0
 rw [Try.params3] at hA hval hsz
 obtain ⟨v0, vs0, d0, ds0, p0, q0, hargs, rfl, rfl, h0, r0⟩ := trodAll_cons hA
 obtain ⟨v1, vs1, d1, ds1, p1, q1, rfl, rfl, rfl, h1, r1⟩ := trodAll_cons r0
 obtain ⟨rfl, rfl, rfl⟩ := trodAll_nil r1
 obtain rfl : args = #[v0, v1] := by cases args; simp_all
 obtain ⟨rfl, rfl⟩ := trodVars_none hV
 have k0 := h0
 have lt0 : ∀ x ∈ p0, x.block < W.heap.size := by obtain ⟨m, hm⟩ := k0; exact DataW.trod_lt m _ _ _ hm
 obtain ⟨fuel0, hf0⟩ := h0
 obtain ⟨l0, ⟨A0, c0, e0, hc0, hC0⟩, w0⟩ := (Op.opens_slice Try.underlying22 (by kernel_rfl) (Op.opens_struct Try.underlying34 (by kernel_rfl) (Op.opensF_cons (by kernel_rfl) (by kernel_rfl) (Op.opens_int Try.underlying3) (Op.opensF_cons (by kernel_rfl) (by kernel_rfl) (Op.opens_int Try.underlying3) (Op.opensF_cons (by kernel_rfl) (by kernel_rfl) (Op.opens_slice Try.underlying31 (by kernel_rfl) (Op.opens_struct Try.underlying75 (by kernel_rfl) (Op.opensF_cons (by kernel_rfl) (by kernel_rfl) (Op.opens_int Try.underlying3) (Op.opensF_cons (by kernel_rfl) (by kernel_rfl) (Op.opens_int Try.underlying3) (Op.opensF_one (by kernel_rfl) (by kernel_rfl) (Op.opens_int Try.underlying3))))) 0) (Op.opensF_cons (by kernel_rfl) (by kernel_rfl) (Op.opens_slice Try.underlying32 (by kernel_rfl) (Op.opens_int Try.underlying3) 0) (Op.opensF_cons (by kernel_rfl) (by kernel_rfl) (Op.opens_slice Try.underlying32 (by kernel_rfl) (Op.opens_int Try.underlying3) 0) (Op.opensF_cons (by kernel_rfl) (by kernel_rfl) (Op.opens_slice Try.underlying32 (by kernel_rfl) (Op.opens_int Try.underlying3) 0) (Op.opensF_one (by kernel_rfl) (by kernel_rfl) (Op.opens_slice Try.underlying32 (by kernel_rfl) (Op.opens_int Try.underlying3) 0))))))))) 0) hf0
 obtain ⟨a0, len0, cap0, rfl⟩ := okWide_slice Try.underlying22 (hval 0 22 v0 rfl rfl)
 simp only [Value.cells] at e0
 obtain ⟨rfl, rfl, rfl⟩ : a0 = A0 ∧ len0 = l0.length ∧ cap0 = c0 := by simpa using e0
 have b0 : l0.length ≤ 9223372036854775807 := (id hC0 : ReadsRow _ _ _ _ _ _).2.1
 have k1 := h1
 have lt1 : ∀ x ∈ p1, x.block < W.heap.size := by obtain ⟨m, hm⟩ := k1; exact DataW.trod_lt m _ _ _ hm
 obtain ⟨i1, rfl, rfl, rfl, w1⟩ := open_int Try.underlying3 (hval 1 3 v1 rfl rfl) h1
 clear hA0 hval0 hsz0 hsz
 refine (U.law_StepViews _ _ l0 i1 W hC0 hc0 b0 w0 w1).mono fun e W' ⟨he, bel0⟩ => ?_
 have bel := bel0.out
 subst he
 exact ⟨_, rfl, _, _, _, [], _, [], hW', trodAll_mk1 (shut_bool Try.underlying4 _), (trodAll_cons_mk (Below.trod laidOut (by kernel_rfl) (of_decide_eq_true (by kernel_rfl)) k0 bel lt0) (trodAll_cons_mk (shut_int Try.underlying3 w1) trodAll_mk0)), rfl, bel.frame _, fun h => by cases h⟩
theorem over : Rows.fnExactStepViewsRow.holds Try.pinned (OpenSpec.ofChange Rows.fnExactStepViewsSpec) :=
 OpenClaim.holds_of_wide 3 Try.f3 rfl rfl rfl rfl rfl rfl rfl ⟨rfl, rfl, rfl, rfl, rfl⟩ rfl rfl rfl rfl rfl (by kernel_rfl) Try.func3 (by kernel_rfl)
  (of_decide_eq_true (by kernel_rfl)) (by unfold Func.isWrapper; first | (rw [if_pos (by decide +kernel)]; kernel_rfl) | (rw [if_neg (by decide +kernel)]; exact ⟨rfl, rfl⟩))
  (fun os started H enc _ => lifted os started H enc)
theorem proved : Rows.FnExactStepViewsSaid := over
#print axioms proved
end Go.Proofs.Ytgdkffddcbjmmaa.fnExactStepViews
namespace Go.Proofs.Ytgdkffddcbjmmaa
theorem fnExactStepViews_holds : Rows.FnExactStepViewsSaid := fnExactStepViews.proved
end Go.Proofs.Ytgdkffddcbjmmaa

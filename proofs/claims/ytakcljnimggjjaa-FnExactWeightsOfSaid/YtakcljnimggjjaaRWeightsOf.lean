/- The row of the law FnExactWeightsOf: for every input the call returns true, and each argument reads afterwards as it read before. -/
import Derived.Test.YtakcljnimggjjaaRows
import Derived.Test.YtakcljnimggjjaaUWeightsOf
import Derived.Test.YtakcljnimggjjaaOp
import Derived.ProofKit
import Derived.OpenShut
import Derived.ShutString
import Derived.ChangeOld
import Derived.Below
import Derived.SizedLaws
import Derived.Test.YtakcljnimggjjaaWSized
namespace Go.Proofs.Ytakcljnimggjjaa.fnExactWeightsOf
open Go.ChangeShapes Go.WideShapes Go.ChangeAt Go.RowKit
open Go.ChangeMaps (open_string shut_string)
open Go.Proofs.YtakcljnimggjjaaW.PrintWords Go.Proofs.YtakcljnimggjjaaW.PrintLast Go.Proofs.YtakcljnimggjjaaW.PrintMore
open Go.Proofs.Ytakcljnimggjjaa.PFnExactWeightsOf
set_option linter.unusedVariables false
theorem own : ownKnob Try.prog.godebug = none := by kernel_rfl
theorem laidOut : laidOutB Try.prog = true := by kernel_rfl
set_option maxRecDepth 100000 in
theorem lifted (os : Os) (started : os.Started) (H : Type) (enc : TypeId × Value → H) :
    ReturnsInHanded {} Try.checked os 13 .any (Rows.fnExactWeightsOfSpec.pre6 enc Try.prog Try.f13 Rows.fnExactWeightsOfRow.domain false) (Rows.fnExactWeightsOfSpec.post enc Try.prog Try.f13 false true false false) := by
  refine returnsInHanded_of_change_sized (C := Try.checked) own started (by kernel_rfl) Try.func13
    (ChangeSpec.witness6 (enc := enc) (C := Try.checked) false ⟨#[], #[.agg #[.int .i64 0, .slice none 0 0]], []⟩ 8 (by kernel_rfl) (by kernel_rfl) (by kernel_rfl) (by kernel_rfl)) ?_
  intro W base args ds gs before hval0 hW hcnd hsz0 _
  have hsz : (DataW.weightsEach Try.prog (Try.f13.params.toList ++ Rows.fnExactWeightsOfSpec.plain.varTypes Try.prog) (ds ++ gs)).all (· ≤ reachBytes) = true := hsz0
  have hval : ∀ (j : Nat) t v, Try.f13.params[j]? = some t → args[j]? = some v → Value.okWide Try.prog W .any base t v := hval0
  have hW' := hW
  obtain ⟨p, q, hA0, hV, rfl, hfz, hnd⟩ := hW
  have hA : DataW.TrodAll enc Try.prog W 0 (fun _ => true) true Try.f13.params.toList args.toList ds p := hA0
  rw [Try.params13] at hA hval hsz
  obtain ⟨v0, vs0, d0, ds0, p0, q0, hargs, rfl, rfl, h0, r0⟩ := trodAll_cons hA
  obtain ⟨rfl, rfl, rfl⟩ := trodAll_nil r0
  obtain rfl : args = #[v0] := by cases args; simp_all
  obtain ⟨rfl, rfl⟩ := trodVars_none hV
  have k0 := h0
  have lt0 : ∀ x ∈ p0, x.block < W.heap.size := by obtain ⟨m, hm⟩ := k0; exact DataW.trod_lt m _ _ _ hm
  obtain ⟨cs0, rfl, _⟩ := okWide_struct Try.underlying56 (hval 0 56 v0 rfl rfl)
  obtain ⟨fuel0, hf0⟩ := h0
  obtain ⟨⟨i0_0, l0_1⟩, ⟨_, _, e0, rfl, ⟨A0_1, c0_1, rfl, hc0_1, hC0_1⟩⟩, ⟨w0_0, w0_1⟩⟩ := (Op.opens_struct Try.underlying56 (by kernel_rfl) (Op.opensF_cons (by kernel_rfl) (by kernel_rfl) (Op.opens_int Try.underlying3) (Op.opensF_one (by kernel_rfl) (by kernel_rfl) (Op.opens_slice Try.underlying54 (by kernel_rfl) (Op.opens_iso (fun x : S119 => (x.f0, x.f1, x.f2)) (fun p => ⟨p.1, p.2.1, p.2.2⟩) (fun _ => rfl) (Op.opens_struct Try.underlying119 (by kernel_rfl) (Op.opensF_cons (by kernel_rfl) (by kernel_rfl) (Op.opens_int Try.underlying3) (Op.opensF_cons (by kernel_rfl) (by kernel_rfl) (Op.opens_int Try.underlying3) (Op.opensF_one (by kernel_rfl) (by kernel_rfl) (Op.opens_int Try.underlying3)))))) 0)))) hf0
  obtain rfl : cs0 = #[.int .i64 i0_0, .slice A0_1 l0_1.length c0_1] := by cases cs0; simpa [Value.cells] using e0
  have b0_1 : l0_1.length ≤ 9223372036854775807 := (id hC0_1 : ReadsRow _ _ _ _ _ _).2.1
  clear hA0 hval0 hsz0 hsz
  obtain ⟨kk, hkk⟩ := UWeightsOf.law_ev i0_0 l0_1 b0_1
  refine (PFnExactWeightsOf.laws_FnExactWeightsOf.calls kk i0_0 A0_1 c0_1 l0_1 true W hC0_1 hc0_1 hkk).mono fun e W' ⟨he, bel⟩ => ?_
  subst he
  exact ⟨_, rfl, _, _, _, [], _, [], hW', trodAll_mk1 (shut_bool Try.underlying4 _), (trodAll_cons_mk (Below.trod laidOut (by kernel_rfl) (of_decide_eq_true (by kernel_rfl)) k0 bel lt0) trodAll_mk0), rfl, bel.frame _, fun h => by cases h⟩
theorem over : Rows.fnExactWeightsOfRow.holds Try.pinned (OpenSpec.ofChange Rows.fnExactWeightsOfSpec) :=
  OpenClaim.holds_of_wide 13 Try.f13 rfl rfl rfl rfl rfl rfl rfl ⟨rfl, rfl, rfl, rfl, rfl⟩ rfl rfl rfl rfl rfl (by kernel_rfl) Try.func13 (by kernel_rfl)
    (of_decide_eq_true (by kernel_rfl)) (by unfold Func.isWrapper; first | (rw [if_pos (by decide +kernel)]; kernel_rfl) | (rw [if_neg (by decide +kernel)]; exact ⟨rfl, rfl⟩))
    (fun os started H enc _ => lifted os started H enc)
theorem proved : Rows.FnExactWeightsOfSaid := over
#print axioms proved
end Go.Proofs.Ytakcljnimggjjaa.fnExactWeightsOf
namespace Go.Proofs.Ytakcljnimggjjaa
/-- The row, under a short name, for the claim. -/
theorem fnExactWeightsOf_holds : Rows.FnExactWeightsOfSaid := fnExactWeightsOf.proved
end Go.Proofs.Ytakcljnimggjjaa


/- The row of the law FnExactLocalFluxes: for every input the call returns true, and each argument reads afterwards as it read before. -/
import Derived.Test.YtkhjkcefkampkaaRows
import Derived.Test.YtkhjkcefkampkaaLLocalFluxes
import Derived.Test.YtkhjkcefkampkaaOp
import Derived.ProofKit
import Derived.OpenShut
import Derived.ShutString
import Derived.ChangeOld
import Derived.Below
import Derived.SizedLaws
import Derived.Test.YtkhjkcefkampkaaWSized
namespace Go.Proofs.Ytkhjkcefkampkaa.fnExactLocalFluxes
open Go.ChangeShapes Go.WideShapes Go.ChangeAt Go.RowKit
open Go.ChangeMaps (open_string shut_string)
open Go.Proofs.YtkhjkcefkampkaaW.PrintWords Go.Proofs.YtkhjkcefkampkaaW.PrintLast Go.Proofs.YtkhjkcefkampkaaW.PrintMore
open Go.Proofs.Ytkhjkcefkampkaa.U
set_option linter.unusedVariables false
theorem own : ownKnob Try.prog.godebug = none := by kernel_rfl
theorem laidOut : laidOutB Try.prog = true := by kernel_rfl
set_option maxRecDepth 100000 in
theorem lifted (os : Os) (started : os.Started) (H : Type) (enc : TypeId × Value → H) :
  ReturnsInHanded {} Try.checked os 4 .any (Rows.fnExactLocalFluxesSpec.pre6 enc Try.prog Try.f4 Rows.fnExactLocalFluxesRow.domain false) (Rows.fnExactLocalFluxesSpec.post enc Try.prog Try.f4 false true false false) := by
 refine returnsInHanded_of_change_sized (C := Try.checked) own started (by kernel_rfl) Try.func4
  (ChangeSpec.witness6 (enc := enc) (C := Try.checked) false ⟨#[], #[.agg #[.int .i64 0, .int .i64 0, .slice none 0 0, .slice none 0 0, .slice none 0 0, .slice none 0 0, .slice none 0 0], .int .i64 0], []⟩ 8 (by kernel_rfl) (by kernel_rfl) (by kernel_rfl) (by kernel_rfl)) ?_
 intro W base args ds gs before hval0 hW hcnd hsz0 _
 have hsz : (DataW.weightsEach Try.prog (Try.f4.params.toList ++ Rows.fnExactLocalFluxesSpec.plain.varTypes Try.prog) (ds ++ gs)).all (· ≤ reachBytes) = true := hsz0
 have hval : ∀ (j : Nat) t v, Try.f4.params[j]? = some t → args[j]? = some v → Value.okWide Try.prog W .any base t v := hval0
 have hW' := hW
 obtain ⟨p, q, hA0, hV, rfl, hfz, hnd⟩ := hW
 have hA : DataW.TrodAll enc Try.prog W 0 (fun _ => true) true Try.f4.params.toList args.toList ds p := hA0
 rw [Try.params4] at hA hval hsz
 obtain ⟨v0, vs0, d0, ds0, p0, q0, hargs, rfl, rfl, h0, r0⟩ := trodAll_cons hA
 obtain ⟨v1, vs1, d1, ds1, p1, q1, rfl, rfl, rfl, h1, r1⟩ := trodAll_cons r0
 obtain ⟨rfl, rfl, rfl⟩ := trodAll_nil r1
 obtain rfl : args = #[v0, v1] := by cases args; simp_all
 obtain ⟨rfl, rfl⟩ := trodVars_none hV
 have k0 := h0
 have lt0 : ∀ x ∈ p0, x.block < W.heap.size := by obtain ⟨m, hm⟩ := k0; exact DataW.trod_lt m _ _ _ hm
 obtain ⟨cs0, rfl, _⟩ := okWide_struct Try.underlying33 (hval 0 33 v0 rfl rfl)
 obtain ⟨fuel0, hf0⟩ := h0
 obtain ⟨⟨i0_0, i0_1, l0_2, l0_3, l0_4, l0_5, l0_6⟩, ⟨_, _, e0, rfl, ⟨_, _, rfl, rfl, ⟨_, _, rfl, ⟨A0_2, c0_2, rfl, hc0_2, hC0_2⟩, ⟨_, _, rfl, ⟨A0_3, c0_3, rfl, hc0_3, hC0_3⟩, ⟨_, _, rfl, ⟨A0_4, c0_4, rfl, hc0_4, hC0_4⟩, ⟨_, _, rfl, ⟨A0_5, c0_5, rfl, hc0_5, hC0_5⟩, ⟨A0_6, c0_6, rfl, hc0_6, hC0_6⟩⟩⟩⟩⟩⟩⟩, ⟨w0_0, w0_1, w0_2, w0_3, w0_4, w0_5, w0_6⟩⟩ := (Op.opens_struct Try.underlying33 (by kernel_rfl) (Op.opensF_cons (by kernel_rfl) (by kernel_rfl) (Op.opens_int Try.underlying3) (Op.opensF_cons (by kernel_rfl) (by kernel_rfl) (Op.opens_int Try.underlying3) (Op.opensF_cons (by kernel_rfl) (by kernel_rfl) (Op.opens_slice Try.underlying30 (by kernel_rfl) (Op.opens_struct Try.underlying104 (by kernel_rfl) (Op.opensF_cons (by kernel_rfl) (by kernel_rfl) (Op.opens_int Try.underlying3) (Op.opensF_cons (by kernel_rfl) (by kernel_rfl) (Op.opens_int Try.underlying3) (Op.opensF_one (by kernel_rfl) (by kernel_rfl) (Op.opens_int Try.underlying3))))) 0) (Op.opensF_cons (by kernel_rfl) (by kernel_rfl) (Op.opens_slice Try.underlying31 (by kernel_rfl) (Op.opens_int Try.underlying3) 0) (Op.opensF_cons (by kernel_rfl) (by kernel_rfl) (Op.opens_slice Try.underlying31 (by kernel_rfl) (Op.opens_int Try.underlying3) 0) (Op.opensF_cons (by kernel_rfl) (by kernel_rfl) (Op.opens_slice Try.underlying31 (by kernel_rfl) (Op.opens_int Try.underlying3) 0) (Op.opensF_one (by kernel_rfl) (by kernel_rfl) (Op.opens_slice Try.underlying31 (by kernel_rfl) (Op.opens_int Try.underlying3) 0))))))))) hf0
 obtain rfl : cs0 = #[.int .i64 i0_0, .int .i64 i0_1, .slice A0_2 l0_2.length c0_2, .slice A0_3 l0_3.length c0_3, .slice A0_4 l0_4.length c0_4, .slice A0_5 l0_5.length c0_5, .slice A0_6 l0_6.length c0_6] := by cases cs0; simpa [Value.cells] using e0
 have b0_2 : l0_2.length ≤ 9223372036854775807 := (id hC0_2 : ReadsRow _ _ _ _ _ _).2.1
 have b0_3 : l0_3.length ≤ 9223372036854775807 := (id hC0_3 : ReadsRow _ _ _ _ _ _).2.1
 have b0_4 : l0_4.length ≤ 9223372036854775807 := (id hC0_4 : ReadsRow _ _ _ _ _ _).2.1
 have b0_5 : l0_5.length ≤ 9223372036854775807 := (id hC0_5 : ReadsRow _ _ _ _ _ _).2.1
 have b0_6 : l0_6.length ≤ 9223372036854775807 := (id hC0_6 : ReadsRow _ _ _ _ _ _).2.1
 have k1 := h1
 have lt1 : ∀ x ∈ p1, x.block < W.heap.size := by obtain ⟨m, hm⟩ := k1; exact DataW.trod_lt m _ _ _ hm
 obtain ⟨i1, rfl, rfl, rfl, w1⟩ := open_int Try.underlying3 (hval 1 3 v1 rfl rfl) h1
 clear hA0 hval0 hsz0 hsz
 refine (U.law_LocalFluxes i0_0 i0_1 A0_2 c0_2 l0_2 A0_3 c0_3 l0_3 A0_4 c0_4 l0_4 A0_5 c0_5 l0_5 A0_6 c0_6 l0_6 i1 W w0_0 w0_1 hC0_2 hc0_2 b0_2 w0_2 hC0_3 hc0_3 b0_3 w0_3 hC0_4 hc0_4 b0_4 w0_4 hC0_5 hc0_5 b0_5 w0_5 hC0_6 hc0_6 b0_6 w0_6 w1).mono fun e W' ⟨he, bel0⟩ => ?_
 have bel := bel0.out
 subst he
 exact ⟨_, rfl, _, _, _, [], _, [], hW', trodAll_mk1 (shut_bool Try.underlying4 _), (trodAll_cons_mk (Below.trod laidOut (by kernel_rfl) (of_decide_eq_true (by kernel_rfl)) k0 bel lt0) (trodAll_cons_mk (shut_int Try.underlying3 w1) trodAll_mk0)), rfl, bel.frame _, fun h => by cases h⟩
theorem over : Rows.fnExactLocalFluxesRow.holds Try.pinned (OpenSpec.ofChange Rows.fnExactLocalFluxesSpec) :=
 OpenClaim.holds_of_wide 4 Try.f4 rfl rfl rfl rfl rfl rfl rfl ⟨rfl, rfl, rfl, rfl, rfl⟩ rfl rfl rfl rfl rfl (by kernel_rfl) Try.func4 (by kernel_rfl)
  (of_decide_eq_true (by kernel_rfl)) (by unfold Func.isWrapper; first | (rw [if_pos (by decide +kernel)]; kernel_rfl) | (rw [if_neg (by decide +kernel)]; exact ⟨rfl, rfl⟩))
  (fun os started H enc _ => lifted os started H enc)
theorem proved : Rows.FnExactLocalFluxesSaid := over
#print axioms proved
end Go.Proofs.Ytkhjkcefkampkaa.fnExactLocalFluxes
namespace Go.Proofs.Ytkhjkcefkampkaa
theorem fnExactLocalFluxes_holds : Rows.FnExactLocalFluxesSaid := fnExactLocalFluxes.proved
end Go.Proofs.Ytkhjkcefkampkaa

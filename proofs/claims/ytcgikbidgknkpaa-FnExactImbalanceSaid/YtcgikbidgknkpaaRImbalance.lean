
/- The row of the law FnExactImbalance: for every input the call returns true, and each argument reads afterwards as it read before. -/
import Derived.Test.YtcgikbidgknkpaaRows
import Derived.Test.YtcgikbidgknkpaaLImbalance
import Derived.Test.YtcgikbidgknkpaaOp
import Derived.ProofKit
import Derived.OpenShut
import Derived.ShutString
import Derived.ChangeOld
import Derived.Below
import Derived.SizedLaws
import Derived.Test.YtcgikbidgknkpaaWSized
namespace Go.Proofs.Ytcgikbidgknkpaa.fnExactImbalance
open Go.ChangeShapes Go.WideShapes Go.ChangeAt Go.RowKit
open Go.ChangeMaps (open_string shut_string)
open Go.Proofs.YtcgikbidgknkpaaW.PrintWords Go.Proofs.YtcgikbidgknkpaaW.PrintLast Go.Proofs.YtcgikbidgknkpaaW.PrintMore
open Go.Proofs.Ytcgikbidgknkpaa.U
set_option linter.unusedVariables false
theorem own : ownKnob Try.prog.godebug = none := by kernel_rfl
theorem laidOut : laidOutB Try.prog = true := by kernel_rfl
set_option maxRecDepth 100000 in
theorem lifted (os : Os) (started : os.Started) (H : Type) (enc : TypeId × Value → H) :
    ReturnsInHanded {} Try.checked os 7 .any (Rows.fnExactImbalanceSpec.pre6 enc Try.prog Try.f7 Rows.fnExactImbalanceRow.domain false) (Rows.fnExactImbalanceSpec.post enc Try.prog Try.f7 false true false false) := by
  refine returnsInHanded_of_change_sized (C := Try.checked) own started (by kernel_rfl) Try.func7
    (ChangeSpec.witness6 (enc := enc) (C := Try.checked) false ⟨#[], #[.slice none 0 0], []⟩ 8 (by kernel_rfl) (by kernel_rfl) (by kernel_rfl) (by kernel_rfl)) ?_
  intro W base args ds gs before hval0 hW hcnd hsz0 _
  have hsz : (DataW.weightsEach Try.prog (Try.f7.params.toList ++ Rows.fnExactImbalanceSpec.plain.varTypes Try.prog) (ds ++ gs)).all (· ≤ reachBytes) = true := hsz0
  have hval : ∀ (j : Nat) t v, Try.f7.params[j]? = some t → args[j]? = some v → Value.okWide Try.prog W .any base t v := hval0
  have hW' := hW
  obtain ⟨p, q, hA0, hV, rfl, hfz, hnd⟩ := hW
  have hA : DataW.TrodAll enc Try.prog W 0 (fun _ => true) true Try.f7.params.toList args.toList ds p := hA0
  rw [Try.params7] at hA hval hsz
  obtain ⟨v0, vs0, d0, ds0, p0, q0, hargs, rfl, rfl, h0, r0⟩ := trodAll_cons hA
  obtain ⟨rfl, rfl, rfl⟩ := trodAll_nil r0
  obtain rfl : args = #[v0] := by cases args; simp_all
  obtain ⟨rfl, rfl⟩ := trodVars_none hV
  have k0 := h0
  have lt0 : ∀ x ∈ p0, x.block < W.heap.size := by obtain ⟨m, hm⟩ := k0; exact DataW.trod_lt m _ _ _ hm
  obtain ⟨fuel0, hf0⟩ := h0
  obtain ⟨l0, ⟨A0, c0, e0, hc0, hC0⟩, w0⟩ := (Op.opens_slice Try.underlying22 (by kernel_rfl) (Op.opens_struct Try.underlying59 (by kernel_rfl) (Op.opensF_cons (by kernel_rfl) (by kernel_rfl) (Op.opens_int Try.underlying3) (Op.opensF_cons (by kernel_rfl) (by kernel_rfl) (Op.opens_int Try.underlying3) (Op.opensF_cons (by kernel_rfl) (by kernel_rfl) (Op.opens_slice Try.underlying39 (by kernel_rfl) (Op.opens_struct Try.underlying96 (by kernel_rfl) (Op.opensF_cons (by kernel_rfl) (by kernel_rfl) (Op.opens_int Try.underlying3) (Op.opensF_cons (by kernel_rfl) (by kernel_rfl) (Op.opens_int Try.underlying3) (Op.opensF_one (by kernel_rfl) (by kernel_rfl) (Op.opens_int Try.underlying3))))) 0) (Op.opensF_cons (by kernel_rfl) (by kernel_rfl) (Op.opens_slice Try.underlying27 (by kernel_rfl) (Op.opens_int Try.underlying3) 0) (Op.opensF_cons (by kernel_rfl) (by kernel_rfl) (Op.opens_slice Try.underlying27 (by kernel_rfl) (Op.opens_int Try.underlying3) 0) (Op.opensF_cons (by kernel_rfl) (by kernel_rfl) (Op.opens_slice Try.underlying27 (by kernel_rfl) (Op.opens_int Try.underlying3) 0) (Op.opensF_one (by kernel_rfl) (by kernel_rfl) (Op.opens_slice Try.underlying27 (by kernel_rfl) (Op.opens_int Try.underlying3) 0))))))))) 0) hf0
  obtain ⟨a0, len0, cap0, rfl⟩ := okWide_slice Try.underlying22 (hval 0 22 v0 rfl rfl)
  simp only [Value.cells] at e0
  obtain ⟨rfl, rfl, rfl⟩ : a0 = A0 ∧ len0 = l0.length ∧ cap0 = c0 := by simpa using e0
  have b0 : l0.length ≤ 9223372036854775807 := (id hC0 : ReadsRow _ _ _ _ _ _).2.1
  clear hA0 hval0 hsz0 hsz
  refine (U.law_Imbalance _ _ l0 W hC0 hc0 b0 w0).mono fun e W' ⟨he, bel0⟩ => ?_
  have bel := bel0.out
  subst he
  exact ⟨_, rfl, _, _, _, [], _, [], hW', trodAll_mk1 (shut_bool Try.underlying4 _), (trodAll_cons_mk (Below.trod laidOut (by kernel_rfl) (of_decide_eq_true (by kernel_rfl)) k0 bel lt0) trodAll_mk0), rfl, bel.frame _, fun h => by cases h⟩
theorem over : Rows.fnExactImbalanceRow.holds Try.pinned (OpenSpec.ofChange Rows.fnExactImbalanceSpec) :=
  OpenClaim.holds_of_wide 7 Try.f7 rfl rfl rfl rfl rfl rfl rfl ⟨rfl, rfl, rfl, rfl, rfl⟩ rfl rfl rfl rfl rfl (by kernel_rfl) Try.func7 (by kernel_rfl)
    (of_decide_eq_true (by kernel_rfl)) (by unfold Func.isWrapper; first | (rw [if_pos (by decide +kernel)]; kernel_rfl) | (rw [if_neg (by decide +kernel)]; exact ⟨rfl, rfl⟩))
    (fun os started H enc _ => lifted os started H enc)
theorem proved : Rows.FnExactImbalanceSaid := over
#print axioms proved
end Go.Proofs.Ytcgikbidgknkpaa.fnExactImbalance
namespace Go.Proofs.Ytcgikbidgknkpaa
/-- The row, under a short name, for the claim. -/
theorem fnExactImbalance_holds : Rows.FnExactImbalanceSaid := fnExactImbalance.proved
end Go.Proofs.Ytcgikbidgknkpaa

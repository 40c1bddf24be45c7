
/- The row of the law FnExactDeliver: for every input the call returns true, and each argument reads afterwards as it read before. -/
import Derived.Test.YtcdibjneoemidaaRows
import Derived.Test.YtcdibjneoemidaaLDeliver
import Derived.Test.YtcdibjneoemidaaOp
import Derived.ProofKit
import Derived.OpenShut
import Derived.ShutString
import Derived.ChangeOld
import Derived.Below
import Derived.SizedLaws
import Derived.Test.YtcdibjneoemidaaWSized
namespace Go.Proofs.Ytcdibjneoemidaa.fnExactDeliver
open Go.ChangeShapes Go.WideShapes Go.ChangeAt Go.RowKit
open Go.ChangeMaps (open_string shut_string)
open Go.Proofs.YtcdibjneoemidaaW.PrintWords Go.Proofs.YtcdibjneoemidaaW.PrintLast Go.Proofs.YtcdibjneoemidaaW.PrintMore
open Go.Proofs.Ytcdibjneoemidaa.U
set_option linter.unusedVariables false
theorem own : ownKnob Try.prog.godebug = none := by kernel_rfl
theorem laidOut : laidOutB Try.prog = true := by kernel_rfl
set_option maxRecDepth 100000 in
theorem lifted (os : Os) (started : os.Started) (H : Type) (enc : TypeId × Value → H) :
    ReturnsInHanded {} Try.checked os 3 .any (Rows.fnExactDeliverSpec.pre6 enc Try.prog Try.f3 Rows.fnExactDeliverRow.domain false) (Rows.fnExactDeliverSpec.post enc Try.prog Try.f3 false true false false) := by
  refine returnsInHanded_of_change_sized (C := Try.checked) own started (by kernel_rfl) Try.func3
    (ChangeSpec.witness6 (enc := enc) (C := Try.checked) false ⟨#[], #[.agg #[.slice none 0 0, .slice none 0 0], .agg #[.int .i64 0, .int .i64 0]], []⟩ 8 (by kernel_rfl) (by kernel_rfl) (by kernel_rfl) (by kernel_rfl)) ?_
  intro W base args ds gs before hval0 hW hcnd hsz0 _
  have hsz : (DataW.weightsEach Try.prog (Try.f3.params.toList ++ Rows.fnExactDeliverSpec.plain.varTypes Try.prog) (ds ++ gs)).all (· ≤ reachBytes) = true := hsz0
  have hval : ∀ (j : Nat) t v, Try.f3.params[j]? = some t → args[j]? = some v → Value.okWide Try.prog W .any base t v := hval0
  have hW' := hW
  obtain ⟨p, q, hA0, hV, rfl, hfz, hnd⟩ := hW
  have hA : DataW.TrodAll enc Try.prog W 0 (fun _ => true) true Try.f3.params.toList args.toList ds p := hA0
  rw [Try.params3] at hA hval hsz
  obtain ⟨v0, vs0, d0, ds0, p0, q0, hargs, rfl, rfl, h0, r0⟩ := trodAll_cons hA
  obtain ⟨v1, vs1, d1, ds1, p1, q1, rfl, rfl, rfl, h1, r1⟩ := trodAll_cons r0
  obtain ⟨rfl, rfl, rfl⟩ := trodAll_nil r1
  obtain rfl : args = #[v0, v1] := by cases args; simp_all
  obtain ⟨rfl, rfl⟩ := trodVars_none hV
  have k0 := h0
  have lt0 : ∀ x ∈ p0, x.block < W.heap.size := by obtain ⟨m, hm⟩ := k0; exact DataW.trod_lt m _ _ _ hm
  obtain ⟨cs0, rfl, _⟩ := okWide_struct Try.underlying25 (hval 0 25 v0 rfl rfl)
  obtain ⟨fuel0, hf0⟩ := h0
  obtain ⟨⟨l0_0, l0_1⟩, ⟨_, _, e0, ⟨A0_0, c0_0, rfl, hc0_0, hC0_0⟩, ⟨A0_1, c0_1, rfl, hc0_1, hC0_1⟩⟩, ⟨w0_0, w0_1⟩⟩ := (Op.opens_struct Try.underlying25 (by kernel_rfl) (Op.opensF_cons (by kernel_rfl) (by kernel_rfl) (Op.opens_slice Try.underlying22 (by kernel_rfl) (Op.opens_int Try.underlying3) 0) (Op.opensF_one (by kernel_rfl) (by kernel_rfl) (Op.opens_slice Try.underlying23 (by kernel_rfl) (Op.opens_struct Try.underlying27 (by kernel_rfl) (Op.opensF_cons (by kernel_rfl) (by kernel_rfl) (Op.opens_int Try.underlying3) (Op.opensF_one (by kernel_rfl) (by kernel_rfl) (Op.opens_int Try.underlying3)))) 0)))) hf0
  obtain rfl : cs0 = #[.slice A0_0 l0_0.length c0_0, .slice A0_1 l0_1.length c0_1] := by cases cs0; simpa [Value.cells] using e0
  have b0_0 : l0_0.length ≤ 9223372036854775807 := (id hC0_0 : ReadsRow _ _ _ _ _ _).2.1
  have b0_1 : l0_1.length ≤ 9223372036854775807 := (id hC0_1 : ReadsRow _ _ _ _ _ _).2.1
  have k1 := h1
  have lt1 : ∀ x ∈ p1, x.block < W.heap.size := by obtain ⟨m, hm⟩ := k1; exact DataW.trod_lt m _ _ _ hm
  obtain ⟨cs1, rfl, _⟩ := okWide_struct Try.underlying27 (hval 1 27 v1 rfl rfl)
  obtain ⟨fuel1, hf1⟩ := h1
  obtain ⟨⟨i1_0, i1_1⟩, ⟨_, _, e1, rfl, rfl⟩, ⟨w1_0, w1_1⟩⟩ := (Op.opens_struct Try.underlying27 (by kernel_rfl) (Op.opensF_cons (by kernel_rfl) (by kernel_rfl) (Op.opens_int Try.underlying3) (Op.opensF_one (by kernel_rfl) (by kernel_rfl) (Op.opens_int Try.underlying3)))) hf1
  obtain rfl : cs1 = #[.int .i64 i1_0, .int .i64 i1_1] := by cases cs1; simpa [Value.cells] using e1
  clear hA0 hval0 hsz0 hsz
  refine (U.law_Deliver A0_0 c0_0 l0_0 A0_1 c0_1 l0_1 i1_0 i1_1 W hC0_0 hc0_0 b0_0 w0_0 hC0_1 hc0_1 b0_1 w0_1 w1_0 w1_1).mono fun e W' ⟨he, bel0⟩ => ?_
  have bel := bel0.out
  subst he
  exact ⟨_, rfl, _, _, _, [], _, [], hW', trodAll_mk1 (shut_bool Try.underlying4 _), (trodAll_cons_mk (Below.trod laidOut (by kernel_rfl) (of_decide_eq_true (by kernel_rfl)) k0 bel lt0) (trodAll_cons_mk (Below.trod laidOut (by kernel_rfl) (of_decide_eq_true (by kernel_rfl)) k1 bel lt1) trodAll_mk0)), rfl, bel.frame _, fun h => by cases h⟩
theorem over : Rows.fnExactDeliverRow.holds Try.pinned (OpenSpec.ofChange Rows.fnExactDeliverSpec) :=
  OpenClaim.holds_of_wide 3 Try.f3 rfl rfl rfl rfl rfl rfl rfl ⟨rfl, rfl, rfl, rfl, rfl⟩ rfl rfl rfl rfl rfl (by kernel_rfl) Try.func3 (by kernel_rfl)
    (of_decide_eq_true (by kernel_rfl)) (by unfold Func.isWrapper; first | (rw [if_pos (by decide +kernel)]; kernel_rfl) | (rw [if_neg (by decide +kernel)]; exact ⟨rfl, rfl⟩))
    (fun os started H enc _ => lifted os started H enc)
theorem proved : Rows.FnExactDeliverSaid := over
#print axioms proved
end Go.Proofs.Ytcdibjneoemidaa.fnExactDeliver
namespace Go.Proofs.Ytcdibjneoemidaa
/-- The row, under a short name, for the claim. -/
theorem fnExactDeliver_holds : Rows.FnExactDeliverSaid := fnExactDeliver.proved
end Go.Proofs.Ytcdibjneoemidaa

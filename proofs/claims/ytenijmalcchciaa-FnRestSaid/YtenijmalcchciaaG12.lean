
/- Parts of a state in a row, by the reference. -/
import Derived.Test.YtenijmalcchciaaG6
import Derived.Test.YtenijmalcchciaaG8
import Derived.Test.YtenijmalcchciaaSs
import Derived.Test.YtenijmalcchciaaLJoinViews
set_option linter.unusedVariables false
set_option linter.unusedSimpArgs false
namespace Go.Proofs.Ytenijmalcchciaa.U
open Go.RowKit Go.Lib Go.Proofs.YtenijmalcchciaaW.PrintWords
open Go.Proofs.YtenijmalcchciaaW.PrintLast Go.Proofs.YtenijmalcchciaaW.PrintMore
def partV (s : Sta) (p q : Nat) : Vf := ⟨s.ro, (p : Int), idF ((s.lv.take q).drop p), (s.ms.take q).drop p, (s.ts.take q).drop p, s.bd, ghosts s p q⟩
def ct (cuts : List Int) (j : Nat) : Nat := (rd cuts (j : Int)).toNat
def parts (s : Sta) (cuts : List Int) : List Vf := (List.range (cuts.length - 1)).map fun j => partV s (ct cuts j) (ct cuts (j + 1))
end Go.Proofs.Ytenijmalcchciaa.U
set_option linter.unusedVariables false
set_option linter.unusedSimpArgs false
namespace Go.Proofs.Ytenijmalcchciaa.U
open Go.RowKit Go.Lib Go.Proofs.YtenijmalcchciaaW.PrintWords
open Go.Proofs.YtenijmalcchciaaW.PrintLast Go.Proofs.YtenijmalcchciaaW.PrintMore
end Go.Proofs.Ytenijmalcchciaa.U
set_option linter.unusedVariables false
set_option linter.unusedSimpArgs false
namespace Go.Proofs.Ytenijmalcchciaa.U
open Go.RowKit Go.Lib Go.Proofs.YtenijmalcchciaaW.PrintWords
theorem VwO.lit0 (w : World) (lo : Nat) (h : lo ≤ w.heap.size) : VwO (w.alloc (.cells #[] 38)) lo (w.alloc (.cells #[] 38)).heap.size (.slice (some ⟨w.heap.size, 0, none⟩) 0 0) 0 [] :=
 (VG.nil _ lo w.heap.size (fun _ => partV sta0 0 0) (World.ownsRow_lit (base := lo) (e := 38) (size := 7) w #[] 0 h (by simp [maxLen]) (by simp))).vwo (L := []) rfl (fun i hi => by omega)
theorem VwO.less {w : World} {lo lo' hi n : Nat} {v : Value} {L : List Vf} (h : VwO w lo hi v n L) (hl : lo' ≤ lo) : VwO w lo' hi v n L := by
 obtain ⟨A, c, rfl, h1, h2, h3⟩ := h
 refine ⟨_, _, rfl, h1, h2, fun h0 => ?_⟩
 obtain ⟨g, cs, b, e, rfl, hb⟩ := h3 h0
 exact ⟨g, cs, b, e, rfl, ⟨hb.blk, ⟨Nat.le_trans hl hb.ing.1, hb.ing.2⟩, hb.size, fun i hi => ⟨Nat.le_trans hl (hb.iv i hi).1, (hb.iv i hi).2⟩, hb.sep, hb.el⟩⟩
end Go.Proofs.Ytenijmalcchciaa.U
set_option linter.unusedVariables false
set_option linter.unusedSimpArgs false
namespace Go.Proofs.Ytenijmalcchciaa.U
open Go.RowKit Go.Lib Go.Proofs.YtenijmalcchciaaW.PrintWords
end Go.Proofs.Ytenijmalcchciaa.U

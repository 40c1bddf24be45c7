
/- A new cursor; one of several numbers; a drawn system. -/
import Derived.Test.YtcdibjneoemidaaDl
import Derived.Test.YtcdibjneoemidaaG7
import Derived.OwnWalk
set_option linter.unusedVariables false
set_option linter.unusedSimpArgs false
namespace Go.Proofs.Ytcdibjneoemidaa.U
open Go.RowKit Go.Lib Go.Proofs.YtcdibjneoemidaaW.PrintWords

set_option maxHeartbeats 2000000 in
theorem l01PickInt (w0 : World) (g : Nat) (B : Option Addr) (m d : Nat) (ls : List Int) (w : World) (h : Cur w0 w g) (hm : 0 < m) (hls : ls.length = m) (hm2 : m ≤ 1000) (hq : ∀ w', w.grownBy w' (some g) → RI w' B m ls) :
    Calls Try.prog 60 #[.pointer (some ⟨g, 0, none⟩), .slice B m d] w fun e w' => (∃ x : Int, e = .returned (.int .i64 x) ∧ x ∈ ls) ∧ Cur w0 w' g ∧ w.grownBy w' (some g) := by
  have HQ := hid hq
  clear hq
  go_enter Try.func60, Try.ntmps60
  go_wp2_with fail
  refine (l01Below w0 g _ _ h).mono ?_
  rintro e w2 ⟨⟨x, rfl, x1, x2⟩, hC2, hG2⟩
  have x2' := x2 (by omega)
  clear x2
  obtain ⟨j, rfl⟩ := Int.eq_ofNat_of_zero_le x1
  obtain ⟨ad, rfl, hc0⟩ := (HQ.out w2 hG2).nat j (by omega)
  have hmem : Hid (rd ls (j : Int) ∈ ls) := hid (by rw [rd_nat, List.getD_eq_getElem?_getD, List.getElem?_eq_getElem (by omega)]; exact List.getElem_mem _)
  generalize rd ls (j : Int) = y at *
  go_wp2
  go_ret
  exact ⟨⟨_, rfl, hmem.out⟩, hC2, hG2⟩
end Go.Proofs.Ytcdibjneoemidaa.U

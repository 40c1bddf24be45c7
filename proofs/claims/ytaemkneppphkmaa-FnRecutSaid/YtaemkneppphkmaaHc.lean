
/- slices.ContainsFunc at the closure of hasCells, in the print's words. -/
import Derived.Test.YtaemkneppphkmaaCf
import Derived.Test.YtaemkneppphkmaaWMore
set_option linter.unusedVariables false
set_option linter.unusedSimpArgs false
namespace Go.Proofs.Ytaemkneppphkmaa.U
open Go.RowKit Go.Lib Go.Proofs.YtaemkneppphkmaaW.PrintWords

theorem impl_isBed (x : Int) (w : World) : Calls Try.prog 75 #[.int .i64 x] w fun e w' => e = .returned (.bool (inR x 0 1000000)) ∧ w = w' := by
  go_enter Try.func75, Try.ntmps75
  go_wp2_with fail
  refine (within _ _ _ _).mono ?_
  rintro e w' ⟨rfl, rfl⟩
  go_wp2
  go_ret
  exact ⟨rfl, rfl⟩
theorem bed_pred (w : World) : PredI 95 #[] (fun x => !inR x 0 1000000) w := ⟨fun W x d => by
  go_enter Try.func95, Try.ntmps95
  go_wp2_with fail
  refine (impl_isBed _ _).mono ?_
  rintro e w' ⟨rfl, rfl⟩
  go_wp2
  go_ret
  exact ⟨rfl, Drawn0.refl _⟩⟩
theorem ri_of_C {w : World} {A : Option Addr} {l : List Int} (h : Kd.C (Kd.int .i64) w A l.length l) : RI w A l.length l := ⟨⟨rfl, (id h : ReadsRow _ _ _ _ _ _).2.1, fun hn => by
  obtain ⟨ad, e, hc⟩ := (id h : ReadsRow _ _ _ _ _ _).2.2 hn
  refine ⟨ad, e, fun j hj => ?_⟩
  obtain ⟨c, hl, hk, hcell⟩ := hc j _ (List.getElem?_eq_getElem hj)
  have hk' : c = [.int .i64 l[j]] := hk
  subst hk'
  have := hcell 0 _ rfl
  rw [List.getD_eq_getElem?_getD, List.getElem?_eq_getElem hj]
  simpa [Kd.int, Kd.scalar] using this⟩⟩
theorem beds_Contains (A : Option Addr) (c : Nat) (l : List Int) (r : Bool) (w : World) (h : Kd.C (Kd.int .i64) w A l.length l) (hr : l.any (fun x => !inR x 0 1000000) = r) :
    Calls Try.prog 61 #[.slice A l.length c, .func (.func 95) #[] #[]] w fun e w' => e = .returned (.bool r) ∧ Drawn0 w w' := by
  have eg := enters_of Try.func95 (by kernel_rfl) rfl
  refine (ContainsFunc A _ c l _ _ _ _ (ri_of_C h) (bed_pred _) eg).mono ?_
  rintro e w' ⟨rfl, d⟩
  exact ⟨by rw [hr], d⟩
end Go.Proofs.Ytaemkneppphkmaa.U

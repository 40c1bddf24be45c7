
/- What the laws' arguments read as: views and states. -/
import Derived.Test.YtkhjkcefkampkaaVw
import Derived.Test.YtkhjkcefkampkaaOp
import Derived.Test.YtkhjkcefkampkaaJv
set_option linter.unusedVariables false
set_option linter.unusedSimpArgs false
namespace Go.Proofs.Ytkhjkcefkampkaa.U
open Go.RowKit Go.Lib Go.Proofs.YtkhjkcefkampkaaW.PrintWords
open Go.Proofs.YtkhjkcefkampkaaW.PrintLast Go.Proofs.YtkhjkcefkampkaaW.PrintMore
abbrev TC := Int × Int × Int
abbrev TV := Int × Int × List TC × List Int × List Int × List Int × List Int
abbrev kI : Kd Int := Kd.int .i64
abbrev kC : Kd TC := Kd.pair kI (Kd.pair kI kI)
abbrev kV : Kd TV := Kd.pair kI (Kd.pair kI (Kd.pair (Kd.slice 0 kC) (Kd.pair (Kd.slice 0 kI) (Kd.pair (Kd.slice 0 kI) (Kd.pair (Kd.slice 0 kI) (Kd.slice 0 kI))))))
def ceOf (p : TC) : Ce := ⟨p.1, p.2.1, p.2.2⟩
def vfOf (x : TV) : Vf := ⟨x.1, x.2.1, idF (x.2.2.1.map ceOf), x.2.2.2.1, x.2.2.2.2.1, x.2.2.2.2.2.1, x.2.2.2.2.2.2⟩
theorem RI.of_C {w : World} {A : Option Addr} {n : Nat} {l : List Int} (h : Kd.C kI w A n l) : RI w A n l := ⟨⟨h.1, h.2.1, fun hn => by
 obtain ⟨ad, e, hc⟩ := h.2.2 hn
 refine ⟨ad, e, fun j hj => ?_⟩
 have hl := h.1
 obtain ⟨cs, _, hk, hu⟩ := hc j (l.getD j 0) (by rw [List.getD_eq_getElem?_getD, List.getElem?_eq_getElem (by omega)]; rfl)
 have hk2 : cs = [.int .i64 (l.getD j 0)] := hk
 subst hk2
 have h0 : w.cell? (ad.add (j * 1 + 0)) = _ := hu 0 _ rfl
 rwa [Nat.mul_one, Nat.add_zero] at h0⟩⟩
theorem IdR.of_C {w : World} {A : Option Addr} {n : Nat} {l : List TC} (h : Kd.C kC w A n l) : IdR w A n (l.map ceOf) := ⟨⟨by rw [List.length_map]; exact h.1, h.2.1, fun hn => by
 obtain ⟨ad, e, hc⟩ := h.2.2 hn
 refine ⟨ad, e, fun j p hp => ?_⟩
 rw [List.getElem?_map, Option.map_eq_some_iff] at hp
 obtain ⟨q, hq, rfl⟩ := hp
 obtain ⟨cs, h3, hk, hu⟩ := hc j q hq
 obtain ⟨c0, c1, rfl, hk0, c2, c3, rfl, hk1, hk2⟩ := hk
 have e0 : c0 = [.int .i64 q.1] := hk0
 have e1 : c2 = [.int .i64 q.2.1] := hk1
 have e2 : c3 = [.int .i64 q.2.2] := hk2
 subst e0 e1 e2
 exact ⟨_, rfl, rfl, hu⟩⟩⟩
theorem VwR.of_C {w : World} {A : Option Addr} {n : Nat} {l : List TV} (h : Kd.C kV w A n l) : VwR w A n (l.map vfOf) := ⟨by rw [List.length_map]; exact h.1, h.2.1, fun hn => by
 obtain ⟨ad, e, hc⟩ := h.2.2 hn
 have hl := h.1
 refine ⟨ad, e, fun j hj => ?_⟩
 have hq : l[j]? = some l[j] := List.getElem?_eq_getElem (by omega)
 have hg : gv (l.map vfOf) j = vfOf l[j] := by rw [gv_at (by rw [List.length_map]; omega), List.getElem_map]
 rw [hg]
 obtain ⟨cs, _, hk, hu⟩ := hc j _ hq
 generalize l[j] = q at *
 obtain ⟨c0, c0', rfl, hk0, c1, c1', rfl, hk1, c2, c2', rfl, ⟨Al, cl, rfl, hcl, hCl⟩, c3, c3', rfl, ⟨Am, cm, rfl, hcm, hCm⟩, c4, c4', rfl, ⟨At, ct, rfl, hct, hCt⟩, c5, c5', rfl, ⟨Ab, cb, rfl, hcb, hCb⟩, ⟨Ag, cg, rfl, hcg, hCg⟩⟩ := hk
 have e0 : c0 = [.int .i64 q.1] := hk0
 have e1 : c1 = [.int .i64 q.2.1] := hk1
 subst e0 e1
 refine ⟨Al, _, cl, Am, _, cm, At, _, ct, Ab, _, cb, Ag, _, cg, ?_, ?_, ?_, ?_, ?_, ?_, ?_, ⟨hcl, hcm, hct, hcb, hcg⟩, ⟨(IdR.of_C hCl).fr, RI.of_C hCm, RI.of_C hCt, RI.of_C hCb, RI.of_C hCg⟩⟩
 ·have h0 : w.cell? (ad.add (j * 7 + 0)) = _ := hu 0 _ rfl
  rwa [Nat.add_zero] at h0
 ·have h0 : w.cell? (ad.add (j * 7 + 1)) = _ := hu 1 _ rfl
  rwa [add_field _ _ _ (by omega)] at h0
 ·have h0 : w.cell? (ad.add (j * 7 + 2)) = _ := hu 2 _ rfl
  rwa [add_field _ _ _ (by omega)] at h0
 ·have h0 : w.cell? (ad.add (j * 7 + 3)) = _ := hu 3 _ rfl
  rwa [add_field _ _ _ (by omega)] at h0
 ·have h0 : w.cell? (ad.add (j * 7 + 4)) = _ := hu 4 _ rfl
  rwa [add_field _ _ _ (by omega)] at h0
 ·have h0 : w.cell? (ad.add (j * 7 + 5)) = _ := hu 5 _ rfl
  rwa [add_field _ _ _ (by omega)] at h0
 ·have h0 : w.cell? (ad.add (j * 7 + 6)) = _ := hu 6 _ rfl
  rwa [add_field _ _ _ (by omega)] at h0⟩
end Go.Proofs.Ytkhjkcefkampkaa.U

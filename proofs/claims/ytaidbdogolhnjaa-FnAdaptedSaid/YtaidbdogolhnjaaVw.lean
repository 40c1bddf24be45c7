
/- Views: sizes, comparison. -/
import Derived.Test.YtaidbdogolhnjaaG3
set_option linter.unusedVariables false
set_option linter.unusedSimpArgs false
namespace Go.Proofs.Ytaidbdogolhnjaa.U
open Go.RowKit Go.Lib Go.Proofs.YtaidbdogolhnjaaW.PrintWords

/-- a view: its numbers, all flat -/
structure Vf where
  ro : Int
  fr : Int
  lf : List Int
  ms : List Int
  ts : List Int
  bd : List Int
  gh : List Int
def vz : Vf := ⟨0, 0, [], [], [], [], []⟩
def gv (L : List Vf) (j : Nat) : Vf := L.getD j vz
theorem gv_at {L : List Vf} {j : Nat} (h : j < L.length) : gv L j = L[j] := by rw [gv, List.getD_eq_getElem?_getD, List.getElem?_eq_getElem h]; rfl
/-- the five slices of a view are read -/
structure VA (w : World) (Al : Option Addr) (nl : Nat) (Am : Option Addr) (nm : Nat) (At : Option Addr) (nt : Nat) (Ab : Option Addr) (nb : Nat) (Ag : Option Addr) (ng : Nat) (x : Vf) : Prop where
  l : FR w 3 Al nl x.lf
  m : RI w Am nm x.ms
  t : RI w At nt x.ts
  b : RI w Ab nb x.bd
  g : RI w Ag ng x.gh
/-- a view's cells at an address -/
def VC (w : World) (ad : Addr) (x : Vf) : Prop := ∃ (Al : Option Addr) (nl cl : Nat) (Am : Option Addr) (nm cm : Nat) (At : Option Addr) (nt ct : Nat) (Ab : Option Addr) (nb cb : Nat) (Ag : Option Addr) (ng cg : Nat),
    w.cell? ad = some (.int .i64 x.ro) ∧ w.cell? ⟨ad.block, ad.off + 1, none⟩ = some (.int .i64 x.fr) ∧
    w.cell? ⟨ad.block, ad.off + 2, none⟩ = some (.slice Al nl cl) ∧
    w.cell? ⟨ad.block, ad.off + 3, none⟩ = some (.slice Am nm cm) ∧
    w.cell? ⟨ad.block, ad.off + 4, none⟩ = some (.slice At nt ct) ∧
    w.cell? ⟨ad.block, ad.off + 5, none⟩ = some (.slice Ab nb cb) ∧
    w.cell? ⟨ad.block, ad.off + 6, none⟩ = some (.slice Ag ng cg) ∧ (nl ≤ cl ∧ nm ≤ cm ∧ nt ≤ ct ∧ nb ≤ cb ∧ ng ≤ cg) ∧ VA w Al nl Am nm At nt Ab nb Ag ng x
/-- a slice of views is read -/
structure VwR (w : World) (A : Option Addr) (n : Nat) (L : List Vf) : Prop where
  len : L.length = n
  max : n ≤ 9223372036854775807
  at_ : 0 < n → ∃ ad, A = some ad ∧ ∀ j, j < n → VC w (ad.add (j * 7)) (gv L j)
theorem VA.to {w w' : World} {Al : Option Addr} {nl : Nat} {Am : Option Addr} {nm : Nat} {At : Option Addr} {nt : Nat} {Ab : Option Addr} {nb : Nat} {Ag : Option Addr} {ng : Nat} {x : Vf} (h : VA w Al nl Am nm At nt Ab nb Ag ng x) (b : Bw w w') : VA w' Al nl Am nm At nt Ab nb Ag ng x := ⟨h.l.to b, h.m.to b, h.t.to b, h.b.to b, h.g.to b⟩
theorem VC.to {w w' : World} {ad : Addr} {x : Vf} (h : VC w ad x) (b : Bw w w') : VC w' ad x := by
  obtain ⟨Al, nl, cl, Am, nm, cm, At, nt, ct, Ab, nb, cb, Ag, ng, cg, k0, k1, k2, k3, k4, k5, k6, hc, hv⟩ := h
  exact ⟨Al, nl, cl, Am, nm, cm, At, nt, ct, Ab, nb, cb, Ag, ng, cg, pw_cell_below b.out k0, pw_cell_below b.out k1, pw_cell_below b.out k2, pw_cell_below b.out k3, pw_cell_below b.out k4, pw_cell_below b.out k5, pw_cell_below b.out k6, hc, hv.to b⟩
theorem VwR.to {w w' : World} {A : Option Addr} {n : Nat} {L : List Vf} (h : VwR w A n L) (b : Bw w w') : VwR w' A n L := ⟨h.len, h.max, fun hn => by
  obtain ⟨ad, e, hc⟩ := h.at_ hn
  exact ⟨ad, e, fun j hj => (hc j hj).to b⟩⟩
theorem VwR.nat {w : World} {A : Option Addr} {n : Nat} {L : List Vf} (h : VwR w A n L) (j : Nat) (hj : j < n) : ∃ ad, A = some ad ∧ VC w (ad.add (j * 7)) (gv L j) := by
  obtain ⟨ad, e, hc⟩ := h.at_ (by omega)
  exact ⟨ad, e, hc j hj⟩
/-- what szViewS counts of a view -/
def vsz (x : Vf) : Nat := x.lf.length / 3 + x.ms.length + x.ts.length + x.bd.length + x.gh.length
def szTo (L : List Vf) : Nat → Nat
  | 0 => 0
  | j + 1 => szTo L j + vsz (gv L j)
/-- what szViewS answers says that there is not much -/
def Sized (n : Nat) (L : List Vf) (w : World) (e : Ending) (w' : World) : Prop := ∃ r : Int, e = .returned (.int .i64 r) ∧ r ≤ 1048576 ∧ (0 ≤ r → n + szTo L n ≤ 1048576) ∧ Bw w w'
theorem unF : ∀ (n : Nat) (F : List Int), F.length = n * 3 → ∃ l, idF l = F ∧ l.length = n
  | 0, F, h => ⟨[], by rw [List.length_eq_zero_iff.1 (by omega : F.length = 0)]; rfl, rfl⟩
  | n + 1, a :: b :: c :: F, h => by
    obtain ⟨l, h1, h2⟩ := unF n F (by simp at h; omega)
    exact ⟨⟨a, b, c⟩ :: l, by rw [idF_cons, h1], by simp [h2]⟩
  | n + 1, [], h => by simp at h
  | n + 1, [_], h => by simp at h; omega
  | n + 1, [_, _], h => by simp at h; omega
end Go.Proofs.Ytaidbdogolhnjaa.U

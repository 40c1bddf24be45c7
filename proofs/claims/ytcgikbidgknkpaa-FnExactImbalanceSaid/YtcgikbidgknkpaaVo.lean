
/- The law's look at marks in views. -/
import Derived.Test.YtcgikbidgknkpaaVn
set_option linter.unusedVariables false
set_option linter.unusedSimpArgs false
namespace Go.Proofs.Ytcgikbidgknkpaa.U
open Go.RowKit Go.Lib Go.Proofs.YtcgikbidgknkpaaW.PrintWords

theorem heldRowI (A : Option Addr) (n c : Nat) (a r : Int) (w : World) (h : FR w 3 A n (iota (n * 3) a)) (hn : n ≤ 1048576) (h0 : 0 ≤ a) (ha : a ≤ 1000000000000) (hr : a + (n * 3 : Nat) = r) :
    Calls Try.prog 51 #[.slice A n c, .int .i64 a] w fun e w' => e = .returned (.int .i64 r) ∧ w = w' := by
  subst hr
  exact heldIdS A n c a w h hn h0 ha
theorem heldRowN (A : Option Addr) (n c : Nat) (a r : Int) (w : World) (h : RI w A n (iota n a)) (hn : n ≤ 1048576) (h0 : 0 ≤ a) (ha : a ≤ 1000000000000) (hr : a + (n : Nat) = r) :
    Calls Try.prog 29 #[.slice A n c, .int .i64 a] w fun e w' => e = .returned (.int .i64 r) ∧ Drawn0 w w' := by
  subst hr
  exact heldIntS A n c a w h hn h0 ha
set_option maxHeartbeats 8000000 in
set_option maxRecDepth 100000 in
theorem heldViewS (A : Option Addr) (n c : Nat) (L : List Vf) (a : Int) (w : World) (r : VwR w A n (markL L a)) (hl : L.length = n) (hs : Short L) (h0 : 0 ≤ a) (ha : a ≤ 1000000000) (ho : offs L n ≤ 1000000000) :
    Calls Try.prog 24 #[.slice A n c, .int .i64 a] w fun e w' => e = .returned (.int .i64 (a + offs L n)) ∧ Bw w w' := by
  have hmax := r.max
  have HL := hid hl
  have HS := hid hs
  have HO := hid ho
  clear hl hs ho
  go_enter Try.func24, Try.ntmps24
  go_wp2
  go_loopw [1, 5] (fun v1 v5 wr => ∃ (k : Nat) (bb : Int), k ≤ n ∧ (0 ≤ bb ∧ bb ≤ 2000000000) ∧ v1 = .int .i64 bb ∧ v5 = .int .i64 k ∧ Hid (bb = a + offs L k) ∧ Bw w wr) (fun _ v5 _ => n - (intOf v5).toNat)
  case atStart => exact ⟨0, a, by omega, by omega, rfl, rfl, hid (by simp [offs]), Bw.refl _⟩
  case round =>
    obtain ⟨k, bb, hk, hbb, rfl, rfl, hE, hB⟩ := hrel
    by_cases hlt : k < n
    · have t1 : decide ((k : Int) < (n : Int)) = true := decide_eq_true (by omega)
      obtain ⟨ad, rfl, Al, nl, cl, Am, nm, cm, At, nt, ct, Ab, nb, cb, Ag, ng, cg, x0, x1, x2, x3, x4, x5, x6, _, hv⟩ := (r.to hB).nat k hlt
      rw [markL_at L a k (by rw [HL.out]; exact hlt)] at hv x0 x1
      obtain ⟨x, hx⟩ : ∃ x, gv L k = x := ⟨_, rfl⟩
      have hshort := HS.out.out k (by rw [HL.out]; exact hlt)
      rw [hx] at hshort
      have hm : mvL L a k = mkV x (a + offs L k) := by rw [mvL, hx]
      rw [hm] at hv x0 x1
      have l1 := hv.l.len
      have l2 := hv.m.len
      have l3 := hv.t.len
      have l4 := hv.b.len
      have l5 := hv.g.len
      simp only [mkV, iota_length] at l1 l2 l3 l4 l5
      have hll : nl ≤ 1048576 := by omega
      have hlm : nm ≤ 1048576 := by omega
      have hlt' : nt ≤ 1048576 := by omega
      have hlb : nb ≤ 1048576 := by omega
      have hlg : ng ≤ 1048576 := by omega
      have hsz : msz x = 2 + nl * 3 + nm + nt + nb + ng := by rw [msz]; omega
      have hoff : offs L (k + 1) = offs L k + msz x := by rw [offs, hx]
      have hle := offs_mono L n (k + 1) (by omega)
      have hEE := hE.out
      have hHO := HO.out
      obtain ⟨p0, e0⟩ : ∃ p0, Hid (bb + 1 + 1 = p0) := ⟨_, hid rfl⟩
      obtain ⟨p1, e1⟩ : ∃ p1, Hid (p0 + (nl * 3 : Nat) = p1) := ⟨_, hid rfl⟩
      obtain ⟨p2, e2⟩ : ∃ p2, Hid (p1 + (nm : Nat) = p2) := ⟨_, hid rfl⟩
      obtain ⟨p3, e3⟩ : ∃ p3, Hid (p2 + (nt : Nat) = p3) := ⟨_, hid rfl⟩
      obtain ⟨p4, e4⟩ : ∃ p4, Hid (p3 + (nb : Nat) = p4) := ⟨_, hid rfl⟩
      obtain ⟨p5, e5⟩ : ∃ p5, Hid (p4 + (ng : Nat) = p5) := ⟨_, hid rfl⟩
      have hp : (0 ≤ p0 ∧ p0 ≤ 3000000000) ∧ (0 ≤ p1 ∧ p1 ≤ 3000000000) ∧ (0 ≤ p2 ∧ p2 ≤ 3000000000) ∧ (0 ≤ p3 ∧ p3 ≤ 3000000000) ∧ (0 ≤ p4 ∧ p4 ≤ 3000000000) ∧ (0 ≤ p5 ∧ p5 ≤ 2000000000) ∧ p5 = a + offs L (k + 1) := by
        have := e0.out; have := e1.out; have := e2.out; have := e3.out; have := e4.out; have := e5.out
        omega
      have hmv : mkV x (a + offs L k) = ⟨bb, bb + 1, iota (nl * 3) p0, iota nm p1, iota nt p2, iota nb p3, iota ng p4⟩ := by
        have q0 := e0.out; have q1 := e1.out; have q2 := e2.out; have q3 := e3.out; have q4 := e4.out
        rw [mkV, ← hEE]
        simp only [Vf.mk.injEq]
        rw [show x.lf.length = nl * 3 by omega, show x.ms.length = nm by omega, show x.ts.length = nt by omega, show x.bd.length = nb by omega, show x.gh.length = ng by omega]
        refine ⟨trivial, trivial, ?_, ?_, ?_, ?_, ?_⟩ <;> congr 1 <;> omega
      rw [hmv] at hv x0 x1
      obtain ⟨q1, q2, q3, q4, q5⟩ := hv
      simp only at q1 q2 q3 q4 q5 x0 x1
      have HP5 := hid hp.2.2.2.2.2.2
      have hq5 := hp.2.2.2.2.2.1
      have hpp := And.intro hp.1 (And.intro hp.2.1 (And.intro hp.2.2.1 (And.intro hp.2.2.2.1 hp.2.2.2.2.1)))
      have E0 := e0.out
      have n0 : (bb != bb) = false := by simp
      have n1 : (bb + 1 != bb + 1) = false := by simp
      have n2 : decide (p1 < 0) = false := decide_eq_false (by omega)
      have n3 : decide (p2 < 0) = false := decide_eq_false (by omega)
      have n4 : decide (p3 < 0) = false := decide_eq_false (by omega)
      have n5 : decide (p4 < 0) = false := decide_eq_false (by omega)
      have n6 : decide (p5 < 0) = false := decide_eq_false (by omega)
      clear hp hsz hoff hle hEE hHO l1 l2 l3 l4 l5 hshort hE hm hmv hx
      go_wp2_with fail
      refine (heldRowI Al nl cl p0 p1 _ q1 hll (by omega) (by omega) e1.out).mono ?_
      rintro e_ w3 ⟨rfl, rfl⟩
      go_wp2_with fail
      refine (heldRowN Am nm cm p1 p2 _ q2 hlm (by omega) (by omega) e2.out).mono ?_
      rintro e_ w3 ⟨rfl, d1⟩
      have b1 := Bw.drawn d1
      replace q3 := q3.to b1
      replace q4 := q4.to b1
      replace q5 := q5.to b1
      replace x0 := pw_cell_below b1.out x0
      replace x1 := pw_cell_below b1.out x1
      replace x2 := pw_cell_below b1.out x2
      replace x3 := pw_cell_below b1.out x3
      replace x4 := pw_cell_below b1.out x4
      replace x5 := pw_cell_below b1.out x5
      replace x6 := pw_cell_below b1.out x6
      replace hB := hB.trans b1
      clear b1 d1
      go_wp2_with fail
      refine (heldRowN At nt ct p2 p3 _ q3 hlt' (by omega) (by omega) e3.out).mono ?_
      rintro e_ w3 ⟨rfl, d1⟩
      have b1 := Bw.drawn d1
      replace q4 := q4.to b1
      replace q5 := q5.to b1
      replace x0 := pw_cell_below b1.out x0
      replace x1 := pw_cell_below b1.out x1
      replace x2 := pw_cell_below b1.out x2
      replace x3 := pw_cell_below b1.out x3
      replace x4 := pw_cell_below b1.out x4
      replace x5 := pw_cell_below b1.out x5
      replace x6 := pw_cell_below b1.out x6
      replace hB := hB.trans b1
      clear b1 d1
      go_wp2_with fail
      refine (heldRowN Ab nb cb p3 p4 _ q4 hlb (by omega) (by omega) e4.out).mono ?_
      rintro e_ w3 ⟨rfl, d1⟩
      have b1 := Bw.drawn d1
      replace q5 := q5.to b1
      replace x0 := pw_cell_below b1.out x0
      replace x1 := pw_cell_below b1.out x1
      replace x2 := pw_cell_below b1.out x2
      replace x3 := pw_cell_below b1.out x3
      replace x4 := pw_cell_below b1.out x4
      replace x5 := pw_cell_below b1.out x5
      replace x6 := pw_cell_below b1.out x6
      replace hB := hB.trans b1
      clear b1 d1
      go_wp2_with fail
      refine (heldRowN Ag ng cg p4 p5 _ q5 hlg (by omega) (by omega) e5.out).mono ?_
      rintro e_ w3 ⟨rfl, d1⟩
      have b1 := Bw.drawn d1
      replace x0 := pw_cell_below b1.out x0
      replace x1 := pw_cell_below b1.out x1
      replace x2 := pw_cell_below b1.out x2
      replace x3 := pw_cell_below b1.out x3
      replace x4 := pw_cell_below b1.out x4
      replace x5 := pw_cell_below b1.out x5
      replace x6 := pw_cell_below b1.out x6
      replace hB := hB.trans b1
      clear b1 d1
      go_wp2
      go_roundw
      case rel => exact ⟨k + 1, p5, by omega, hq5, rfl, by go_num, HP5, hB⟩
      case measure => simp [intOf]; omega
    · obtain rfl : k = n := by omega
      have t1 : decide ((k : Int) < (k : Int)) = false := decide_eq_false (by omega)
      go_wp2
      go_ret
      exact ⟨ret_int hE.out, hB⟩
end Go.Proofs.Ytcgikbidgknkpaa.U

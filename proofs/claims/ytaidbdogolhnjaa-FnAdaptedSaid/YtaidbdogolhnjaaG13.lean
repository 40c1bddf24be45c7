
/- The reference's comparison of equal states. -/
import Derived.Test.YtaidbdogolhnjaaG22
import Derived.Test.YtaidbdogolhnjaaEq
import Derived.Test.YtaidbdogolhnjaaWEqStruct
import Derived.Test.YtaidbdogolhnjaaG7
set_option linter.unusedVariables false
set_option linter.unusedSimpArgs false
namespace Go.Proofs.Ytaidbdogolhnjaa.U
open Go.RowKit Go.Lib Go.Proofs.YtaidbdogolhnjaaW.PrintWords

open Go.Proofs.YtaidbdogolhnjaaW.PrintLast Go.Proofs.YtaidbdogolhnjaaW.PrintMore
theorem eqA_id (d : Nat) (w : World) (x0 y0 x1 y1 x2 y2 : Int) :
    (Op.equalIn (d + 2) 58 (.agg #[.int .i64 x0, .int .i64 x1, .int .i64 x2]) (.agg #[.int .i64 y0, .int .i64 y1, .int .i64 y2])).run Try.prog w = .ok (x0 == y0 && (x1 == y1 && (x2 == y2))) w := by
  refine eqA_of Try.underlying58 (by kernel_rfl) ?_
  refine eqf_cons (by rfl) (by go_simp; rfl) (by go_simp; rfl) (by go_simp) ?_
  refine eqf_cons (by rfl) (by go_simp; rfl) (by go_simp; rfl) (by go_simp) ?_
  exact eqf_last (by rfl) (by go_simp; rfl) (by go_simp; rfl) (by go_simp)
attribute [local go_sem] eqA_id
set_option maxHeartbeats 4000000 in
set_option maxRecDepth 100000 in
theorem spec_SameMesh_yes (ro : Int) (A : Option Addr) (n c : Nat) (B : Option Addr) (d : Nat) (l : List Ce) (w : World) (r : IdR w A n l) (q : IdR w B n l) :
    Calls Try.prog 22 #[.agg #[.int .i64 ro, .slice A n c], .agg #[.int .i64 ro, .slice B n d]] w fun e w' => e = .returned (.bool true) ∧ Bw w w' := by
  have hmx := r.max
  have b0 := (Bw.box1 w (.cells #[.int .i64 ro, .slice A n c] 26)).alloc (.cells #[.int .i64 ro, .slice B n d] 26)
  have g0 := box_cell ((Bw.refl (w.alloc (.cells #[.int .i64 ro, .slice A n c] 26))).alloc (.cells #[.int .i64 ro, .slice B n d] 26)) 0
  have g1 := box_cell ((Bw.refl (w.alloc (.cells #[.int .i64 ro, .slice A n c] 26))).alloc (.cells #[.int .i64 ro, .slice B n d] 26)) 1
  have k0 := box_cell (Bw.refl ((w.alloc (.cells #[.int .i64 ro, .slice A n c] 26)).alloc (.cells #[.int .i64 ro, .slice B n d] 26))) 0
  have k1 := box_cell (Bw.refl ((w.alloc (.cells #[.int .i64 ro, .slice A n c] 26)).alloc (.cells #[.int .i64 ro, .slice B n d] 26))) 1
  simp only [List.getElem?_toArray, List.getElem?_cons_zero, List.getElem?_cons_succ] at g0 g1 k0 k1
  rw [show (w.alloc (.cells #[.int .i64 ro, .slice A n c] 26)).heap.size = w.heap.size + 1 by simp] at k0 k1
  have t0 : (ro != ro) = false := by simp
  have t1 : ((n : Int) != (n : Int)) = false := by simp
  go_enter Try.func22, Try.ntmps22
  go_wp2
  generalize ((w.alloc (.cells #[.int .i64 ro, .slice A n c] 26)).alloc (.cells #[.int .i64 ro, .slice B n d] 26)) = W1 at *
  go_loopw [5] (fun v5 wr => ∃ j : Nat, j ≤ n ∧ v5 = .int .i64 j ∧ Hid (Bw W1 wr)) (fun v5 _ => n - (intOf v5).toNat)
  case atStart => exact ⟨0, by omega, rfl, hid (Bw.refl _)⟩
  case round =>
    obtain ⟨j, hj, rfl, hB⟩ := hrel
    replace g0 := pw_cell_below hB.out.out g0
    replace g1 := pw_cell_below hB.out.out g1
    replace k0 := pw_cell_below hB.out.out k0
    replace k1 := pw_cell_below hB.out.out k1
    by_cases hlt : j < n
    · have u1 : decide ((j : Int) < (n : Int)) = true := decide_eq_true (by omega)
      obtain ⟨ad, rfl, x0, x1, x2⟩ := ((r.to b0).to hB.out).at j hlt
      obtain ⟨ae, rfl, y0, y1, y2⟩ := ((q.to b0).to hB.out).at j hlt
      generalize gc l j = z at *
      have i4 : (0 : Int) ≤ (j : Int) := by omega
      have i5 : (j : Int) < (n : Int) := by omega
      go_wp2
      go_quiet (fail)
      go_wp2
      go_roundw
      case rel => exact ⟨j + 1, by omega, by go_num, hid (hB.out.trans (Bw.drawn ⟨⟨_, rfl⟩⟩))⟩
      case measure => simp [intOf]; omega
    · obtain rfl : j = n := by omega
      have u1 : decide ((j : Int) < (j : Int)) = false := decide_eq_false (by omega)
      go_wp2
      go_ret
      exact ⟨rfl, b0.trans hB.out⟩
set_option maxHeartbeats 4000000 in
theorem spec_SameState_yes (x y : Value) (s : Sta) (w : World) (hx : StR w x s) (hy : StR w y s) :
    Calls Try.prog 10 #[x, y] w fun e w' => e = .returned (.bool true) ∧ Bw w w' := by
  obtain ⟨A0, c0, A1, c1, A2, c2, A3, c3, rfl, r0, r1, r2, r3⟩ := hx
  obtain ⟨B0, d0, B1, d1, B2, d2, B3, d3, rfl, q0, q1, q2, q3⟩ := hy
  have g0 := box_cell ((Bw.refl (w.alloc (.cells #[.int .i64 s.ro, .slice A0 s.lv.length c0, .slice A1 s.ms.length c1, .slice A2 s.ts.length c2, .slice A3 s.bd.length c3] 29))).alloc (.cells #[.int .i64 s.ro, .slice B0 s.lv.length d0, .slice B1 s.ms.length d1, .slice B2 s.ts.length d2, .slice B3 s.bd.length d3] 29)) 0
  have g1 := box_cell ((Bw.refl (w.alloc (.cells #[.int .i64 s.ro, .slice A0 s.lv.length c0, .slice A1 s.ms.length c1, .slice A2 s.ts.length c2, .slice A3 s.bd.length c3] 29))).alloc (.cells #[.int .i64 s.ro, .slice B0 s.lv.length d0, .slice B1 s.ms.length d1, .slice B2 s.ts.length d2, .slice B3 s.bd.length d3] 29)) 1
  have g2 := box_cell ((Bw.refl (w.alloc (.cells #[.int .i64 s.ro, .slice A0 s.lv.length c0, .slice A1 s.ms.length c1, .slice A2 s.ts.length c2, .slice A3 s.bd.length c3] 29))).alloc (.cells #[.int .i64 s.ro, .slice B0 s.lv.length d0, .slice B1 s.ms.length d1, .slice B2 s.ts.length d2, .slice B3 s.bd.length d3] 29)) 2
  have g3 := box_cell ((Bw.refl (w.alloc (.cells #[.int .i64 s.ro, .slice A0 s.lv.length c0, .slice A1 s.ms.length c1, .slice A2 s.ts.length c2, .slice A3 s.bd.length c3] 29))).alloc (.cells #[.int .i64 s.ro, .slice B0 s.lv.length d0, .slice B1 s.ms.length d1, .slice B2 s.ts.length d2, .slice B3 s.bd.length d3] 29)) 3
  have g4 := box_cell ((Bw.refl (w.alloc (.cells #[.int .i64 s.ro, .slice A0 s.lv.length c0, .slice A1 s.ms.length c1, .slice A2 s.ts.length c2, .slice A3 s.bd.length c3] 29))).alloc (.cells #[.int .i64 s.ro, .slice B0 s.lv.length d0, .slice B1 s.ms.length d1, .slice B2 s.ts.length d2, .slice B3 s.bd.length d3] 29)) 4
  have k0 := box_cell (Bw.refl ((w.alloc (.cells #[.int .i64 s.ro, .slice A0 s.lv.length c0, .slice A1 s.ms.length c1, .slice A2 s.ts.length c2, .slice A3 s.bd.length c3] 29)).alloc (.cells #[.int .i64 s.ro, .slice B0 s.lv.length d0, .slice B1 s.ms.length d1, .slice B2 s.ts.length d2, .slice B3 s.bd.length d3] 29))) 0
  have k1 := box_cell (Bw.refl ((w.alloc (.cells #[.int .i64 s.ro, .slice A0 s.lv.length c0, .slice A1 s.ms.length c1, .slice A2 s.ts.length c2, .slice A3 s.bd.length c3] 29)).alloc (.cells #[.int .i64 s.ro, .slice B0 s.lv.length d0, .slice B1 s.ms.length d1, .slice B2 s.ts.length d2, .slice B3 s.bd.length d3] 29))) 1
  have k2 := box_cell (Bw.refl ((w.alloc (.cells #[.int .i64 s.ro, .slice A0 s.lv.length c0, .slice A1 s.ms.length c1, .slice A2 s.ts.length c2, .slice A3 s.bd.length c3] 29)).alloc (.cells #[.int .i64 s.ro, .slice B0 s.lv.length d0, .slice B1 s.ms.length d1, .slice B2 s.ts.length d2, .slice B3 s.bd.length d3] 29))) 2
  have k3 := box_cell (Bw.refl ((w.alloc (.cells #[.int .i64 s.ro, .slice A0 s.lv.length c0, .slice A1 s.ms.length c1, .slice A2 s.ts.length c2, .slice A3 s.bd.length c3] 29)).alloc (.cells #[.int .i64 s.ro, .slice B0 s.lv.length d0, .slice B1 s.ms.length d1, .slice B2 s.ts.length d2, .slice B3 s.bd.length d3] 29))) 3
  have k4 := box_cell (Bw.refl ((w.alloc (.cells #[.int .i64 s.ro, .slice A0 s.lv.length c0, .slice A1 s.ms.length c1, .slice A2 s.ts.length c2, .slice A3 s.bd.length c3] 29)).alloc (.cells #[.int .i64 s.ro, .slice B0 s.lv.length d0, .slice B1 s.ms.length d1, .slice B2 s.ts.length d2, .slice B3 s.bd.length d3] 29))) 4
  simp only [List.getElem?_toArray, List.getElem?_cons_zero, List.getElem?_cons_succ] at g0 g1 g2 g3 g4 k0 k1 k2 k3 k4
  rw [show (w.alloc (.cells #[.int .i64 s.ro, .slice A0 s.lv.length c0, .slice A1 s.ms.length c1, .slice A2 s.ts.length c2, .slice A3 s.bd.length c3] 29)).heap.size = w.heap.size + 1 by simp] at k0 k1 k2 k3 k4
  have b0 := (Bw.box1 w (.cells #[.int .i64 s.ro, .slice A0 s.lv.length c0, .slice A1 s.ms.length c1, .slice A2 s.ts.length c2, .slice A3 s.bd.length c3] 29)).alloc (.cells #[.int .i64 s.ro, .slice B0 s.lv.length d0, .slice B1 s.ms.length d1, .slice B2 s.ts.length d2, .slice B3 s.bd.length d3] 29)
  go_enter Try.func10, Try.ntmps10
  go_wp2_with fail
  refine (spec_SameMesh_yes s.ro A0 s.lv.length c0 B0 d0 s.lv _ (r0.to b0) (q0.to b0)).mono ?_
  rintro e w1 ⟨rfl, b1⟩
  replace g0 := pw_cell_below b1.out g0
  replace g1 := pw_cell_below b1.out g1
  replace g2 := pw_cell_below b1.out g2
  replace g3 := pw_cell_below b1.out g3
  replace g4 := pw_cell_below b1.out g4
  replace k0 := pw_cell_below b1.out k0
  replace k1 := pw_cell_below b1.out k1
  replace k2 := pw_cell_below b1.out k2
  replace k3 := pw_cell_below b1.out k3
  replace k4 := pw_cell_below b1.out k4
  replace b0 := b0.trans b1
  clear b1
  go_wp2_with fail
  refine (spec_l24Same A1 s.ms.length c1 s.ms B1 s.ms.length d1 s.ms _ (r1.to b0) (q1.to b0)).mono ?_
  rintro e w1 ⟨rfl, dd1⟩
  have b1 := Bw.drawn dd1
  rw [decide_eq_true (rfl : s.ms = s.ms)]
  replace g0 := pw_cell_below b1.out g0
  replace g1 := pw_cell_below b1.out g1
  replace g2 := pw_cell_below b1.out g2
  replace g3 := pw_cell_below b1.out g3
  replace g4 := pw_cell_below b1.out g4
  replace k0 := pw_cell_below b1.out k0
  replace k1 := pw_cell_below b1.out k1
  replace k2 := pw_cell_below b1.out k2
  replace k3 := pw_cell_below b1.out k3
  replace k4 := pw_cell_below b1.out k4
  replace b0 := b0.trans b1
  clear b1 dd1
  go_wp2_with fail
  refine (spec_l24Same A2 s.ts.length c2 s.ts B2 s.ts.length d2 s.ts _ (r2.to b0) (q2.to b0)).mono ?_
  rintro e w1 ⟨rfl, dd1⟩
  have b1 := Bw.drawn dd1
  rw [decide_eq_true (rfl : s.ts = s.ts)]
  replace g0 := pw_cell_below b1.out g0
  replace g1 := pw_cell_below b1.out g1
  replace g2 := pw_cell_below b1.out g2
  replace g3 := pw_cell_below b1.out g3
  replace g4 := pw_cell_below b1.out g4
  replace k0 := pw_cell_below b1.out k0
  replace k1 := pw_cell_below b1.out k1
  replace k2 := pw_cell_below b1.out k2
  replace k3 := pw_cell_below b1.out k3
  replace k4 := pw_cell_below b1.out k4
  replace b0 := b0.trans b1
  clear b1 dd1
  go_wp2_with fail
  refine (spec_l24Same A3 s.bd.length c3 s.bd B3 s.bd.length d3 s.bd _ (r3.to b0) (q3.to b0)).mono ?_
  rintro e w1 ⟨rfl, dd1⟩
  have b1 := Bw.drawn dd1
  rw [decide_eq_true (rfl : s.bd = s.bd)]
  replace g0 := pw_cell_below b1.out g0
  replace g1 := pw_cell_below b1.out g1
  replace g2 := pw_cell_below b1.out g2
  replace g3 := pw_cell_below b1.out g3
  replace g4 := pw_cell_below b1.out g4
  replace k0 := pw_cell_below b1.out k0
  replace k1 := pw_cell_below b1.out k1
  replace k2 := pw_cell_below b1.out k2
  replace k3 := pw_cell_below b1.out k3
  replace k4 := pw_cell_below b1.out k4
  replace b0 := b0.trans b1
  clear b1 dd1
  go_wp2
  go_ret
  exact ⟨rfl, b0⟩
end Go.Proofs.Ytaidbdogolhnjaa.U
set_option linter.unusedVariables false
set_option linter.unusedSimpArgs false
namespace Go.Proofs.Ytaidbdogolhnjaa.U
open Go.RowKit Go.Lib Go.Proofs.YtaidbdogolhnjaaW.PrintWords

set_option maxHeartbeats 4000000 in
theorem DrawPlaces (A0 : Option Addr) (n0 c0 : Nat) (bytes : List Int) (w : World) (r : ReadsInt w .u8 A0 n0 bytes) (hby : ∀ x ∈ bytes, 0 ≤ x ∧ x ≤ 255) (hn : n0 ≤ 1048576) :
    Calls Try.prog 8 #[.slice A0 n0 c0] w fun e w' => ∃ A n c l, e = .returned (.slice A n c) ∧ OI w' w.heap.size (.slice A n c) n l ∧ (n = 12 ∧ ∀ x ∈ l, 0 ≤ x ∧ x < 10000) ∧ Bw w w' := by
  have HB := hid hby
  clear hby
  go_enter Try.func8, Try.ntmps8
  go_wp2_with fail
  refine (l01New A0 n0 c0 bytes _ r HB.out hn).mono ?_
  rintro e w1 ⟨g, rfl, hC0⟩
  have hlt := hC0.lt
  have o5 : OI (w1.alloc (.cells #[] 3)) w1.heap.size (.slice (some ⟨w1.heap.size, 0, none⟩) 0 0) 0 [] := OI.lit0 w1 w1.heap.size (Nat.le_refl _)
  have g1 : w1.grownBy (w1.alloc (.cells #[] 3)) none := World.grownBy_alloc _ _ none
  have c1 := hC0.next g1 (fun j e => by cases e)
  have g2 := grown_then (grown_refl w1 (some g)) g1 (fun j e => by cases e)
  have hbs := hC0.below.size
  clear g1 hC0
  go_wp2
  generalize w1.alloc (.cells #[] 3) = W0 at *
  go_loopw [4, 5] (fun v5 v6 wr => ∃ (k : Nat) (o : List Int), k ≤ 12 ∧ v6 = .int .i64 k ∧ OI wr w1.heap.size v5 k o ∧ Cur w wr g ∧ w1.grownBy wr (some g) ∧ Hid (∀ x ∈ o, 0 ≤ x ∧ x < 10000)) (fun _ v6 _ => 12 - (intOf v6).toNat)
  case atStart => exact ⟨0, [], by omega, rfl, o5, c1, g2, hid (by simp)⟩
  case round =>
    obtain ⟨k, o, hk, rfl, hO, hC, hG, hX⟩ := hrel
    by_cases hkn : k < 12
    · have t1 : decide ((k : Int) < 12) = true := decide_eq_true (by omega)
      have hol := hO.len
      obtain ⟨Ao, co, rfl, _⟩ := hO.reads
      go_wp2_with fail
      refine (l01Below w g _ _ hC).mono ?_
      rintro e w2 ⟨⟨x, rfl, x1, x2⟩, hC2, hG2⟩
      have x2' := x2 (by omega)
      clear x2
      have hO2 := hO.cur hG2 hlt
      have hsz2 := (hG.trans hG2).size
      subst hol
      have HX : Hid (∀ y ∈ o ++ [x], 0 ≤ y ∧ y < 10000) := hid (by
        intro y hy
        rw [List.mem_append, List.mem_singleton] at hy
        rcases hy with hy | rfl
        · exact hX.out y hy
        · omega)
      go_wp2_with (at_builtin; refine print_append_num (w0 := w2) w1.heap.size rfl _ _ 27 3 .i64 8 rfl Try.underlying27 info_int (by omega) (.slice Ao o.length co) o x rfl rfl hO2.out (Below.refl _ _) hsz2 (by omega) ?_; intro v1 w3 hown1 hB1 hg1 _)
      go_roundw
      case rel => exact ⟨o.length + 1, o ++ [x], by omega, by go_num, by have := OI.app hown1; rwa [List.length_append] at this, hC2.next hg1 (fun j e => Nat.lt_of_lt_of_le hlt (own_least hO2 j e)), grown_then (hG.trans hG2) hg1 (own_least hO2), HX⟩
      case measure => simp [intOf]; omega
    · obtain rfl : k = 12 := by omega
      obtain ⟨Ao, co, rfl, _⟩ := hO.reads
      go_wp2
      go_ret
      exact ⟨Ao, 12, co, o, rfl, hO.base hbs, ⟨rfl, hX.out⟩, ⟨hC.below⟩⟩
end Go.Proofs.Ytaidbdogolhnjaa.U

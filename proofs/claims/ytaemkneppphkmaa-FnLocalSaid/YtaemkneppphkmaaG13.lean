
/- The reference's comparison of equal states. -/
import Derived.Test.YtaemkneppphkmaaSe
import Derived.Test.YtaemkneppphkmaaEq
import Derived.Test.YtaemkneppphkmaaWEqStruct
import Derived.Test.YtaemkneppphkmaaG12
import Derived.Test.YtaemkneppphkmaaG5
import Derived.Test.YtaemkneppphkmaaG11
import Derived.Test.YtaemkneppphkmaaG7
set_option linter.unusedVariables false
set_option linter.unusedSimpArgs false
namespace Go.Proofs.Ytaemkneppphkmaa.U
open Go.RowKit Go.Lib Go.Proofs.YtaemkneppphkmaaW.PrintWords
open Go.Proofs.YtaemkneppphkmaaW.PrintLast Go.Proofs.YtaemkneppphkmaaW.PrintMore
theorem eqA_id (d : Nat) (w : World) (x0 y0 x1 y1 x2 y2 : Int) :
  (Op.equalIn (d + 2) 32 (.agg #[.int .i64 x0, .int .i64 x1, .int .i64 x2]) (.agg #[.int .i64 y0, .int .i64 y1, .int .i64 y2])).run Try.prog w = .ok (x0 == y0 && (x1 == y1 && (x2 == y2))) w := by
 refine eqA_of Try.underlying32 (by kernel_rfl) ?_
 refine eqf_cons (by rfl) (by go_simp; rfl) (by go_simp; rfl) (by go_simp) ?_
 refine eqf_cons (by rfl) (by go_simp; rfl) (by go_simp; rfl) (by go_simp) ?_
 exact eqf_last (by rfl) (by go_simp; rfl) (by go_simp; rfl) (by go_simp)
attribute [local go_sem] eqA_id
end Go.Proofs.Ytaemkneppphkmaa.U
set_option linter.unusedVariables false
set_option linter.unusedSimpArgs false
namespace Go.Proofs.Ytaemkneppphkmaa.U
open Go.RowKit Go.Lib Go.Proofs.YtaemkneppphkmaaW.PrintWords
theorem unC_idF : ∀ l : List Ce, unC (idF l) = l
 | [] => rfl
 | x :: xs => by rw [idF_cons, unC, unC_idF xs]
theorem take_drop {α : Type} (l : List α) {p q : Nat} (h : p ≤ q) : l.take p ++ (l.take q).drop p = l.take q := by
 have h1 := List.take_append_drop p (l.take q)
 rwa [List.take_take, Nat.min_eq_left h] at h1
section
variable {s : Sta} {cuts : List Int}
theorem ct_facts (hc : cutsOk (s.lv.length : Int) cuts = true) : 2 ≤ cuts.length ∧ ct cuts 0 = 0 ∧ ct cuts (cuts.length - 1) = s.lv.length ∧ ∀ j, j + 1 < cuts.length → ct cuts j ≤ ct cuts (j + 1) ∧ ct cuts (j + 1) ≤ s.lv.length := by
 obtain ⟨h1, h2, h3, h4⟩ := cutsOk_facts hc
 refine ⟨h1.1, ?_, ?_, fun j hj => ?_⟩
 ·have e : rd cuts ((0 : Nat) : Int) = 0 := h2
  rw [ct, e]
  rfl
 ·rw [ct, h3]
  simp
 ·have h5 := (cut_at hc j hj).out
  simp only [ct]
  omega
theorem parts_gv (s : Sta) (cuts : List Int) {j : Nat} (h : j < cuts.length - 1) : gv (parts s cuts) j = partV s (ct cuts j) (ct cuts (j + 1)) := parts_at s cuts j h
theorem lvTo_parts (hc : cutsOk (s.lv.length : Int) cuts = true) : ∀ j, j ≤ cuts.length - 1 → lvTo (parts s cuts) j = s.lv.take (ct cuts j)
 | 0, _ => by rw [(ct_facts hc).2.1]; simp [lvTo]
 | j + 1, h => by
  have ih := lvTo_parts hc j (by omega)
  have hl : j < (parts s cuts).length := by rw [parts_length]; omega
  rw [lvTo_snoc hl, ih, parts_gv s cuts (by omega), ceL]
  show _ ++ unC (idF ((s.lv.take _).drop _)) = _
  rw [unC_idF]
  exact take_drop _ ((ct_facts hc).2.2.2 j (by omega)).1
theorem msTo_parts (hc : cutsOk (s.lv.length : Int) cuts = true) : ∀ j, j ≤ cuts.length - 1 → msTo (parts s cuts) j = s.ms.take (ct cuts j)
 | 0, _ => by rw [(ct_facts hc).2.1]; simp [msTo]
 | j + 1, h => by
  have ih := msTo_parts hc j (by omega)
  have hl : j < (parts s cuts).length := by rw [parts_length]; omega
  rw [msTo_snoc hl, ih, parts_gv s cuts (by omega)]
  exact take_drop _ ((ct_facts hc).2.2.2 j (by omega)).1
theorem tsTo_parts (hc : cutsOk (s.lv.length : Int) cuts = true) : ∀ j, j ≤ cuts.length - 1 → tsTo (parts s cuts) j = s.ts.take (ct cuts j)
 | 0, _ => by rw [(ct_facts hc).2.1]; simp [tsTo]
 | j + 1, h => by
  have ih := tsTo_parts hc j (by omega)
  have hl : j < (parts s cuts).length := by rw [parts_length]; omega
  rw [tsTo_snoc hl, ih, parts_gv s cuts (by omega)]
  exact take_drop _ ((ct_facts hc).2.2.2 j (by omega)).1
theorem agree_parts (s : Sta) (cuts : List Int) : ∀ d j, j + d ≤ cuts.length - 1 → agree (parts s cuts) s.ro s.bd d j = true
 | 0, _, _ => rfl
 | d + 1, j, h => by
  rw [agree, parts_gv s cuts (by omega), agree_parts s cuts d (j + 1) (by omega)]
  simp [partV]
theorem join_parts (hs : staOk s.ro s.lv s.ms s.ts s.bd = true) (hc : cutsOk (s.lv.length : Int) cuts = true) : joinOk (parts s cuts) = true ∧ joinS (parts s cuts) = s := by
 obtain ⟨h2, h0, hl, _⟩ := ct_facts hc
 have hf := StF.of hs
 have hpl := parts_length s cuts
 have e1 := lvTo_parts hc _ (Nat.le_refl _)
 have e2 := msTo_parts hc _ (Nat.le_refl _)
 have e3 := tsTo_parts hc _ (Nat.le_refl _)
 rw [hl, List.take_length] at e1
 rw [hl, List.take_of_length_le (by have := hf.ms; omega)] at e2
 rw [hl, List.take_of_length_le (by have := hf.ts; omega)] at e3
 have g0 : gv (parts s cuts) 0 = partV s (ct cuts 0) (ct cuts 1) := parts_gv s cuts (by omega)
 have hok : joinOk (parts s cuts) = true := by
  rw [joinOk, g0, hpl, e1, e2, e3]
  show (decide (0 < cuts.length - 1) && agree (parts s cuts) s.ro s.bd (cuts.length - 1) 0 && staOk s.ro s.lv s.ms s.ts s.bd) = true
  rw [agree_parts s cuts _ 0 (by omega), hs]
  simp
  omega
 refine ⟨hok, ?_⟩
 rw [joinS, if_pos hok, g0, hpl, e1, e2, e3]
 rfl
theorem lc_parts (hc : cutsOk (s.lv.length : Int) cuts = true) : ∀ j, j ≤ cuts.length - 1 → lc (parts s cuts) j = ct cuts j
 | 0, _ => by rw [(ct_facts hc).2.1, lc]
 | j + 1, h => by
  have h4 := (ct_facts hc).2.2.2 j (by omega)
  rw [lc, lc_parts hc j (by omega), parts_gv s cuts (by omega)]
  have e : (partV s (ct cuts j) (ct cuts (j + 1))).lf.length = (ct cuts (j + 1) - ct cuts j) * 3 := by
   rw [partV, idF_length, List.length_drop, List.length_take, Nat.min_eq_left h4.2]
  rw [e, Nat.mul_div_cancel _ (by omega : 0 < 3)]
  omega
theorem ct_rd (hc : cutsOk (s.lv.length : Int) cuts = true) {j : Nat} (hj : j < cuts.length) : (ct cuts j : Int) = rd cuts (j : Int) := by
 obtain ⟨h2, h0, hl, _⟩ := ct_facts hc
 have h3 : 0 ≤ rd cuts (j : Int) := by
  rcases Nat.lt_or_ge (j + 1) cuts.length with h | h
  ·exact (cut_at hc j h).out.1
  ·obtain rfl : j = cuts.length - 1 := by omega
   rw [(cutsOk_facts hc).2.2.1]
   omega
 rw [ct]
 omega
theorem cutL_parts (hc : cutsOk (s.lv.length : Int) cuts = true) : cutL (parts s cuts) (cuts.length - 1) = cuts := by
 have h2 := (ct_facts hc).1
 refine List.ext_getElem (by rw [cutL_length]; omega) fun j h1 h3 => ?_
 have e1 := cutL_rd (parts s cuts) (cuts.length - 1) j (by omega)
 rw [rd_nat, List.getD_eq_getElem?_getD, List.getElem?_eq_getElem h1, lc_parts hc j (by omega), ct_rd hc h3, rd_nat, List.getD_eq_getElem?_getD, List.getElem?_eq_getElem h3] at e1
 exact e1
end
end Go.Proofs.Ytaemkneppphkmaa.U
set_option linter.unusedVariables false
set_option linter.unusedSimpArgs false
namespace Go.Proofs.Ytaemkneppphkmaa.U
open Go.RowKit Go.Lib Go.Proofs.YtaemkneppphkmaaW.PrintWords
set_option maxHeartbeats 4000000 in
theorem DrawPlaces (A0 : Option Addr) (n0 c0 : Nat) (bytes : List Int) (w : World) (r : ReadsInt w .u8 A0 n0 bytes) (hby : ∀ x ∈ bytes, 0 ≤ x ∧ x ≤ 255) (hn : n0 ≤ 1048576) :
  Calls Try.prog 15 #[.slice A0 n0 c0] w fun e w' => ∃ A n c l, e = .returned (.slice A n c) ∧ OI w' w.heap.size (.slice A n c) n l ∧ (n = 12 ∧ ∀ x ∈ l, 0 ≤ x ∧ x < 10000) ∧ Bw w w' := by
 have HB := hid hby
 clear hby
 go_enter Try.func15, Try.ntmps15
 go_wp2_with fail
 refine (l01New A0 n0 c0 bytes _ r HB.out hn).mono ?_
 rintro e w1 ⟨g, rfl, hC0⟩
 have hlt := hC0.lt
 have o5 : OI (w1.alloc (.cells #[] 3)) w1.heap.size (.slice (some ⟨w1.heap.size, 0, none⟩) 0 0) 0 [] := OI.lit0 w1 w1.heap.size (Nat.le_refl _)
 have g1 : w1.grownBy (w1.alloc (.cells #[] 3)) none := World.grownBy_alloc _ _ none
 have c1 := hC0.next g1 (fun j e => by cases e)
 have g2 := grown_then (grown_refl w1 (some g)) g1 (fun j e => by cases e)
 have hbs := hC0.below.size
 clear g1 hC0
 go_wp2
 generalize w1.alloc (.cells #[] 3) = W0 at *
 go_loopw [4, 5] (fun v5 v6 wr => ∃ (k : Nat) (o : List Int), k ≤ 12 ∧ v6 = .int .i64 k ∧ OI wr w1.heap.size v5 k o ∧ Cur w wr g ∧ w1.grownBy wr (some g) ∧ Hid (∀ x ∈ o, 0 ≤ x ∧ x < 10000)) (fun _ v6 _ => 12 - (intOf v6).toNat)
 case atStart => exact ⟨0, [], by omega, rfl, o5, c1, g2, hid (by simp)⟩
 case round =>
  obtain ⟨k, o, hk, rfl, hO, hC, hG, hX⟩ := hrel
  by_cases hkn : k < 12
  ·have t1 : decide ((k : Int) < 12) = true := decide_eq_true (by omega)
   have hol := hO.len
   obtain ⟨Ao, co, rfl, _⟩ := hO.reads
   go_wp2_with fail
   refine (l01Below w g _ _ hC).mono ?_
   rintro e w2 ⟨⟨x, rfl, x1, x2⟩, hC2, hG2⟩
   have x2' := x2 (by omega)
   clear x2
   have hO2 := hO.cur hG2 hlt
   have hsz2 := (hG.trans hG2).size
   subst hol
   have HX : Hid (∀ y ∈ o ++ [x], 0 ≤ y ∧ y < 10000) := hid (by
    intro y hy
    rw [List.mem_append, List.mem_singleton] at hy
    rcases hy with hy | rfl
    ·exact hX.out y hy
    ·omega)
   go_wp2_with (at_builtin; refine print_append_num (w0 := w2) w1.heap.size rfl _ _ 28 3 .i64 8 rfl Try.underlying28 info_int (by omega) (.slice Ao o.length co) o x rfl rfl hO2.out (Below.refl _ _) hsz2 (by omega) ?_; intro v1 w3 hown1 hB1 hg1 _)
   go_roundw
   case rel => exact ⟨o.length + 1, o ++ [x], by omega, by go_num, by have := OI.app hown1; rwa [List.length_append] at this, hC2.next hg1 (fun j e => Nat.lt_of_lt_of_le hlt (own_least hO2 j e)), grown_then (hG.trans hG2) hg1 (own_least hO2), HX⟩
   case measure => simp [intOf]; omega
  ·obtain rfl : k = 12 := by omega
   obtain ⟨Ao, co, rfl, _⟩ := hO.reads
   go_wp2
   go_ret
   exact ⟨Ao, 12, co, o, rfl, hO.base hbs, ⟨rfl, hX.out⟩, ⟨hC.below⟩⟩
end Go.Proofs.Ytaemkneppphkmaa.U


/- Lists of events, parted: the plain law. -/
import Derived.Test.YtkendhkaheoinaaEi
set_option linter.unusedVariables false
set_option linter.unusedSimpArgs false
namespace Go.Proofs.Ytkendhkaheoinaa.U
open Go.RowKit Go.Lib Go.Proofs.YtkendhkaheoinaaW.PrintWords
open Go.Proofs.YtkendhkaheoinaaW.PrintLast Go.Proofs.YtkendhkaheoinaaW.PrintMore
theorem evs_append (l : List Ce) (a : Nat) : ∀ b, a ≤ b → evs l 0 b = evs l 0 a ++ evs l a b
 | 0, h => by
  obtain rfl : a = 0 := by omega
  rfl
 | b + 1, h => by
  rcases Nat.eq_or_lt_of_le h with rfl | h2
  ·rw [show evs l (b + 1) (b + 1) = [] by rw [evs, if_neg (by omega)], List.append_nil]
  ·rw [evs, if_pos (Nat.zero_le _), evs_append l a b (by omega), evs, if_pos (by omega), List.append_assoc]
theorem evs_mem {l : List Ce} {a : Nat} : ∀ {b : Nat} {x : Ev}, x ∈ evs l a b → ((a : Int) ≤ x.q ∧ x.q < (b : Int)) ∧ 0 ≤ x.v ∧ x.v < ((l.length - 1 : Nat) : Int)
 | 0, x, h => by simp [evs] at h
 | b + 1, x, h => by
  rw [evs] at h
  split at h
  ·rcases List.mem_append.1 h with h | h
   ·have := evs_mem h; omega
   ·rw [evI, List.mem_map] at h
    obtain ⟨f, hf, rfl⟩ := h
    have := actTo_mem hf
    simp only
    omega
  ·simp at h
theorem ge_mem {L : List Ev} {j : Nat} (h : j < L.length) : ge L j ∈ L := by rw [ge_at h]; exact List.getElem_mem _
theorem ge_left {L M : List Ev} {j : Nat} (h : j < L.length) : ge (L ++ M) j = ge L j := by
 rw [ge_at h, ge_at (by rw [List.length_append]; omega), List.getElem_append_left h]
theorem ge_right {L M : List Ev} {j : Nat} (h : L.length ≤ j) (h2 : j < (L ++ M).length) : ge (L ++ M) j ∈ M := by
 rw [ge_at h2, List.getElem_append_right h]
 exact List.getElem_mem _
def dcnt (l : List Ce) (lev : Int) (j : Nat) : Nat → Nat
 | 0 => 0
 | k + 1 => dcnt l lev j k + (evI l k j).countP (fun x => faceL l x.v.toNat == lev)
theorem evs_countP (l : List Ce) (lev : Int) : ∀ b, (evs l 0 b).countP (fun x => faceL l x.v.toNat == lev) = dcnt l lev (l.length - 1) b
 | 0 => rfl
 | b + 1 => by rw [evs, if_pos (Nat.zero_le _), List.countP_append, evs_countP l lev b, dcnt]
theorem dcnt_zero (l : List Ce) (lev : Int) : ∀ k, dcnt l lev 0 k = 0
 | 0 => rfl
 | k + 1 => by rw [dcnt, dcnt_zero l lev k]; rfl
theorem dcnt_succ (l : List Ce) (lev : Int) (j : Nat) : ∀ k, dcnt l lev (j + 1) k = dcnt l lev j k + (if faceL l j == lev then actN (faceL l j) k else 0)
 | 0 => by simp [dcnt, actN]
 | k + 1 => by
  rw [dcnt, dcnt_succ l lev j k, dcnt, actN, evI_succ]
  by_cases ha : actB (k : Int) (faceL l j) = true
  ·rw [if_pos ha, if_pos ha, List.countP_append]
   cases hf : faceL l j == lev <;> simp [List.countP_cons, hf] <;> omega
  ·rw [if_neg ha, if_neg ha]
   cases hf : faceL l j == lev <;> simp <;> omega
def levN (l : List Ce) (lev : Int) : Nat → Int
 | 0 => 0
 | j + 1 => levN l lev j + (if faceL l j == lev then pow2 lev else 0)
theorem levN_range (l : List Ce) (lev : Int) : ∀ j, 0 ≤ levN l lev j ∧ levN l lev j ≤ 16 * (j : Int)
 | 0 => by simp [levN]
 | j + 1 => by
  have ih := levN_range l lev j
  have := pow2_range lev
  rw [levN]
  split <;> omega
theorem dcnt_levN (l : List Ce) (lev : Int) (h : ∀ i, i < l.length → 0 ≤ (gc l i).l ∧ (gc l i).l ≤ 4) : ∀ j, j ≤ l.length - 1 → ((dcnt l lev j 16 : Nat) : Int) = levN l lev j
 | 0, _ => by rw [dcnt_zero]; rfl
 | j + 1, hj => by
  have ih := dcnt_levN l lev h j (by omega)
  have h1 := h j (by omega)
  have h2 := h (j + 1) (by omega)
  have hL : inR (faceL l j) 0 4 = true := inR_iff.2 (by rw [faceL, bigMax]; split <;> omega)
  rw [dcnt_succ, levN, Int.natCast_add, ih]
  cases hf : faceL l j == lev
  ·rfl
  ·simp only [if_true]
   rw [actN_pow hL, eq_of_beq hf]
theorem kept_levN (l : List Ce) (lev : Int) (h : ∀ i, i < l.length → 0 ≤ (gc l i).l ∧ (gc l i).l ≤ 4) (m : Nat) (hm : (evs l 0 16).length = m) :
  ((kept (fun x => faceL l x.v.toNat == lev) (evs l 0 16) m : Nat) : Int) = (m : Int) - levN l lev (l.length - 1) := by
 have h1 := List.length_eq_countP_add_countP (fun x => faceL l x.v.toNat == lev) (l := evs l 0 16)
 rw [kept, List.take_of_length_le (by omega), ← dcnt_levN l lev h _ (Nat.le_refl _), ← evs_countP]
 simp only [Bool.not_eq_true, Bool.decide_eq_false] at h1 ⊢
 omega
theorem evF_take : ∀ (L : List Ev) (b : Nat), evF (L.take b) = (evF L).take (b * 2)
 | [], b => by simp [evF]
 | x :: L, 0 => by simp [evF]
 | x :: L, b + 1 => by rw [List.take_succ_cons, evF_cons, evF_cons, evF_take L b, show (b + 1) * 2 = b * 2 + 1 + 1 by omega]; rfl
theorem evF_drop : ∀ (L : List Ev) (b : Nat), evF (L.drop b) = (evF L).drop (b * 2)
 | [], b => by simp [evF]
 | x :: L, 0 => by simp
 | x :: L, b + 1 => by rw [List.drop_succ_cons, evF_cons, evF_drop L b, show (b + 1) * 2 = b * 2 + 1 + 1 by omega]; rfl
theorem EvR.toN (A : Option Addr) (n c : Nat) (L : List Ev) (hc : n ≤ c) (b : Nat) (h2 : b ≤ n) :
  (∀ W : World, (Instr.slice 31 (.slice A n c) none (some (.int .i64 (b : Int))) none).run Try.prog W = .ok (.slice A b c) W) ∧ (∀ w, EvR w A n L → EvR w A b (L.take b)) := by
 obtain ⟨i0, hi, hz0, hz1, hz2⟩ := info_parts info_ev
 have h3 := cut_to (P := Try.prog) 31 40 .i64 Try.underlying31 hi A n c (b : Int) (by omega) (by omega) hc
 simp only [Int.toNat_natCast] at h3
 refine ⟨h3, fun w r => ⟨⟨?_, by have := r.max; omega, fun hn => ?_⟩⟩⟩
 ·rw [evF_length, List.length_take, r.len]; omega
 ·obtain ⟨ad, e, hcl⟩ := r.out.at_ (by omega)
  refine ⟨ad, e, fun j hj => ?_⟩
  rw [hcl j (by omega), evF_take, rd_nat, rd_nat, List.getD_eq_getElem?_getD, List.getD_eq_getElem?_getD, List.getElem?_take, if_pos hj]
theorem EvR.fromN (A : Option Addr) (n c : Nat) (L : List Ev) (hc : n ≤ c) (a : Nat) (h1 : a ≤ n) :
  ∃ A' c', (∀ W : World, (Instr.slice 31 (.slice A n c) (some (.int .i64 (a : Int))) none none).run Try.prog W = .ok (.slice A' (n - a) c') W) ∧ (∀ w, EvR w A n L → EvR w A' (n - a) (L.drop a)) := by
 obtain ⟨i0, hi, hz0, hz1, hz2⟩ := info_parts info_ev
 have h3 := cut_from (P := Try.prog) 31 40 .i64 Try.underlying31 hi 2 hz1 A n c (a : Int) (by omega) (by omega)
 simp only [Int.toNat_natCast] at h3
 refine ⟨_, _, h3, fun w r => ⟨⟨?_, by have := r.max; omega, fun hn => ?_⟩⟩⟩
 ·rw [evF_length, List.length_drop, r.len]
 ·obtain ⟨ad, e, hcl⟩ := r.out.at_ (by omega)
  refine ⟨ad.add (a * 2), by rw [if_neg (by omega), e]; rfl, fun j hj => ?_⟩
  rw [add_add, hcl (a * 2 + j) (by omega), evF_drop, rd_nat, rd_nat, List.getD_eq_getElem?_getD, List.getD_eq_getElem?_getD, List.getElem?_drop]
theorem runA_same (s : Sta) (a : Nat) (h : staOk s.ro s.lv s.ms s.ts s.bd = true) (b : Nat) : (runA s a b).ro = s.ro ∧ (runA s a b).lv = s.lv ∧ (runA s a b).bd = s.bd ∧ staOk (runA s a b).ro (runA s a b).lv (runA s a b).ms (runA s a b).ts (runA s a b).bd = true := by
 have h1 := runT_same (tks s.lv a b) s
 have h2 := runT_ok (tks s.lv a b) h
 rw [runT_tks h] at h1 h2
 exact ⟨h1.1, h1.2.1, h1.2.2, h2⟩
end Go.Proofs.Ytkendhkaheoinaa.U

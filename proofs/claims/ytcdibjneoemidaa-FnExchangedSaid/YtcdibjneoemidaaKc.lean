
/- Valid inboxes, by the program and by the reference; where a number belongs. -/
import Derived.Test.YtcdibjneoemidaaKb
import Derived.Test.YtcdibjneoemidaaBs
set_option linter.unusedVariables false
set_option linter.unusedSimpArgs false
namespace Go.Proofs.Ytcdibjneoemidaa.U
open Go.RowKit Go.Lib Go.Proofs.YtcdibjneoemidaaW.PrintWords

open Go.Proofs.YtcdibjneoemidaaW.PrintLast Go.Proofs.YtcdibjneoemidaaW.PrintMore
def okFrom : List Pk → Int → Bool
  | [], _ => true
  | p :: r, a => decide (a < p.q) && okFrom r p.q
def ibOk (s : Ib) : Bool := decide (s.g.length ≤ 1000) && (decide (s.e.length ≤ 16) && okFrom s.e (s.g.length : Int))
theorem okFrom_drop {l : List Pk} {j : Nat} (h : j < l.length) (a : Int) : okFrom (l.drop j) a = (decide (a < (gp l j).q) && okFrom (l.drop (j + 1)) (gp l j).q) := by
  rw [List.drop_eq_getElem_cons h, okFrom, gp_at h]
theorem okFrom_end (l : List Pk) (a : Int) : okFrom (l.drop l.length) a = true := by rw [List.drop_length]; rfl
/-- where a number belongs -/
def posP : List Pk → Int → Nat
  | [], _ => 0
  | a :: r, x => if a.q < x then posP r x + 1 else 0
theorem posP_le : ∀ (l : List Pk) (x : Int), posP l x ≤ l.length
  | [], _ => Nat.le_refl _
  | a :: r, x => by
    have := posP_le r x
    rw [posP, List.length_cons]
    split <;> omega
theorem gp_succ (a : Pk) (r : List Pk) (j : Nat) : gp (a :: r) (j + 1) = gp r j := rfl
theorem posP_lt : ∀ (l : List Pk) (x : Int) (j : Nat), j < posP l x → (gp l j).q < x
  | [], _, j, h => by simp [posP] at h
  | a :: r, x, j, h => by
    rw [posP] at h
    split at h
    · cases j with
      | zero => assumption
      | succ j => exact posP_lt r x j (by omega)
    · omega
theorem posP_at : ∀ (l : List Pk) (x : Int), posP l x < l.length → ¬ (gp l (posP l x)).q < x
  | [], _, h => by simp [posP] at h
  | a :: r, x, h => by
    rw [posP] at h ⊢
    by_cases c : a.q < x
    · rw [if_pos c] at h ⊢
      exact posP_at r x (by simpa using h)
    · rw [if_neg c]
      exact c
theorem okFrom_all : ∀ (l : List Pk) (a : Int), okFrom l a = true → ∀ j, j < l.length → a < (gp l j).q
  | [], _, _, j, h => by simp at h
  | p :: r, a, ho, j, h => by
    simp only [okFrom, Bool.and_eq_true, decide_eq_true_eq] at ho
    cases j with
    | zero => exact ho.1
    | succ j =>
      have := okFrom_all r p.q ho.2 j (by simpa using h)
      rw [gp_succ]
      omega
theorem posP_up : ∀ (l : List Pk) (a x : Int), okFrom l a = true → ∀ j, posP l x ≤ j → j < l.length → ¬ (gp l j).q < x
  | [], _, _, _, j, _, h => by simp at h
  | p :: r, a, x, ho, j, h1, h => by
    have ho2 := ho
    simp only [okFrom, Bool.and_eq_true, decide_eq_true_eq] at ho
    rw [posP] at h1
    by_cases c : p.q < x
    · rw [if_pos c] at h1
      cases j with
      | zero => omega
      | succ j => exact posP_up r p.q x ho.2 j (by omega) (by simpa using h)
    · cases j with
      | zero => exact c
      | succ j =>
        have := okFrom_all r p.q ho.2 j (by simpa using h)
        rw [gp_succ]
        omega
theorem bsW_pos (l : List Pk) (a x : Int) (h : okFrom l a = true) : bsW (fun j => (gp l j).q) x 0 l.length = posP l x :=
  bsW_split (n := l.length) (posP_lt l x) (posP_up l a x h) l.length 0 l.length (by omega) (by omega) (posP_le l x) (Nat.le_refl _)
theorem PkR.pk {w : World} {A : Option Addr} {n : Nat} {l : List Pk} (h : PkR w A n l) : PK w A n (fun j => (gp l j).q) (fun j => (gp l j).v) := ⟨⟨h.max, fun i hi => h.at i hi⟩⟩
set_option maxHeartbeats 4000000 in
set_option maxRecDepth 100000 in
theorem impl_InboxOk (x : Value) (s : Ib) (w : World) (hx : IbR w x s) : Calls Try.prog 17 #[x] w fun e w' => e = .returned (.bool (ibOk s)) ∧ Bw w w' := by
  obtain ⟨A, c, B, d, rfl, r, q, h1, h2⟩ := hx
  have b0 := Bw.box1 w (.cells #[.slice A s.g.length c, .slice B s.e.length d] 31)
  have g0 := box_cell (Bw.refl (w.alloc (.cells #[.slice A s.g.length c, .slice B s.e.length d] 31))) 0
  have g1 := box_cell (Bw.refl (w.alloc (.cells #[.slice A s.g.length c, .slice B s.e.length d] 31))) 1
  simp only [List.getElem?_toArray, List.getElem?_cons_zero, List.getElem?_cons_succ] at g0 g1
  obtain ⟨R, HR⟩ : ∃ R, Hid (R = okFrom s.e (s.g.length : Int)) := ⟨_, hid rfl⟩
  have HRes := hid (show (decide (s.g.length ≤ 1000) && (decide (s.e.length ≤ 16) && R)) = ibOk s by rw [HR.out]; rfl)
  have HN : Hid (R = okFrom (s.e.drop 0) (s.g.length : Int)) := hid (by rw [List.drop_zero]; exact HR.out)
  have HK := hid (heap_alloc_new w (.cells #[.slice A s.g.length c, .slice B s.e.length d] 31 (0, 0)))
  have HB0 := hid b0
  have hq := q.max
  clear b0 h1 h2 r
  go_enter Try.func17, Try.ntmps17
  go_upto_region 1 with fail
  generalize (w.alloc (.cells #[.slice A s.g.length c, .slice B s.e.length d] 31)) = W1 at *
  go_wp2
  clear g0 g1
  go_loopw [3, 12] (fun v3 v12 wr => ∃ (j : Nat) (a : Int), j ≤ s.e.length ∧ v12 = .int .i64 j ∧ v3 = .int .i64 a ∧ Hid (R = okFrom (s.e.drop j) a) ∧ Hid (Bw w wr) ∧ Hid (wr.heap[w.heap.size]? = some (.cells #[.slice A s.g.length c, .slice B s.e.length d] 31 (0, 0)))) (fun _ v12 _ => s.e.length - (intOf v12).toNat)
  case atStart => exact ⟨0, _, by omega, rfl, rfl, HN, HB0, HK⟩
  case round =>
    obtain ⟨j, a, hj, rfl, rfl, hE, hB, hK⟩ := hrel
    by_cases hlt : j < s.e.length
    · have t1 : decide ((j : Int) < (s.e.length : Int)) = true := decide_eq_true (by omega)
      have t2 : decide (j < s.e.length) = true := decide_eq_true hlt
      obtain ⟨ad, rfl, x0, x1⟩ := (q.to hB.out).at j hlt
      have hst := hid (okFrom_drop hlt a)
      generalize gp s.e j = p at *
      obtain ⟨pq, pv⟩ := p
      simp only at x0 x1 hst
      have hkk := hid (show j + 1 ≤ s.e.length ∧ s.e.length - (j + 1) < s.e.length - j by omega)
      have b1 := hid (Bw.box1 wr (.cells #[.int .i64 pq, .int .i64 pv] 34))
      have hK2 := hid ((b1.out.out.block _ (blk_lt hK.out)).trans hK.out)
      by_cases hle : pq ≤ a
      · have t3 : decide (pq ≤ a) = true := decide_eq_true hle
        have HZ := hid (show ibOk s = false by rw [← HRes.out, hE.out, hst.out, decide_eq_false (show ¬ a < pq by omega)]; simp)
        clear hle
        go_wp2
        go_ret
        exact ⟨ret_bool HZ.out.symm, hB.out.trans b1.out⟩
      · have t3 : decide (pq ≤ a) = false := decide_eq_false hle
        have hE2 := hid (show R = okFrom (s.e.drop (j + 1)) pq by rw [hE.out, hst.out, decide_eq_true (show a < pq by omega), Bool.true_and])
        have hB2 := hid (hB.out.trans b1.out)
        clear hle hE hB hK hst
        go_wp2
        go_roundw
        case rel => exact ⟨j + 1, _, hkk.out.1, by go_num, rfl, hE2, hB2, hK2⟩
        case measure => simp [intOf]; have := hkk.out; omega
    · obtain rfl : s.e.length = j := by omega
      have t1 : decide ((s.e.length : Int) < (s.e.length : Int)) = false := decide_eq_false (by omega)
      have HRT := hid (show R = true by rw [hE.out, okFrom_end])
      have k0 := (blk_cell hK.out 0).trans (show _ = some (Value.slice A s.g.length c) from rfl)
      have k1 := (blk_cell hK.out 1).trans (show _ = some (Value.slice B s.e.length d) from rfl)
      have hB2 := hid hB.out
      by_cases h1 : s.g.length ≤ 1000
      · have t2 : decide ((s.g.length : Int) ≤ 1000) = true := decide_eq_true (by omega)
        have t3 : decide (s.g.length ≤ 1000) = true := decide_eq_true h1
        by_cases h2 : s.e.length ≤ 16
        · have t4 : decide ((s.e.length : Int) ≤ 16) = true := decide_eq_true (by omega)
          have t5 : decide (s.e.length ≤ 16) = true := decide_eq_true h2
          have HZ := hid (show ibOk s = true by rw [← HRes.out, HRT.out, t3, t5]; rfl)
          clear h1 h2
          go_wp2
          go_ret
          exact ⟨ret_bool HZ.out.symm, hB2.out⟩
        · have t4 : decide ((s.e.length : Int) ≤ 16) = false := decide_eq_false (by omega)
          have t5 : decide (s.e.length ≤ 16) = false := decide_eq_false h2
          have HZ := hid (show ibOk s = false by rw [← HRes.out, HRT.out, t3, t5]; rfl)
          clear h1 h2
          go_wp2
          go_ret
          exact ⟨ret_bool HZ.out.symm, hB2.out⟩
      · have t2 : decide ((s.g.length : Int) ≤ 1000) = false := decide_eq_false (by omega)
        have t3 : decide (s.g.length ≤ 1000) = false := decide_eq_false h1
        have HZ := hid (show ibOk s = false by rw [← HRes.out, t3]; rfl)
        clear h1
        go_wp2
        go_ret
        exact ⟨ret_bool HZ.out.symm, hB2.out⟩
set_option maxHeartbeats 4000000 in
set_option maxRecDepth 100000 in
theorem spec_InboxOk (x : Value) (s : Ib) (w : World) (hx : IbR w x s) : Calls Try.prog 30 #[x] w fun e w' => e = .returned (.bool (ibOk s)) ∧ Bw w w' := by
  obtain ⟨A, c, B, d, rfl, r, q, h1, h2⟩ := hx
  have b0 := Bw.box1 w (.cells #[.slice A s.g.length c, .slice B s.e.length d] 31)
  have g0 := box_cell (Bw.refl (w.alloc (.cells #[.slice A s.g.length c, .slice B s.e.length d] 31))) 0
  have g1 := box_cell (Bw.refl (w.alloc (.cells #[.slice A s.g.length c, .slice B s.e.length d] 31))) 1
  simp only [List.getElem?_toArray, List.getElem?_cons_zero, List.getElem?_cons_succ] at g0 g1
  obtain ⟨R, HR⟩ : ∃ R, Hid (R = okFrom s.e (s.g.length : Int)) := ⟨_, hid rfl⟩
  have HRes := hid (show (decide (s.g.length ≤ 1000) && (decide (s.e.length ≤ 16) && R)) = ibOk s by rw [HR.out]; rfl)
  have HN : Hid (R = okFrom (s.e.drop 0) (s.g.length : Int)) := hid (by rw [List.drop_zero]; exact HR.out)
  have HK := hid (heap_alloc_new w (.cells #[.slice A s.g.length c, .slice B s.e.length d] 31 (0, 0)))
  have HB0 := hid b0
  have hq := q.max
  clear b0 h1 h2 r
  by_cases h1 : s.g.length ≤ 1000
  case neg =>
    have t2 : decide ((s.g.length : Int) > 1000) = true := decide_eq_true (by omega)
    have t3 : decide (s.g.length > 1000) = true := decide_eq_true (by omega)
    have t4 : decide (1000 < s.g.length) = true := decide_eq_true (by omega)
    have HZ := hid (show ibOk s = false by rw [← HRes.out, decide_eq_false h1]; rfl)
    clear h1
    go_enter Try.func30, Try.ntmps30
    go_wp2
    go_ret
    exact ⟨ret_bool HZ.out.symm, HB0.out⟩
  have t1 : decide ((s.g.length : Int) > 1000) = false := decide_eq_false (by omega)
  have t2 : decide (s.g.length > 1000) = false := decide_eq_false (by omega)
  have t3 : decide (1000 < s.g.length) = false := decide_eq_false (by omega)
  by_cases h2 : s.e.length ≤ 16
  case neg =>
    have t4 : decide ((s.e.length : Int) > 16) = true := decide_eq_true (by omega)
    have t5 : decide (s.e.length > 16) = true := decide_eq_true (by omega)
    have t6 : decide (16 < s.e.length) = true := decide_eq_true (by omega)
    have HZ := hid (show ibOk s = false by rw [← HRes.out, decide_eq_false h2]; simp)
    clear h1 h2
    go_enter Try.func30, Try.ntmps30
    go_wp2
    go_ret
    exact ⟨ret_bool HZ.out.symm, HB0.out⟩
  have t4 : decide ((s.e.length : Int) > 16) = false := decide_eq_false (by omega)
  have t5 : decide (s.e.length > 16) = false := decide_eq_false (by omega)
  have t6 : decide (16 < s.e.length) = false := decide_eq_false (by omega)
  have HRS := hid (show R = ibOk s by rw [← HRes.out, decide_eq_true h1, decide_eq_true h2]; rfl)
  clear h1 h2
  go_enter Try.func30, Try.ntmps30
  go_upto_region 1 with fail
  generalize (w.alloc (.cells #[.slice A s.g.length c, .slice B s.e.length d] 31)) = W1 at *
  go_wp2
  clear g0 g1 t1 t2 t3 t4 t5 t6
  go_loopw [3, 4] (fun v3 v4 wr => ∃ (j : Nat) (a : Int), j ≤ s.e.length ∧ v4 = .int .i64 j ∧ v3 = .int .i64 a ∧ Hid (R = okFrom (s.e.drop j) a) ∧ Hid (Bw w wr) ∧ Hid (wr.heap[w.heap.size]? = some (.cells #[.slice A s.g.length c, .slice B s.e.length d] 31 (0, 0)))) (fun _ v4 _ => s.e.length - (intOf v4).toNat)
  case atStart => exact ⟨0, _, by omega, rfl, rfl, HN, HB0, HK⟩
  case round =>
    obtain ⟨j, a, hj, rfl, rfl, hE, hB, hK⟩ := hrel
    have k0 := (blk_cell hK.out 0).trans (show _ = some (Value.slice A s.g.length c) from rfl)
    have k1 := (blk_cell hK.out 1).trans (show _ = some (Value.slice B s.e.length d) from rfl)
    by_cases hlt : j < s.e.length
    · have t1 : decide ((j : Int) < (s.e.length : Int)) = true := decide_eq_true (by omega)
      have t2 : decide (j < s.e.length) = true := decide_eq_true hlt
      obtain ⟨ad, rfl, x0, x1⟩ := (q.to hB.out).at j hlt
      have hst := hid (okFrom_drop hlt a)
      generalize gp s.e j = p at *
      obtain ⟨pq, pv⟩ := p
      simp only at x0 x1 hst
      have hkk := hid (show j + 1 ≤ s.e.length ∧ s.e.length - (j + 1) < s.e.length - j by omega)
      by_cases hle : pq ≤ a
      · have t3 : decide (pq ≤ a) = true := decide_eq_true hle
        have HZ := hid (show ibOk s = false by rw [← HRS.out, hE.out, hst.out, decide_eq_false (show ¬ a < pq by omega)]; simp)
        clear hle
        go_wp2
        go_ret
        exact ⟨ret_bool HZ.out.symm, hB.out⟩
      · have t3 : decide (pq ≤ a) = false := decide_eq_false hle
        have hE2 := hid (show R = okFrom (s.e.drop (j + 1)) pq by rw [hE.out, hst.out, decide_eq_true (show a < pq by omega), Bool.true_and])
        clear hle hE hst
        go_wp2
        go_roundw
        case rel => exact ⟨j + 1, _, hkk.out.1, by go_num, rfl, hE2, hB, hK⟩
        case measure => simp [intOf]; have := hkk.out; omega
    · obtain rfl : s.e.length = j := by omega
      have t1 : decide ((s.e.length : Int) < (s.e.length : Int)) = false := decide_eq_false (by omega)
      have HZ := hid (show ibOk s = true by rw [← HRS.out, hE.out, okFrom_end])
      go_wp2
      go_ret
      exact ⟨ret_bool HZ.out.symm, hB.out⟩
theorem impl_early (x : Value) (s : Ib) (y : Int) (w : World) (hx : IbR w x s) (ho : ibOk s = true) :
    Calls Try.prog 36 #[x, .int .i64 y] w fun e w' => e = .returned (.tuple #[.int .i64 (posP s.e y : Nat), .bool (decide (posP s.e y < s.e.length) && ((gp s.e (posP s.e y)).q == y))]) ∧ Bw w w' := by
  obtain ⟨A, c, B, d, rfl, r, q, h1, h2⟩ := hx
  have hs : bsW (fun j => (gp s.e j).q) y 0 s.e.length = posP s.e y := by
    simp only [ibOk, Bool.and_eq_true] at ho
    exact bsW_pos _ _ _ ho.2.2
  have b0 := Bw.box1 w (.cells #[.slice A s.g.length c, .slice B s.e.length d] 31)
  have g0 := box_cell (Bw.refl (w.alloc (.cells #[.slice A s.g.length c, .slice B s.e.length d] 31))) 0
  have g1 := box_cell (Bw.refl (w.alloc (.cells #[.slice A s.g.length c, .slice B s.e.length d] 31))) 1
  simp only [List.getElem?_toArray, List.getElem?_cons_zero, List.getElem?_cons_succ] at g0 g1
  go_enter Try.func36, Try.ntmps36
  go_wp2_with fail
  refine (BSearch B s.e.length d _ _ y _ (q.to b0).pk).mono ?_
  rintro e w1 ⟨rfl, b1⟩
  rw [hs]
  go_wp2
  exact bodyPost_ret (v := .tuple #[.int .i64 (posP s.e y : Nat), .bool (decide (posP s.e y < s.e.length) && ((gp s.e (posP s.e y)).q == y))]) (by simp [results, Try.results36, go_sem]) rfl ⟨rfl, b0.trans b1⟩
end Go.Proofs.Ytcdibjneoemidaa.U

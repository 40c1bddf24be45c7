
/- Small words that the walks of this seat share: what a slice reads as, how worlds follow each other, whole numbers without a wrap. -/
import Derived.Test.YtcdibjneoemidaaProg
import Derived.WalkKit
import Derived.KernelRfl
import Derived.RowKit3
import Derived.Deep.QuietTactic
import Derived.BigQuiet
import Derived.Lib.Hide
import Derived.Test.YtcdibjneoemidaaWWords
set_option linter.unusedVariables false
set_option linter.unusedSimpArgs false
namespace Go.Proofs.Ytcdibjneoemidaa.U
open Go.RowKit Go.Lib Go.Proofs.YtcdibjneoemidaaW.PrintWords

theorem w64 {x : Int} (h1 : -9223372036854775808 ≤ x) (h2 : x ≤ 9223372036854775807) : wrap64 x = x := by unfold wrap64; omega
theorem ret_int {k : IntKind} {a b : Int} (h : a = b) : Ending.returned (.int k a) = .returned (.int k b) := by rw [h]
theorem ret_bool {a b : Bool} (h : a = b) : Ending.returned (.bool a) = .returned (.bool b) := by rw [h]
theorem rd_nat (xs : List Int) (i : Nat) : rd xs (i : Int) = xs.getD i 0 := by simp [rd]
theorem info_int : (Try.prog.info? 3).map (fun i => (i.zero, i.size, i.bytes)) = some (some (.int .i64 0), 1, 8) := by kernel_rfl
/-- A slice of ints that is read: its length is the list's. -/
theorem ReadsInt.len {w : World} {k : IntKind} {A : Option Addr} {n : Nat} {xs : List Int} (h : ReadsInt w k A n xs) : xs.length = n := h.1
theorem ReadsInt.max {w : World} {k : IntKind} {A : Option Addr} {n : Nat} {xs : List Int} (h : ReadsInt w k A n xs) : n ≤ 9223372036854775807 := h.2.1
/-- The cell of place i, i a natural number. -/
theorem ReadsInt.nat {w : World} {k : IntKind} {A : Option Addr} {n : Nat} {xs : List Int} (h : ReadsInt w k A n xs) (i : Nat) (hi : i < n) : ∃ ad, A = some ad ∧ w.cell? (ad.add i) = some (.int k (rd xs (i : Int))) := by
  obtain ⟨ad, e, hc⟩ := h.2.2 (by omega)
  exact ⟨ad, e, by rw [hc i hi, rd_nat]⟩
theorem ReadsInt.drewN {w : World} {k : IntKind} {A : Option Addr} {n : Nat} {xs : List Int} (h : ReadsInt w k A n xs) (m : Nat) : ReadsInt (w.drewN m) k A n xs := h.below (Drawn0.below ⟨⟨m, rfl⟩⟩)
theorem ReadsInt.drawn {w w1 : World} {k : IntKind} {A : Option Addr} {n : Nat} {xs : List Int} (h : ReadsInt w k A n xs) (hd : Drawn0 w w1) : ReadsInt w1 k A n xs := h.below hd.below
theorem below_of_drawn {B : Nat} {w w1 w2 : World} (h : Below B w w1) (hd : Drawn0 w1 w2) : Below B w w2 := by
  obtain ⟨n, rfl⟩ := hd
  exact pw_below_drewN h n
theorem own_drawn {w w1 : World} {base : Nat} {e : TypeId} {size n : Nat} {v : Value} {xs : List Value} (h : w.ownsRow base e size v n xs) (hd : Drawn0 w w1) : w1.ownsRow base e size v n xs := pw_own_below h hd.below
/-- What the walks carry from call to call, closed to their simp: a slice of ints that is read; a row of ints of the call's own; that a world follows another. -/
structure RI (w : World) (A : Option Addr) (n : Nat) (l : List Int) : Prop where mk :: (out : ReadsInt w .i64 A n l)
structure OI (w : World) (base : Nat) (v : Value) (n : Nat) (l : List Int) : Prop where mk :: (out : w.ownsRow base 3 1 v n (nums .i64 l))
structure Bw (w w' : World) : Prop where mk :: (out : Below w.heap.size w w')
theorem Bw.refl (w : World) : Bw w w := ⟨Below.refl _ _⟩
theorem Bw.trans {a b c : World} (h : Bw a b) (k : Bw b c) : Bw a c := ⟨below_then h.out h.out.size k.out⟩
theorem Bw.drawn {a b : World} (h : Drawn0 a b) : Bw a b := ⟨h.below⟩
theorem Bw.size {a b : World} (h : Bw a b) : a.heap.size ≤ b.heap.size := h.out.size
theorem RI.to {w w' : World} {A : Option Addr} {n : Nat} {l : List Int} (h : RI w A n l) (b : Bw w w') : RI w' A n l := ⟨h.out.below b.out⟩
theorem RI.dr {w w' : World} {A : Option Addr} {n : Nat} {l : List Int} (h : RI w A n l) (b : Drawn0 w w') : RI w' A n l := ⟨h.out.below b.below⟩
theorem RI.len {w : World} {A : Option Addr} {n : Nat} {l : List Int} (h : RI w A n l) : l.length = n := h.out.1
theorem RI.max {w : World} {A : Option Addr} {n : Nat} {l : List Int} (h : RI w A n l) : n ≤ 9223372036854775807 := h.out.2.1
theorem RI.nat {w : World} {A : Option Addr} {n : Nat} {l : List Int} (h : RI w A n l) (i : Nat) (hi : i < n) : ∃ ad, A = some ad ∧ w.cell? (ad.add i) = some (.int .i64 (rd l (i : Int))) := ReadsInt.nat h.out i hi
theorem OI.to {w w' : World} {base n : Nat} {v : Value} {l : List Int} (h : OI w base v n l) (b : Bw w w') : OI w' base v n l := ⟨pw_own_below h.out b.out⟩
theorem OI.len {w : World} {base n : Nat} {v : Value} {l : List Int} (h : OI w base v n l) : l.length = n := by have := h.out.1; simpa [nums] using this
theorem OI.reads {w : World} {base n : Nat} {v : Value} {l : List Int} (h : OI w base v n l) : ∃ A c, v = .slice A n c ∧ RI w A n l := by
  obtain ⟨A, c, e, r⟩ := own_reads h.out
  exact ⟨A, c, e, ⟨r⟩⟩
theorem OI.ri {w : World} {base n m c : Nat} {A : Option Addr} {l : List Int} (h : OI w base (.slice A m c) n l) : RI w A n l := by
  obtain ⟨A', c', e, r⟩ := h.reads
  injection e with e1 e2 e3
  subst e1
  exact r
/-- Two rows do not lie in one block. -/
def Apart (v u : Value) : Prop := v.ownBlock = none ∨ v.ownBlock ≠ u.ownBlock
/-- A row that is older than another lies apart from it. -/
theorem OI.apart {w w' : World} {base n base' n' : Nat} {v v' : Value} {l l' : List Int} (h : OI w base v n l) (h' : OI w' base' v' n' l') (hb : w.heap.size ≤ base') : Apart v v' := by
  rcases hv : v.ownBlock with _ | k
  · exact .inl hv
  · refine .inr fun e => ?_
    have h1 := own_lt h.out k hv
    have h2 := own_base h'.out k (by rw [← e, hv])
    omega
theorem Apart.symm {v u : Value} (h : Apart v u) : Apart u v := by
  rcases hu : u.ownBlock with _ | k
  · exact .inl hu
  · refine .inr fun e => ?_
    rcases h with h | h
    · rw [e] at hu; rw [h] at hu; cases hu
    · exact h e.symm
theorem OI.grown {w w' : World} {base n : Nat} {v u : Value} {l : List Int} (h : OI w base v n l) (hg : w.grownBy w' u.ownBlock) (ha : Apart v u) : OI w' base v n l := ⟨own_other h.out hg ha⟩
theorem Bw.grown {w w1 w2 : World} {base n : Nat} {u : Value} {l : List Int} (h : Bw w w1) (hg : w1.grownBy w2 u.ownBlock) (ho : OI w1 base u n l) (hb : w.heap.size ≤ base) : Bw w w2 :=
  ⟨h.out.grown hg h.out.size (fun k hk => Nat.le_trans hb (own_base ho.out k hk))⟩
theorem grown_refl (w : World) (row : Option Nat) : w.grownBy w row := grown_of_below (Below.refl _ _) row
theorem grown_set {w w1 : World} {g : Nat} (h : w.grownBy w1 (some g)) (i : Nat) (u : Value) : w.grownBy (w1.setCell ⟨g, i, none⟩ u) (some g) :=
  ⟨h.os, h.tape, h.output, by simpa [World.setCell] using h.size, fun k hk hne => by
    rw [Below.heap_setCell _ _ _ _ (by intro e; exact hne (by rw [e]))]
    exact h.block k hk hne⟩
theorem grown_drawn {w w1 w2 : World} {row : Option Nat} (h : w.grownBy w1 row) (hd : Drawn0 w1 w2) : w.grownBy w2 row := by
  obtain ⟨n, rfl⟩ := hd
  exact ⟨h.os, h.tape, h.output, h.size, h.block⟩
end Go.Proofs.Ytcdibjneoemidaa.U
set_option linter.unusedVariables false
set_option linter.unusedSimpArgs false
namespace Go.Proofs.Ytcdibjneoemidaa.U
open Go.RowKit Go.Lib Go.Proofs.YtcdibjneoemidaaW.PrintWords

theorem set_copy (xs : List Int) (k : Nat) (hk : k < xs.length) : (xs.take k ++ List.replicate (xs.length - k) 0).set k (rd xs (k : Int)) = xs.take (k + 1) ++ List.replicate (xs.length - (k + 1)) 0 := by
  apply List.ext_getElem?
  intro j
  rw [List.getElem?_set]
  by_cases hj : k = j
  · subst hj
    rw [if_pos rfl, if_pos (by simp; omega), List.getElem?_append_left (by simp; omega), List.getElem?_take, if_pos (by omega), rd_nat]
    simp [List.getElem?_eq_getElem hk]
  · rw [if_neg hj]
    by_cases h1 : j < k
    · rw [List.getElem?_append_left (by simp; omega), List.getElem?_append_left (by simp; omega), List.getElem?_take, if_pos h1, List.getElem?_take, if_pos (by omega)]
    · rw [List.getElem?_append_right (by simp; omega), List.getElem?_append_right (by simp; omega)]
      simp only [List.length_take, List.getElem?_replicate]
      have : min k xs.length = k := by omega
      have : min (k + 1) xs.length = k + 1 := by omega
      by_cases h2 : j < xs.length
      · rw [if_pos (by omega), if_pos (by omega)]
      · rw [if_neg (by omega), if_neg (by omega)]
set_option maxHeartbeats 1000000 in
theorem toIntS (A : Option Addr) (n c : Nat) (l : List Int) (w : World) (hR : RI w A n l) (hn : n ≤ 1048576) :
    Calls Try.prog 23 #[.slice A n c] w fun e w' => ∃ v, e = .returned v ∧ OI w' w.heap.size v n l ∧ Bw w w' := by
  have h := hR.out; clear hR
  have hl : l.length = n := h.1
  obtain ⟨i0, hi, hz0, hz1, hz2⟩ := info_parts info_int
  have hmk := print_make (P := Try.prog) 22 3 .i64 8 Try.underlying22 info_int (by omega) n (by omega)
  have H := hid h; clear h
  have HL := hid hl; clear hl
  go_enter Try.func23, Try.ntmps23
  go_wp2
  have hown := own_made w w.heap.size 3 .i64 n (Nat.le_refl _) (by omega)
  obtain ⟨W0, hW0⟩ : ∃ W0 : World, W0 = w.alloc (.cells (madeCells #[.int .i64 0] n) 3) := ⟨_, rfl⟩
  rw [← hW0] at hown ⊢
  have hb0 : Below w.heap.size w W0 := by rw [hW0]; exact below_alloc (Below.refl _ _) _
  clear hW0
  go_loopw [4] (fun i wr => ∃ k : Nat, k ≤ n ∧ i = .int .i64 k ∧ Hid (wr.ownsRow w.heap.size 3 1 (.slice (some ⟨w.heap.size, 0, none⟩) n n) n (nums .i64 (l.take k ++ List.replicate (l.length - k) 0))) ∧ Hid (Below w.heap.size w wr)) (fun i _ => n - (intOf i).toNat)
  case atStart => exact ⟨0, by omega, rfl, hid (by simpa [HL.out] using hown), hid hb0⟩
  case round =>
    obtain ⟨k, hk, rfl, hO, hB⟩ := hrel
    by_cases hlt : k < n
    · obtain ⟨ad, rfl, hc⟩ := ReadsInt.nat (H.out.below hB.out) k hlt
      obtain ⟨ho1, ho2⟩ := own_at hO.out (k : Int) (by omega) (by omega)
      rw [Int.toNat_natCast] at ho1 ho2
      go_wp2
      go_roundw
      case rel =>
        have hs := (own_store hO.out (k : Int) (rd l (k : Int))).1
        rw [Int.toNat_natCast, set_copy l k (by rw [HL.out]; exact hlt)] at hs
        exact ⟨k + 1, by omega, by go_num, hid hs, hid (hB.out.setCell (Nat.le_refl _) _)⟩
      case measure => simp [intOf]; omega
    · obtain rfl : k = n := by omega
      go_wp2
      go_ret
      refine ⟨_, rfl, ⟨?_⟩, ⟨hB.out⟩⟩
      have ho := hO.out
      rwa [HL.out, Nat.sub_self, List.take_of_length_le (by rw [HL.out]; exact Nat.le_refl _), List.replicate_zero, List.append_nil] at ho
theorem eq_at_end (a b : List Int) (n : Nat) (ha : a.length = n) (hb : b.length = n) (h : ∀ j, j < n → rd a (j : Int) = rd b (j : Int)) : a = b := by
  apply List.ext_getElem (by omega)
  intro j h1 h2
  have := h j (by omega)
  rw [rd_nat, rd_nat] at this
  simpa [List.getD_eq_getElem?_getD, h1, h2] using this
set_option maxHeartbeats 1000000 in
theorem eqIntS (A : Option Addr) (n c : Nat) (a : List Int) (B : Option Addr) (m d : Nat) (b : List Int) (w : World) (hRa : RI w A n a) (hRb : RI w B m b) :
    Calls Try.prog 24 #[.slice A n c, .slice B m d] w fun e w' => e = .returned (.bool (decide (a = b))) ∧ Drawn0 w w' := by
  have ha := hRa.out; clear hRa
  have hb := hRb.out; clear hRb
  have hm := ReadsInt.max ha
  by_cases hlen : n = m
  · subst hlen
    have hyes : (∀ j, j < n → rd a (j : Int) = rd b (j : Int)) → decide (a = b) = true := fun h => decide_eq_true (eq_at_end a b n ha.1 hb.1 h)
    have hno : ∀ j, j < n → rd a (j : Int) ≠ rd b (j : Int) → decide (a = b) = false := fun j hj h => decide_eq_false (fun e => h (by rw [e]))
    generalize decide (a = b) = R at *
    have HA := hid ha; clear ha
    have HB := hid hb; clear hb
    have HY := hid hyes; clear hyes
    have HN := hid hno; clear hno
    go_enter Try.func24, Try.ntmps24
    go_wp2
    go_loopw [5] (fun i wr => ∃ k : Nat, k ≤ n ∧ i = .int .i64 k ∧ Hid (∀ j, j < k → rd a (j : Int) = rd b (j : Int)) ∧ Hid (Drawn0 w wr)) (fun i _ => n - (intOf i).toNat)
    case atStart => exact ⟨0, by omega, rfl, hid (fun j hj => by omega), hid (Drawn0.refl _)⟩
    case round =>
      obtain ⟨k, hk, rfl, hE, hD⟩ := hrel
      by_cases hlt : k < n
      · obtain ⟨ad, rfl, hc⟩ := ReadsInt.nat (ReadsInt.drawn HA.out hD.out) k hlt
        obtain ⟨ae, rfl, hc2⟩ := ReadsInt.nat (ReadsInt.drawn HB.out hD.out) k hlt
        by_cases he : rd a (k : Int) = rd b (k : Int)
        · have hb' : (rd a (k : Int) != rd b (k : Int)) = false := by simp [he]
          have hE2 : Hid (∀ j, j < k + 1 → rd a (j : Int) = rd b (j : Int)) := hid fun j hj => by
            by_cases e : j = k
            · rw [e]; exact he
            · exact hE.out j (by omega)
          clear he
          go_wp2
          go_quiet (fail)
          go_wp2
          go_roundw
          case rel => exact ⟨k + 1, by omega, by go_num, hE2, hid (hD.out.step _)⟩
          case measure => simp [intOf]; omega
        · have hb' : (rd a (k : Int) != rd b (k : Int)) = true := by simp [he]
          have hR := HN.out k hlt he
          have HR := hid hR
          clear he hR
          go_wp2
          go_quiet (fail)
          go_wp2
          go_ret
          exact ⟨ret_bool HR.out.symm, hD.out.step _⟩
      · obtain rfl : k = n := by omega
        have HR := hid (HY.out hE.out)
        go_wp2
        go_ret
        exact ⟨ret_bool HR.out.symm, hD.out⟩
  · have hlen' : decide (a = b) = false := decide_eq_false (fun e => hlen (by rw [← ha.1, ← hb.1, e]))
    rw [hlen']
    have hne : ((n : Int) != (m : Int)) = true := bne_iff_ne.mpr (by omega)
    clear hlen' ha hb
    go_enter Try.func24, Try.ntmps24
    go_wp2
    go_ret
    exact ⟨rfl, Drawn0.refl _⟩
/-- a, a + 1, and so on: n numbers -/
def iota : Nat → Int → List Int
  | 0, _ => []
  | n + 1, a => a :: iota n (a + 1)
theorem iota_length : ∀ (n : Nat) (a : Int), (iota n a).length = n
  | 0, _ => rfl
  | n + 1, a => by simp [iota, iota_length n]
theorem iota_get : ∀ (n : Nat) (a : Int) (i : Nat), i < n → (iota n a)[i]? = some (a + i)
  | n + 1, a, 0, _ => by simp [iota]
  | n + 1, a, i + 1, h => by simp only [iota, List.getElem?_cons_succ]; rw [iota_get n (a + 1) i (by omega)]; congr 1; push_cast; omega
theorem iota_rd (n : Nat) (a : Int) (i : Nat) (h : i < n) : rd (iota n a) (i : Int) = a + i := by
  rw [rd_nat, List.getD_eq_getElem?_getD, iota_get n a i h]; rfl
theorem set_iota (xs : List Int) (a : Int) (k : Nat) (hk : k < xs.length) : (iota k a ++ xs.drop k).set k (a + k) = iota (k + 1) a ++ xs.drop (k + 1) := by
  apply List.ext_getElem?
  intro j
  rw [List.getElem?_set]
  by_cases hj : k = j
  · subst hj
    rw [if_pos rfl, if_pos (by simp [iota_length]; omega), List.getElem?_append_left (by simp [iota_length]), iota_get _ _ _ (by omega)]
  · rw [if_neg hj]
    by_cases h1 : j < k
    · rw [List.getElem?_append_left (by simp [iota_length]; omega), List.getElem?_append_left (by simp [iota_length]; omega), iota_get _ _ _ h1, iota_get _ _ _ (by omega)]
    · rw [List.getElem?_append_right (by simp [iota_length]; omega), List.getElem?_append_right (by simp [iota_length]; omega)]
      simp only [iota_length, List.getElem?_drop]
      congr 1
      omega
set_option maxHeartbeats 1000000 in
/-- The law writes 1, 2, .. into a row of its own. -/
theorem markIntS (v : Value) (n : Nat) (l : List Int) (a : Int) (w : World) (base : Nat) (hO : OI w base v n l) (hn : n ≤ 1048576) (h0 : 0 ≤ a) (ha : a ≤ 1000000000000) :
    Calls Try.prog 25 #[v, .int .i64 a] w fun e w' => e = .returned (.int .i64 (a + n)) ∧ OI w' base v n (iota n a) ∧ w.grownBy w' v.ownBlock := by
  have h := hO.out; clear hO
  have hl : l.length = n := by have := h.1; simpa [nums] using this
  have HL := hid hl; clear hl
  obtain ⟨A, c, rfl⟩ := own_slice h
  have H := hid h; clear h
  obtain ⟨row, hrow⟩ : ∃ row, row = (Value.slice A n c).ownBlock := ⟨_, rfl⟩
  have HRW := hid hrow
  rw [← hrow]
  clear hrow
  go_enter Try.func25, Try.ntmps25
  go_wp2
  go_loopw [1, 5] (fun v1 v5 wr => ∃ k : Nat, k ≤ n ∧ v1 = .int .i64 (a + k) ∧ v5 = .int .i64 k ∧ Hid (wr.ownsRow base 3 1 (.slice A n c) n (nums .i64 (iota k a ++ l.drop k))) ∧ Hid (w.grownBy wr row)) (fun _ v5 _ => n - (intOf v5).toNat)
  case atStart => exact ⟨0, by omega, by simp, rfl, hid (by simpa [iota] using H.out), hid (grown_refl _ _)⟩
  case round =>
    obtain ⟨k, hk, rfl, rfl, hO, hG⟩ := hrel
    by_cases hlt : k < n
    · obtain ⟨g, cap, e, hgb, hgl⟩ := hO.out.form (by omega)
      obtain ⟨rfl, rfl⟩ : A = some ⟨g, 0, none⟩ ∧ c = cap := by injection e with e1 _ e3; exact ⟨e1, e3⟩
      clear e
      obtain ⟨ho1, ho2⟩ := own_at hO.out (k : Int) (by omega) (by omega)
      rw [Int.toNat_natCast] at ho1 ho2
      obtain rfl : row = some g := HRW.out
      go_wp2
      go_roundw
      case rel =>
        have hs := (own_store hO.out (k : Int) (a + k)).1
        rw [Int.toNat_natCast, set_iota l a k (by rw [HL.out]; exact hlt)] at hs
        exact ⟨k + 1, by omega, by go_num, by go_num, hid hs, hid (grown_set hG.out _ _)⟩
      case measure => simp [intOf]; omega
    · obtain rfl : k = n := by omega
      go_wp2
      go_ret
      refine ⟨rfl, ⟨?_⟩, hG.out⟩
      have ho := hO.out
      rwa [List.drop_of_length_le (by rw [HL.out]; exact Nat.le_refl _), List.append_nil] at ho
set_option maxHeartbeats 1000000 in
theorem heldIntS (A : Option Addr) (n c : Nat) (a : Int) (w : World) (hR : RI w A n (iota n a)) (hn : n ≤ 1048576) (h0 : 0 ≤ a) (ha : a ≤ 1000000000000) :
    Calls Try.prog 26 #[.slice A n c, .int .i64 a] w fun e w' => e = .returned (.int .i64 (a + n)) ∧ Drawn0 w w' := by
  have h := hR.out; clear hR
  have H := hid h; clear h
  go_enter Try.func26, Try.ntmps26
  go_wp2
  go_loopw [1, 5] (fun v1 v5 wr => ∃ k : Nat, k ≤ n ∧ v1 = .int .i64 (a + k) ∧ v5 = .int .i64 k ∧ Hid (Drawn0 w wr)) (fun _ v5 _ => n - (intOf v5).toNat)
  case atStart => exact ⟨0, by omega, by simp, rfl, hid (Drawn0.refl _)⟩
  case round =>
    obtain ⟨k, hk, rfl, rfl, hD⟩ := hrel
    by_cases hlt : k < n
    · obtain ⟨ad, rfl, hc⟩ := ReadsInt.nat (ReadsInt.drawn H.out hD.out) k hlt
      rw [iota_rd n a k hlt] at hc
      go_wp2
      try (go_quiet (fail); go_wp2)
      go_roundw
      case rel => exact ⟨k + 1, by omega, by go_num, by go_num, hid (by first | exact hD.out | exact hD.out.step _)⟩
      case measure => simp [intOf]; omega
    · obtain rfl : k = n := by omega
      go_wp2
      go_ret
      exact ⟨rfl, hD.out⟩
end Go.Proofs.Ytcdibjneoemidaa.U
set_option linter.unusedVariables false
set_option linter.unusedSimpArgs false
namespace Go.Proofs.Ytcdibjneoemidaa.U
open Go.RowKit Go.Lib Go.Proofs.YtcdibjneoemidaaW.PrintWords

/-- n lies in the range a to b -/
def inR (n a b : Int) : Bool := decide (a ≤ n) && decide (n ≤ b)
theorem inR_iff {n a b : Int} : inR n a b = true ↔ a ≤ n ∧ n ≤ b := by simp [inR]
theorem inR_yes {n a b : Int} (h : a ≤ n ∧ n ≤ b) : inR n a b = true := inR_iff.2 h
theorem inR_no {n a b : Int} (h : ¬ (a ≤ n ∧ n ≤ b)) : inR n a b = false := by rw [← Bool.not_eq_true, inR_iff]; exact h
theorem inR_false {n a b : Int} (h : inR n a b = false) : ¬ (a ≤ n ∧ n ≤ b) := by rw [← inR_iff, h]; simp
theorem add_pos (ad : Addr) (j : Nat) (h : 0 < j) : ad.add j = ⟨ad.block, ad.off + j, none⟩ := by
  have := add_field ad 0 j h
  rw [Nat.zero_add] at this
  rw [this]
  simp [Addr.add]
end Go.Proofs.Ytcdibjneoemidaa.U


/- Small words that the walks of this seat share: what a slice reads as, how worlds follow each other, whole numbers without a wrap. -/
import Derived.Test.YtaidbdogolhnjaaProg
import Derived.WalkKit
import Derived.KernelRfl
import Derived.RowKit3
import Derived.Deep.QuietTactic
import Derived.BigQuiet
import Derived.Lib.Hide
import Derived.Test.YtaidbdogolhnjaaWWords
set_option linter.unusedVariables false
set_option linter.unusedSimpArgs false
namespace Go.Proofs.Ytaidbdogolhnjaa.U
open Go.RowKit Go.Lib Go.Proofs.YtaidbdogolhnjaaW.PrintWords

theorem w64 {x : Int} (h1 : -9223372036854775808 ≤ x) (h2 : x ≤ 9223372036854775807) : wrap64 x = x := by unfold wrap64; omega
theorem ret_int {k : IntKind} {a b : Int} (h : a = b) : Ending.returned (.int k a) = .returned (.int k b) := by rw [h]
theorem ret_bool {a b : Bool} (h : a = b) : Ending.returned (.bool a) = .returned (.bool b) := by rw [h]
theorem rd_nat (xs : List Int) (i : Nat) : rd xs (i : Int) = xs.getD i 0 := by simp [rd]
theorem info_int : (Try.prog.info? 3).map (fun i => (i.zero, i.size, i.bytes)) = some (some (.int .i64 0), 1, 8) := by kernel_rfl
/-- A slice of ints that is read: its length is the list's. -/
theorem ReadsInt.len {w : World} {k : IntKind} {A : Option Addr} {n : Nat} {xs : List Int} (h : ReadsInt w k A n xs) : xs.length = n := h.1
theorem ReadsInt.max {w : World} {k : IntKind} {A : Option Addr} {n : Nat} {xs : List Int} (h : ReadsInt w k A n xs) : n ≤ 9223372036854775807 := h.2.1
/-- The cell of place i, i a natural number. -/
theorem ReadsInt.nat {w : World} {k : IntKind} {A : Option Addr} {n : Nat} {xs : List Int} (h : ReadsInt w k A n xs) (i : Nat) (hi : i < n) : ∃ ad, A = some ad ∧ w.cell? (ad.add i) = some (.int k (rd xs (i : Int))) := by
  obtain ⟨ad, e, hc⟩ := h.2.2 (by omega)
  exact ⟨ad, e, by rw [hc i hi, rd_nat]⟩
theorem ReadsInt.drewN {w : World} {k : IntKind} {A : Option Addr} {n : Nat} {xs : List Int} (h : ReadsInt w k A n xs) (m : Nat) : ReadsInt (w.drewN m) k A n xs := h.below (Drawn0.below ⟨⟨m, rfl⟩⟩)
theorem ReadsInt.drawn {w w1 : World} {k : IntKind} {A : Option Addr} {n : Nat} {xs : List Int} (h : ReadsInt w k A n xs) (hd : Drawn0 w w1) : ReadsInt w1 k A n xs := h.below hd.below
theorem below_of_drawn {B : Nat} {w w1 w2 : World} (h : Below B w w1) (hd : Drawn0 w1 w2) : Below B w w2 := by
  obtain ⟨n, rfl⟩ := hd
  exact pw_below_drewN h n
theorem own_drawn {w w1 : World} {base : Nat} {e : TypeId} {size n : Nat} {v : Value} {xs : List Value} (h : w.ownsRow base e size v n xs) (hd : Drawn0 w w1) : w1.ownsRow base e size v n xs := pw_own_below h hd.below
/-- What the walks carry from call to call, closed to their simp: a slice of ints that is read; a row of ints of the call's own; that a world follows another. -/
structure RI (w : World) (A : Option Addr) (n : Nat) (l : List Int) : Prop where mk :: (out : ReadsInt w .i64 A n l)
structure OI (w : World) (base : Nat) (v : Value) (n : Nat) (l : List Int) : Prop where mk :: (out : w.ownsRow base 3 1 v n (nums .i64 l))
structure Bw (w w' : World) : Prop where mk :: (out : Below w.heap.size w w')
theorem Bw.refl (w : World) : Bw w w := ⟨Below.refl _ _⟩
theorem Bw.trans {a b c : World} (h : Bw a b) (k : Bw b c) : Bw a c := ⟨below_then h.out h.out.size k.out⟩
theorem Bw.drawn {a b : World} (h : Drawn0 a b) : Bw a b := ⟨h.below⟩
theorem Bw.size {a b : World} (h : Bw a b) : a.heap.size ≤ b.heap.size := h.out.size
theorem RI.to {w w' : World} {A : Option Addr} {n : Nat} {l : List Int} (h : RI w A n l) (b : Bw w w') : RI w' A n l := ⟨h.out.below b.out⟩
theorem RI.dr {w w' : World} {A : Option Addr} {n : Nat} {l : List Int} (h : RI w A n l) (b : Drawn0 w w') : RI w' A n l := ⟨h.out.below b.below⟩
theorem RI.len {w : World} {A : Option Addr} {n : Nat} {l : List Int} (h : RI w A n l) : l.length = n := h.out.1
theorem RI.max {w : World} {A : Option Addr} {n : Nat} {l : List Int} (h : RI w A n l) : n ≤ 9223372036854775807 := h.out.2.1
theorem RI.nat {w : World} {A : Option Addr} {n : Nat} {l : List Int} (h : RI w A n l) (i : Nat) (hi : i < n) : ∃ ad, A = some ad ∧ w.cell? (ad.add i) = some (.int .i64 (rd l (i : Int))) := ReadsInt.nat h.out i hi
theorem OI.to {w w' : World} {base n : Nat} {v : Value} {l : List Int} (h : OI w base v n l) (b : Bw w w') : OI w' base v n l := ⟨pw_own_below h.out b.out⟩
theorem OI.len {w : World} {base n : Nat} {v : Value} {l : List Int} (h : OI w base v n l) : l.length = n := by have := h.out.1; simpa [nums] using this
theorem OI.reads {w : World} {base n : Nat} {v : Value} {l : List Int} (h : OI w base v n l) : ∃ A c, v = .slice A n c ∧ RI w A n l := by
  obtain ⟨A, c, e, r⟩ := own_reads h.out
  exact ⟨A, c, e, ⟨r⟩⟩
theorem OI.ri {w : World} {base n m c : Nat} {A : Option Addr} {l : List Int} (h : OI w base (.slice A m c) n l) : RI w A n l := by
  obtain ⟨A', c', e, r⟩ := h.reads
  injection e with e1 e2 e3
  subst e1
  exact r
/-- Two rows do not lie in one block. -/
def Apart (v u : Value) : Prop := v.ownBlock = none ∨ v.ownBlock ≠ u.ownBlock
/-- A row that is older than another lies apart from it. -/
theorem OI.apart {w w' : World} {base n base' n' : Nat} {v v' : Value} {l l' : List Int} (h : OI w base v n l) (h' : OI w' base' v' n' l') (hb : w.heap.size ≤ base') : Apart v v' := by
  rcases hv : v.ownBlock with _ | k
  · exact .inl hv
  · refine .inr fun e => ?_
    have h1 := own_lt h.out k hv
    have h2 := own_base h'.out k (by rw [← e, hv])
    omega
theorem Apart.symm {v u : Value} (h : Apart v u) : Apart u v := by
  rcases hu : u.ownBlock with _ | k
  · exact .inl hu
  · refine .inr fun e => ?_
    rcases h with h | h
    · rw [e] at hu; rw [h] at hu; cases hu
    · exact h e.symm
theorem OI.grown {w w' : World} {base n : Nat} {v u : Value} {l : List Int} (h : OI w base v n l) (hg : w.grownBy w' u.ownBlock) (ha : Apart v u) : OI w' base v n l := ⟨own_other h.out hg ha⟩
theorem Bw.grown {w w1 w2 : World} {base n : Nat} {u : Value} {l : List Int} (h : Bw w w1) (hg : w1.grownBy w2 u.ownBlock) (ho : OI w1 base u n l) (hb : w.heap.size ≤ base) : Bw w w2 :=
  ⟨h.out.grown hg h.out.size (fun k hk => Nat.le_trans hb (own_base ho.out k hk))⟩
theorem grown_refl (w : World) (row : Option Nat) : w.grownBy w row := grown_of_below (Below.refl _ _) row
theorem grown_set {w w1 : World} {g : Nat} (h : w.grownBy w1 (some g)) (i : Nat) (u : Value) : w.grownBy (w1.setCell ⟨g, i, none⟩ u) (some g) :=
  ⟨h.os, h.tape, h.output, by simpa [World.setCell] using h.size, fun k hk hne => by
    rw [Below.heap_setCell _ _ _ _ (by intro e; exact hne (by rw [e]))]
    exact h.block k hk hne⟩
theorem grown_drawn {w w1 w2 : World} {row : Option Nat} (h : w.grownBy w1 row) (hd : Drawn0 w1 w2) : w.grownBy w2 row := by
  obtain ⟨n, rfl⟩ := hd
  exact ⟨h.os, h.tape, h.output, h.size, h.block⟩
end Go.Proofs.Ytaidbdogolhnjaa.U
set_option linter.unusedVariables false
set_option linter.unusedSimpArgs false
namespace Go.Proofs.Ytaidbdogolhnjaa.U
open Go.RowKit Go.Lib Go.Proofs.YtaidbdogolhnjaaW.PrintWords

theorem set_copy (xs : List Int) (k : Nat) (hk : k < xs.length) : (xs.take k ++ List.replicate (xs.length - k) 0).set k (rd xs (k : Int)) = xs.take (k + 1) ++ List.replicate (xs.length - (k + 1)) 0 := by
  apply List.ext_getElem?
  intro j
  rw [List.getElem?_set]
  by_cases hj : k = j
  · subst hj
    rw [if_pos rfl, if_pos (by simp; omega), List.getElem?_append_left (by simp; omega), List.getElem?_take, if_pos (by omega), rd_nat]
    simp [List.getElem?_eq_getElem hk]
  · rw [if_neg hj]
    by_cases h1 : j < k
    · rw [List.getElem?_append_left (by simp; omega), List.getElem?_append_left (by simp; omega), List.getElem?_take, if_pos h1, List.getElem?_take, if_pos (by omega)]
    · rw [List.getElem?_append_right (by simp; omega), List.getElem?_append_right (by simp; omega)]
      simp only [List.length_take, List.getElem?_replicate]
      have : min k xs.length = k := by omega
      have : min (k + 1) xs.length = k + 1 := by omega
      by_cases h2 : j < xs.length
      · rw [if_pos (by omega), if_pos (by omega)]
      · rw [if_neg (by omega), if_neg (by omega)]
theorem eq_at_end (a b : List Int) (n : Nat) (ha : a.length = n) (hb : b.length = n) (h : ∀ j, j < n → rd a (j : Int) = rd b (j : Int)) : a = b := by
  apply List.ext_getElem (by omega)
  intro j h1 h2
  have := h j (by omega)
  rw [rd_nat, rd_nat] at this
  simpa [List.getD_eq_getElem?_getD, h1, h2] using this
/-- a, a + 1, and so on: n numbers -/
def iota : Nat → Int → List Int
  | 0, _ => []
  | n + 1, a => a :: iota n (a + 1)
theorem iota_length : ∀ (n : Nat) (a : Int), (iota n a).length = n
  | 0, _ => rfl
  | n + 1, a => by simp [iota, iota_length n]
theorem iota_get : ∀ (n : Nat) (a : Int) (i : Nat), i < n → (iota n a)[i]? = some (a + i)
  | n + 1, a, 0, _ => by simp [iota]
  | n + 1, a, i + 1, h => by simp only [iota, List.getElem?_cons_succ]; rw [iota_get n (a + 1) i (by omega)]; congr 1; push_cast; omega
theorem iota_rd (n : Nat) (a : Int) (i : Nat) (h : i < n) : rd (iota n a) (i : Int) = a + i := by
  rw [rd_nat, List.getD_eq_getElem?_getD, iota_get n a i h]; rfl
theorem set_iota (xs : List Int) (a : Int) (k : Nat) (hk : k < xs.length) : (iota k a ++ xs.drop k).set k (a + k) = iota (k + 1) a ++ xs.drop (k + 1) := by
  apply List.ext_getElem?
  intro j
  rw [List.getElem?_set]
  by_cases hj : k = j
  · subst hj
    rw [if_pos rfl, if_pos (by simp [iota_length]; omega), List.getElem?_append_left (by simp [iota_length]), iota_get _ _ _ (by omega)]
  · rw [if_neg hj]
    by_cases h1 : j < k
    · rw [List.getElem?_append_left (by simp [iota_length]; omega), List.getElem?_append_left (by simp [iota_length]; omega), iota_get _ _ _ h1, iota_get _ _ _ (by omega)]
    · rw [List.getElem?_append_right (by simp [iota_length]; omega), List.getElem?_append_right (by simp [iota_length]; omega)]
      simp only [iota_length, List.getElem?_drop]
      congr 1
      omega
end Go.Proofs.Ytaidbdogolhnjaa.U
set_option linter.unusedVariables false
set_option linter.unusedSimpArgs false
namespace Go.Proofs.Ytaidbdogolhnjaa.U
open Go.RowKit Go.Lib Go.Proofs.YtaidbdogolhnjaaW.PrintWords

/-- n lies in the range a to b -/
def inR (n a b : Int) : Bool := decide (a ≤ n) && decide (n ≤ b)
theorem inR_iff {n a b : Int} : inR n a b = true ↔ a ≤ n ∧ n ≤ b := by simp [inR]
theorem inR_yes {n a b : Int} (h : a ≤ n ∧ n ≤ b) : inR n a b = true := inR_iff.2 h
theorem inR_no {n a b : Int} (h : ¬ (a ≤ n ∧ n ≤ b)) : inR n a b = false := by rw [← Bool.not_eq_true, inR_iff]; exact h
theorem inR_false {n a b : Int} (h : inR n a b = false) : ¬ (a ≤ n ∧ n ≤ b) := by rw [← inR_iff, h]; simp
theorem within (n a b : Int) (w : World) : Calls Try.prog 77 #[.int .i64 n, .int .i64 a, .int .i64 b] w fun e w' => e = .returned (.bool (inR n a b)) ∧ w = w' := by
  by_cases h : a ≤ n
  · rw [show inR n a b = decide (n ≤ b) by simp [inR, h]]
    go_enter Try.func77, Try.ntmps77
    go_wp2
    go_ret
    exact ⟨rfl, rfl⟩
  · rw [show inR n a b = false by simp [inR, h]]
    go_enter Try.func77, Try.ntmps77
    go_wp2
    go_ret
    exact ⟨rfl, rfl⟩
theorem l01In (n a b : Int) (w : World) : Calls Try.prog 37 #[.int .i64 n, .int .i64 a, .int .i64 b] w fun e w' => e = .returned (.bool (inR n a b)) ∧ w = w' := by
  by_cases h : a ≤ n
  · rw [show inR n a b = decide (n ≤ b) by simp [inR, h]]
    go_enter Try.func37, Try.ntmps37
    go_wp2
    go_ret
    exact ⟨rfl, rfl⟩
  · rw [show inR n a b = false by simp [inR, h]]
    go_enter Try.func37, Try.ntmps37
    go_wp2
    go_ret
    exact ⟨rfl, rfl⟩
theorem add_pos (ad : Addr) (j : Nat) (h : 0 < j) : ad.add j = ⟨ad.block, ad.off + j, none⟩ := by
  have := add_field ad 0 j h
  rw [Nat.zero_add] at this
  rw [this]
  simp [Addr.add]
end Go.Proofs.Ytaidbdogolhnjaa.U

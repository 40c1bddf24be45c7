
/- The law FnExactJoinViews, walked. -/
import Derived.Test.YtgdkffddcbjmmaaJs
import Derived.Test.YtgdkffddcbjmmaaSe
import Derived.Test.YtgdkffddcbjmmaaG4
import Derived.Test.YtgdkffddcbjmmaaOv
set_option linter.unusedVariables false
set_option linter.unusedSimpArgs false
namespace Go.Proofs.Ytgdkffddcbjmmaa.U
open Go.RowKit Go.Lib Go.Proofs.YtgdkffddcbjmmaaW.PrintWords
theorem VwO.rd {w : World} {lo hi n c : Nat} {A : Option Addr} {L : List Vf} (h : VwO w lo hi (.slice A n c) n L) : VwR w A n L := by
 obtain ⟨A', c', e, r⟩ := h.reads
 injection e with e1
 subst e1
 exact r
theorem toViewS' (A : Option Addr) (n c : Nat) (L : List Vf) (w : World) (r : VwR w A n L) (hn : n + szTo L n ≤ 1048576) :
  Calls Try.prog 6 #[.slice A n c] w fun e w' => ∃ (z : Nat) (A' : Option Addr) (c' : Nat), z = w.heap.size ∧ e = .returned (.slice A' n c') ∧ VwO w' z w'.heap.size (.slice A' n c') n L ∧ Bw w w' := by
 refine (toViewS A n c L w r hn).mono ?_
 rintro e w' ⟨v, rfl, h, b⟩
 obtain ⟨A', c', rfl, _⟩ := h.reads
 exact ⟨_, _, _, rfl, rfl, h, b⟩
theorem staOk_len {ro : Int} {l : List Ce} {ms ts bd : List Int} (h : staOk ro l ms ts bd = true) : l.length ≤ 128 ∧ ms.length = l.length ∧ ts.length = l.length ∧ (bd.length : Int) ≤ 8 := by
 simp only [staOk, isBal, hasC, Bool.and_eq_true, decide_eq_true_iff] at h
 obtain ⟨⟨h1, _⟩, ⟨⟨⟨⟨h2, h3⟩, h4⟩, _⟩, _⟩, _⟩ := h
 have := meshOk_len h1
 exact ⟨this.1, h2, h3, by omega⟩
theorem short_of {L : List Vf} {n : Nat} (hl : L.length = n) (hn : n + szTo L n ≤ 1048576) : Short L := ⟨fun i hi => by
 have := szTo_le L n i (by omega)
 rw [vsz] at this
 omega⟩
theorem offs_le (L : List Vf) (h3 : ∀ x ∈ L, x.lf.length % 3 = 0) : ∀ n, n ≤ L.length → offs L n ≤ 2 * n + 3 * szTo L n
 | 0, _ => by simp [offs]
 | n + 1, h => by
  have ih := offs_le L h3 n (by omega)
  have hm : gv L n ∈ L := by rw [gv_at (by omega)]; exact List.getElem_mem _
  have := h3 _ hm
  rw [offs, szTo, msz, vsz]
  omega
theorem offs_of {w : World} {A : Option Addr} {n : Nat} {L : List Vf} (r : VwR w A n L) (hn : n + szTo L n ≤ 1048576) : offs L n ≤ 1000000000 := by
 have := offs_le L r.thirds n (by rw [r.len]; omega)
 omega
theorem impl_JoinViews' (A : Option Addr) (n c : Nat) (L : List Vf) (s : Sta) (q : Bool) (w : World) (r : VwR w A n L) (hn : n + szTo L n ≤ 1048576) (hs : joinS L = s) (hq : joinOk L = q) :
  Calls Try.prog 17 #[.slice A n c] w fun e w' => ∃ (z : Nat) (A0 : Option Addr) (a0 : Nat) (A1 : Option Addr) (a1 : Nat) (A2 : Option Addr) (a2 : Nat) (A3 : Option Addr) (a3 : Nat), z = w.heap.size ∧ e = .returned (.tuple #[.agg #[.int .i64 s.ro, .slice A0 s.lv.length a0, .slice A1 s.ms.length a1, .slice A2 s.ts.length a2, .slice A3 s.bd.length a3], .bool q]) ∧ StO w' z w'.heap.size (.agg #[.int .i64 s.ro, .slice A0 s.lv.length a0, .slice A1 s.ms.length a1, .slice A2 s.ts.length a2, .slice A3 s.bd.length a3]) s ∧ Bw w w' := by
 refine (impl_JoinViews A n c L w r hn).mono ?_
 rintro e w' ⟨x, rfl, hS, b⟩
 rw [hs] at hS
 obtain ⟨A0, a0, A1, a1, A2, a2, A3, a3, rfl, _⟩ := hS.r
 rw [hq]
 exact ⟨_, _, _, _, _, _, _, _, _, rfl, rfl, hS, b⟩
theorem spec_JoinViews' (A : Option Addr) (n c : Nat) (L : List Vf) (s : Sta) (q : Bool) (w : World) (r : VwR w A n L) (hn : n + szTo L n ≤ 1048576) (hs : joinS L = s) (hq : joinOk L = q) :
  Calls Try.prog 12 #[.slice A n c] w fun e w' => ∃ (z : Nat) (A0 : Option Addr) (a0 : Nat) (A1 : Option Addr) (a1 : Nat) (A2 : Option Addr) (a2 : Nat) (A3 : Option Addr) (a3 : Nat), z = w.heap.size ∧ e = .returned (.tuple #[.agg #[.int .i64 s.ro, .slice A0 s.lv.length a0, .slice A1 s.ms.length a1, .slice A2 s.ts.length a2, .slice A3 s.bd.length a3], .bool q]) ∧ StO w' z w'.heap.size (.agg #[.int .i64 s.ro, .slice A0 s.lv.length a0, .slice A1 s.ms.length a1, .slice A2 s.ts.length a2, .slice A3 s.bd.length a3]) s ∧ Bw w w' := by
 refine (spec_JoinViews A n c L w r hn).mono ?_
 rintro e w' ⟨x, rfl, hS, b⟩
 rw [hs] at hS
 obtain ⟨A0, a0, A1, a1, A2, a2, A3, a3, rfl, _⟩ := hS.r
 rw [hq]
 exact ⟨_, _, _, _, _, _, _, _, _, rfl, rfl, hS, b⟩
end Go.Proofs.Ytgdkffddcbjmmaa.U

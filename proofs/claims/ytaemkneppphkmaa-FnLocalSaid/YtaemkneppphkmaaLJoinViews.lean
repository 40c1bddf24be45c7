
/- The law FnExactJoinViews, walked. -/
import Derived.Test.YtaemkneppphkmaaJs
import Derived.Test.YtaemkneppphkmaaSe
import Derived.Test.YtaemkneppphkmaaG4
import Derived.Test.YtaemkneppphkmaaOv
set_option linter.unusedVariables false
set_option linter.unusedSimpArgs false
namespace Go.Proofs.Ytaemkneppphkmaa.U
open Go.RowKit Go.Lib Go.Proofs.YtaemkneppphkmaaW.PrintWords
theorem VwO.rd {w : World} {lo hi n c : Nat} {A : Option Addr} {L : List Vf} (h : VwO w lo hi (.slice A n c) n L) : VwR w A n L := by
 obtain ⟨A', c', e, r⟩ := h.reads
 injection e with e1
 subst e1
 exact r
theorem staOk_len {ro : Int} {l : List Ce} {ms ts bd : List Int} (h : staOk ro l ms ts bd = true) : l.length ≤ 128 ∧ ms.length = l.length ∧ ts.length = l.length ∧ (bd.length : Int) ≤ 8 := by
 simp only [staOk, isBal, hasC, Bool.and_eq_true, decide_eq_true_iff] at h
 obtain ⟨⟨h1, _⟩, ⟨⟨⟨⟨h2, h3⟩, h4⟩, _⟩, _⟩, _⟩ := h
 have := meshOk_len h1
 exact ⟨this.1, h2, h3, by omega⟩
theorem impl_JoinViews' (A : Option Addr) (n c : Nat) (L : List Vf) (s : Sta) (q : Bool) (w : World) (r : VwR w A n L) (hn : n + szTo L n ≤ 1048576) (hs : joinS L = s) (hq : joinOk L = q) :
  Calls Try.prog 21 #[.slice A n c] w fun e w' => ∃ (z : Nat) (A0 : Option Addr) (a0 : Nat) (A1 : Option Addr) (a1 : Nat) (A2 : Option Addr) (a2 : Nat) (A3 : Option Addr) (a3 : Nat), z = w.heap.size ∧ e = .returned (.tuple #[.agg #[.int .i64 s.ro, .slice A0 s.lv.length a0, .slice A1 s.ms.length a1, .slice A2 s.ts.length a2, .slice A3 s.bd.length a3], .bool q]) ∧ StO w' z w'.heap.size (.agg #[.int .i64 s.ro, .slice A0 s.lv.length a0, .slice A1 s.ms.length a1, .slice A2 s.ts.length a2, .slice A3 s.bd.length a3]) s ∧ Bw w w' := by
 refine (impl_JoinViews A n c L w r hn).mono ?_
 rintro e w' ⟨x, rfl, hS, b⟩
 rw [hs] at hS
 obtain ⟨A0, a0, A1, a1, A2, a2, A3, a3, rfl, _⟩ := hS.r
 rw [hq]
 exact ⟨_, _, _, _, _, _, _, _, _, rfl, rfl, hS, b⟩
end Go.Proofs.Ytaemkneppphkmaa.U

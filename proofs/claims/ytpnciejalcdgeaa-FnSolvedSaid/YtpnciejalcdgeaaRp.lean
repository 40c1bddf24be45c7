
/- A number repeated, as slices.Repeat makes it of a slice of one. -/
import Derived.Test.YtpnciejalcdgeaaAp
import Derived.Test.YtpnciejalcdgeaaWMore
import Derived.WalkSpells
import Derived.Lib.Mul64
import Derived.Laws.Bits64b
import Derived.Shelf.Bits.Mul64
import Derived.Laws.CopyOwn
set_option linter.unusedVariables false
set_option linter.unusedSimpArgs false
namespace Go.Proofs.Ytpnciejalcdgeaa.U
open Go.RowKit Go.Lib Go.Proofs.YtpnciejalcdgeaaW.PrintWords

open Go.Proofs.YtpnciejalcdgeaaW.PrintLast Go.Proofs.YtpnciejalcdgeaaW.PrintMore
theorem u64_small (n : Nat) (hn : n ≤ 64) : IntKind.u64.wrap (n : Int) = (n : Int) := by rw [IntKind.wrap_u64]; omega
theorem mul64_one (n : Nat) (hn : n ≤ 64) (w : World) :
    Calls Try.prog 68 #[.int .u64 1, .int .u64 n] w fun e w' => e = .returned (.tuple #[.int .u64 0, .int .u64 n]) ∧ w = w' := by
  have a0 : bits BinOp.and IntKind.u64 0 4294967295 = 0 := Mul64.maskN 0 (by omega)
  have a1 : bits BinOp.and IntKind.u64 1 4294967295 = 1 := Mul64.maskN 1 (by omega)
  have an : bits BinOp.and IntKind.u64 (n : Int) 4294967295 = (n : Int) := by rw [Mul64.maskN n (by omega)]; omega
  have dn : (n : Int) / 4294967296 = 0 := by omega
  have wn := u64_small n hn
  have w0 : IntKind.u64.wrap 0 = 0 := u64_small 0 (by omega)
  have H := hid (And.intro a0 (And.intro a1 (And.intro an (And.intro dn (And.intro wn w0)))))
  clear a0 a1 an dn wn w0 hn
  go_enter Try.func68, Try.ntmps68
  go_wp2
  obtain ⟨a0, a1, an, dn, wn, w0⟩ := H.out
  simp only [a0, a1, an, dn, wn, w0, Int.one_mul, Int.mul_zero, Int.zero_mul, Int.zero_ediv, Int.add_zero, Int.zero_add]
  go_ret2
  exact ⟨rfl, rfl⟩
theorem mul_one_ (n : Nat) (hn : n ≤ 64) (w : World) :
    Calls Try.prog 53 #[.int .u64 1, .int .u64 n] w fun e w' => e = .returned (.tuple #[.int .u64 0, .int .u64 n]) ∧ w = w' := by
  have HN := hid hn
  clear hn
  go_enter Try.func53, Try.ntmps53
  go_wp2_with fail
  refine (mul64_one n HN.out _).mono ?_
  rintro e w' ⟨rfl, rfl⟩
  go_wp2
  go_ret2
  exact ⟨rfl, rfl⟩
/-- the row after m copies -/
def repTo (x : Int) (N m : Nat) : List Value := List.replicate m (.int .i64 x) ++ List.replicate (N - m) (.int .i64 0)
theorem repTo_length (x : Int) (N m : Nat) (h : m ≤ N) : (repTo x N m).length = N := by simp [repTo]; omega
theorem repTo_splice (x : Int) (N m c : Nat) (h : m + c ≤ N) : splice (repTo x N m) m (List.replicate c (.int .i64 x)) = repTo x N (m + c) := by
  unfold splice repTo
  rw [List.take_append_of_le_length (by simp), List.take_of_length_le (by simp), List.drop_append]
  simp only [List.length_replicate, List.drop_replicate]
  rw [← List.append_assoc, List.replicate_append_replicate, show m - (m + c) = 0 by omega, List.replicate_zero, List.nil_append]
  congr 2
  omega
theorem repTo_full (x : Int) (N : Nat) : repTo x N N = nums .i64 (List.replicate N x) := by simp [repTo, nums]
set_option maxRecDepth 100000 in
set_option maxHeartbeats 4000000 in
theorem repeatInts (A : Option Addr) (c N : Nat) (x : Int) (w : World) (r : RI w A 1 [x]) (hN : 1 ≤ N ∧ N ≤ 64) :
    Calls Try.prog 31 #[.slice A 1 c, .int .i64 N] w fun e w' => ∃ v, e = .returned v ∧ OI w' w.heap.size v N (List.replicate N x) ∧ Bw w w' := by
  obtain ⟨ad, rfl, hc⟩ := r.nat 0 (by omega)
  obtain ⟨n1, n2⟩ := hN
  have wn := u64_small N n2
  have w1 : IntKind.u64.wrap 1 = 1 := u64_small 1 (by omega)
  have wi : IntKind.i64.wrap (N : Int) = (N : Int) := i64w (by omega) (by omega)
  have t0 : decide ((N : Int) < 0) = false := decide_eq_false (by omega)
  have tb : decide ((N : Int) > 9223372036854775807) = false := decide_eq_false (by omega)
  have hs1 : (Try.prog.info? 3).map (·.size) = some 1 := by have h := info_int; rw [Option.map_eq_some_iff] at h ⊢; obtain ⟨a, e, h⟩ := h; exact ⟨a, e, by injection h with _ h; injection h⟩
  have hmk := print_make (P := Try.prog) 24 3 .i64 8 Try.underlying24 info_int (by omega) N (by omega)
  go_enter Try.func31, Try.ntmps31
  go_wp2_with fail
  refine (mul_one_ N n2 _).mono ?_
  rintro e w' ⟨rfl, rfl⟩
  have hg0 : (w.alloc (.cells (madeCells #[.int .i64 0] N) 3)).heap[w.heap.size]? = some (.cells (repTo x N 0).toArray 3 (0, 0)) := by
    rw [heap_alloc_new]
    congr 2
    apply Array.ext'
    rw [toList_madeCells_one]
    simp [repTo]
  have hB0 : Below w.heap.size w (w.alloc (.cells (madeCells #[.int .i64 0] N) 3)) := below_alloc (Below.refl _ _) _
  have hx0 : ∀ j v, [Value.int .i64 x][j]? = some v → (w.alloc (.cells (madeCells #[.int .i64 0] N) 3)).cell? (ad.add j) = some v := fun j v hj => by
    match j, hj with
    | 0, hj =>
      simp at hj
      subst hj
      have h := hB0.cell (p := ad.add 0) (World.block_lt_of_cell? w _ hc)
      rw [h, hc]
      rfl
  have hn0 : [Value.int .i64 x].length = Nat.min 1 N := by rw [List.length_singleton]; exact (Nat.min_eq_left n1).symm
  go_wp2_with (with_reducible show wpList _ _ _ _ _ _; refine wpList_copy_splice (o := ⟨some 33, _, _, _, _, _⟩) rfl (.tmp 31) (.tmp 32) 24 24 rfl 3 Try.underlying24 hs1 (some ⟨w.heap.size, 0, none⟩) (some ad) N N 1 c rfl rfl w.heap.size 0 (repTo x N 0) 3 hg0 [.int .i64 x] hn0 (fun _ => ⟨rfl, _, rfl, hx0⟩) (by rw [repTo_length _ _ _ (by omega)]; simp; omega) (by simp [Value.oneCell']) w.heap.size w hB0 (Nat.le_refl _) ?_; intro w4 hg4 hb4)
  have hg5 : Hid (w4.heap[w.heap.size]? = some (.cells (repTo x N 1).toArray 3 (0, 0))) := hid (by have h := hg4.out; rw [show [Value.int .i64 x] = List.replicate 1 (.int .i64 x) from rfl, repTo_splice x N 0 1 (by omega), Nat.zero_add] at h; exact h)
  clear hg4 hg0 hB0 hx0 hn0 hmk wn w1 wi t0 tb
  go_loopw [8] (fun i wr => ∃ m : Nat, 1 ≤ m ∧ m ≤ N ∧ i = .int .i64 m ∧ Hid (wr.heap[w.heap.size]? = some (.cells (repTo x N m).toArray 3 (0, 0))) ∧ Hid (Below w.heap.size w wr)) (fun i _ => N - (intOf i).toNat)
  case atStart => exact ⟨1, by omega, n1, rfl, hg5, hid hb4⟩
  case round =>
    obtain ⟨m, hm1, hm, rfl, hG, hB⟩ := hrel
    by_cases hlt : m < N
    · have t1 : decide ((m : Int) < (N : Int)) = true := decide_eq_true (by omega)
      obtain ⟨q, hq⟩ : ∃ q, q = Nat.min m (N - m) := ⟨_, rfl⟩
      have hq1 : 1 ≤ q ∧ q ≤ m ∧ m + q ≤ N := by rw [hq]; show 1 ≤ min m (N - m) ∧ min m (N - m) ≤ m ∧ m + min m (N - m) ≤ N; omega
      obtain ⟨X, hX⟩ : ∃ X, X = List.replicate q (Value.int .i64 x) := ⟨_, rfl⟩
      have hXl : X.length = Nat.min m (N - m) := by rw [hX, List.length_replicate, hq]
      have hXn : X.length = q := by rw [hX, List.length_replicate]
      have hX1 : ∀ v ∈ X, v.oneCell' = true := fun v hv => by rw [hX] at hv; rw [(List.mem_replicate.1 hv).2]; rfl
      have hfit : m + X.length ≤ (repTo x N m).length := by rw [repTo_length _ _ _ hm, hXn]; omega
      have hgD : wr.drew.heap[w.heap.size]? = some (.cells (repTo x N m).toArray 3 (0, 0)) := hG.out
      have hBD : Below w.heap.size w wr.drew := hB.out.trans ((Below.refl _ _).drew)
      have hXc : ∀ j v, X[j]? = some v → wr.drew.cell? ((⟨w.heap.size, 0, none⟩ : Addr).add j) = some v := fun j v hj => by
        rw [hX, List.getElem?_replicate] at hj
        split at hj
        · rename_i hjq
          have e : (repTo x N m)[j]? = some (Value.int .i64 x) := by
            unfold repTo
            rw [List.getElem?_append_left (by rw [List.length_replicate]; omega), List.getElem?_replicate, if_pos (by omega)]
          have h2 := Option.some.inj hj
          subst h2
          have e3 : (⟨w.heap.size, 0, none⟩ : Addr).add j = ⟨w.heap.size, j, none⟩ := by unfold Addr.add; by_cases hj0 : j = 0 <;> simp [hj0]
          rw [e3]
          simp [World.cell?, hgD, e]
        · cases hj
      have HS := hid (repTo_splice x N m q hq1.2.2)
      have HX := hid hX
      have HN := hid hXn
      have hq0 := hq1.1
      have hq2 := hq1.2.2
      have WM := hid (show wrap64 ((m : Int) + (q : Int)) = (m : Int) + (q : Int) from w64 (by omega) (by omega))
      have m0 : (0 : Int) ≤ (m : Int) := by omega
      have m1 : (m : Int) ≤ (N : Int) := by omega
      clear hq hX hq1
      go_wp2
      refine start_ (n := 10) (S := fun w' => True) (ds := [7, 9]) #[false, false, false, false, false, false, false, false, false, false] (by kernel_rfl) rfl rfl trivial (fun hHeld => ?_)
      refine pure_ (i := 0) (N := (some 38)) (v := ?_) (a' := ?_) #[true, false, false, false, false, false, false, false, false, false] rfl rfl (by kernel_rfl) (fun _ _ _ h => h) (Or.inl ⟨by rfl, ?_⟩) ?_ ?_
      rotate_left
      · intro w'
        go_simp
        with_reducible rfl
      rotate_left
      · simp only [Act.put, List.setIfInBounds_toArray, List.set_cons_zero, List.set_cons_succ, i64_w, i32_w]
        rfl
      refine pure_ (i := 1) (N := (some 39)) (v := ?_) (a' := ?_) #[true, true, false, false, false, false, false, false, false, false] rfl rfl (by kernel_rfl) (fun _ _ _ h => h) (Or.inl ⟨by rfl, ?_⟩) ?_ ?_
      rotate_left
      · intro w'
        go_simp
        with_reducible rfl
      rotate_left
      · simp only [Act.put, List.setIfInBounds_toArray, List.set_cons_zero, List.set_cons_succ, i64_w, i32_w]
        rfl
      refine pure_ (i := 2) (N := (some 40)) (v := ?_) (a' := ?_) #[true, true, true, false, false, false, false, false, false, false] rfl rfl (by kernel_rfl) (fun _ _ _ h => h) (Or.inl ⟨by rfl, ?_⟩) ?_ ?_
      rotate_left
      · intro w'
        go_simp
        with_reducible rfl
      rotate_left
      · simp only [Act.put, List.setIfInBounds_toArray, List.set_cons_zero, List.set_cons_succ, i64_w, i32_w]
        rfl
      refine pure_ (i := 3) (N := (some 41)) (v := ?_) (a' := ?_) #[true, true, true, true, false, false, false, false, false, false] rfl rfl (by kernel_rfl) (fun _ _ _ h => h) (Or.inl ⟨by rfl, ?_⟩) ?_ ?_
      rotate_left
      · intro w'
        go_simp
        with_reducible rfl
      rotate_left
      · simp only [Act.put, List.setIfInBounds_toArray, List.set_cons_zero, List.set_cons_succ, i64_w, i32_w]
        rfl
      refine pure_ (i := 4) (N := (some 42)) (v := ?_) (a' := ?_) #[true, true, true, true, true, false, false, false, false, false] rfl rfl (by kernel_rfl) (fun _ _ _ h => h) (Or.inl ⟨by rfl, ?_⟩) ?_ ?_
      rotate_left
      · intro w'
        go_simp
        with_reducible rfl
      rotate_left
      · simp only [Act.put, List.setIfInBounds_toArray, List.set_cons_zero, List.set_cons_succ, i64_w, i32_w]
        rfl
      refine pure_ (i := 5) (N := (some 43)) (v := ?_) (a' := ?_) #[true, true, true, true, true, true, false, false, false, false] rfl rfl (by kernel_rfl) (fun _ _ _ h => h) (Or.inl ⟨by rfl, ?_⟩) ?_ ?_
      rotate_left
      · intro w'
        go_simp
        with_reducible rfl
      rotate_left
      · simp only [Act.put, List.setIfInBounds_toArray, List.set_cons_zero, List.set_cons_succ, i64_w, i32_w]
        rfl
      refine pure_ (i := 6) (N := (some 44)) (v := ?_) (a' := ?_) #[true, true, true, true, true, true, true, false, false, false] rfl rfl (by kernel_rfl) (fun _ _ _ h => h) (Or.inl ⟨by rfl, ?_⟩) ?_ ?_
      rotate_left
      · intro w'
        go_simp
        with_reducible rfl
      rotate_left
      · simp only [Act.put, List.setIfInBounds_toArray, List.set_cons_zero, List.set_cons_succ, i64_w, i32_w]
        rfl
      refine last_ (i := 7) (N := (some 45)) #[true, true, true, true, true, true, true, true, false, false] rfl rfl (by kernel_rfl) (by decide) (fun K hK => ?_)
      refine step_copy_splice (by rfl) (.tmp 41) (.tmp 44) 24 24 (by rfl) 3 Try.underlying24 hs1 (if N = m then some ⟨w.heap.size, 0, none⟩ else some ⟨w.heap.size, m, none⟩) (some ⟨w.heap.size, 0, none⟩) (N - m) (N - m) m N (by rfl) (by rfl) w.heap.size m (repTo x N m) 3 hgD X hXl (fun _ => ⟨if_neg (by omega), _, rfl, hXc⟩) hfit hX1 w.heap.size w hBD (Nat.le_refl _) ?_
      intro w4 hg4 hb4
      refine hK.out _ _ ?_
      clear hK K
      refine norm_ (a' := ?_) ?_ ?_
      rotate_left
      · show Act.put _ (some 45) _ = _
        rw [HN.out]
      refine pure_ (i := 8) (N := (some 46)) (v := ?_) (a' := ?_) #[true, true, true, true, true, true, true, true, true, false] rfl rfl (by kernel_rfl) (fun _ _ _ h => h) (Or.inl ⟨by rfl, ?_⟩) ?_ ?_
      rotate_left
      · intro w'
        go_simp
        with_reducible rfl
      rotate_left
      · simp only [Act.put, List.setIfInBounds_toArray, List.set_cons_zero, List.set_cons_succ, i64_w, i32_w]
        rfl
      refine last_ (i := 9) (N := (some 8)) #[true, true, true, true, true, true, true, true, true, true] rfl rfl (by kernel_rfl) (by decide) (fun K hK => ?_)
      refine value_ (w1 := ?_) (v := ?_) (by rfl) rfl ?_ ?_
      rotate_left 2
      · go_simp
        constructor
        · rfl
        · rfl
      refine hK.out _ _ ?_
      clear hK K
      refine norm_ (a' := ?_) ?_ ?_
      rotate_left
      · show Act.put _ (some 8) _ = _
        simp only [Act.put, List.setIfInBounds_toArray, List.set_cons_zero, List.set_cons_succ, i64_w, i32_w]
        rfl
      refine done_ (by kernel_rfl) ?_
      go_wp2
      go_roundw
      case rel => exact ⟨m + q, by omega, by omega, by rw [WM.out]; go_num, hid (by rw [← HS.out, ← HX.out]; exact hg4.out), hid hb4⟩
      case measure => rw [WM.out]; simp [intOf]; omega
    · obtain rfl : m = N := by omega
      have t1 : decide ((m : Int) < (m : Int)) = false := decide_eq_false (by omega)
      have HG := hG.out
      rw [repTo_full] at HG
      have HG2 := hid HG
      clear HG hG
      go_wp2
      go_ret
      exact ⟨_, rfl, ⟨by simp [nums], .inr ⟨w.heap.size, m, _, rfl, Nat.le_refl _, HG2.out, Nat.le_refl _, by unfold maxLen; omega, by simp [nums], by simp [nums]⟩⟩, ⟨hB.out⟩⟩
end Go.Proofs.Ytpnciejalcdgeaa.U

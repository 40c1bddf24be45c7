
/- sort.Search, and PartitionOf of the program. -/
import Derived.Test.YtcgikbidgknkpaaBa
set_option linter.unusedVariables false
set_option linter.unusedSimpArgs false
namespace Go.Proofs.Ytcgikbidgknkpaa.U
open Go.RowKit Go.Lib Go.Proofs.YtcgikbidgknkpaaW.PrintWords

/-- The function value g, with what it has captured, answers by p at the numbers of int, in w and in whatever world has come of it. -/
structure PredW (g : Nat) (lb : Array Value) (p : Int → Bool) (w : World) : Prop where
  mk :: (out : ∀ W (x : Nat), Bw w W → x ≤ 4611686018427387904 → Calls Try.prog g (#[.int .i64 (x : Int)] ++ lb) W fun e W' => e = .returned (.bool (p (x : Int))) ∧ Bw W W')
set_option maxHeartbeats 2000000 in
theorem Search (n : Nat) (g : Nat) (lb : Array Value) (p : Int → Bool) (w : World) (hn : n ≤ 4611686018427387904) (hp : PredW g lb p w)
    (eg : ∀ args w, (callFunc g args).run Try.prog w = .ok (.enter g args) w) :
    Calls Try.prog 79 #[.int .i64 n, .func (.func g) #[] lb] w fun e w' => (∃ i : Nat, e = .returned (.int .i64 i) ∧ i ≤ n ∧ (i < n → p (i : Int) = true) ∧ (0 < i → p ((i - 1 : Nat) : Int) = false)) ∧ Bw w w' := by
  go_enter Try.func79, Try.ntmps79
  go_wp2
  go_loopw [5, 6] (fun v5 v6 wr => ∃ i j : Nat, i ≤ j ∧ j ≤ n ∧ v5 = .int .i64 i ∧ v6 = .int .i64 j ∧ Hid ((j < n → p (j : Int) = true) ∧ (0 < i → p ((i - 1 : Nat) : Int) = false)) ∧ Bw w wr) (fun v5 v6 _ => (intOf v6).toNat - (intOf v5).toNat)
  case atStart => exact ⟨0, n, by omega, by omega, rfl, rfl, hid ⟨fun h => by omega, fun h => by omega⟩, Bw.refl _⟩
  case round =>
    obtain ⟨i, j, hij, hjn, rfl, rfl, hE, hB⟩ := hrel
    by_cases hlt : i < j
    · have t1 : decide ((i : Int) < (j : Int)) = true := decide_eq_true (by omega)
      obtain ⟨h, hh⟩ : ∃ h, h = (i + j) / 2 := ⟨_, rfl⟩
      have hh1 : i ≤ h ∧ h < j := by omega
      have hq : ((i : Int) + (j : Int)) / 2 = (h : Int) := by omega
      have HQ := hid hq
      clear hh hq
      go_wp2_with fail
      rw [HQ.out]
      refine (hp.out wr h hB (by omega)).mono ?_
      rintro e w3 ⟨rfl, b3⟩
      cases hph : p (h : Int) with
      | true =>
        have HP := hid hph
        clear hph
        go_wp2
        go_roundw
        case rel => exact ⟨i, h, hh1.1, by omega, rfl, by go_num, hid ⟨fun _ => HP.out, hE.out.2⟩, hB.trans b3⟩
        case measure => simp [intOf]; omega
      | false =>
        have HP := hid hph
        clear hph
        go_wp2
        go_roundw
        case rel => exact ⟨h + 1, j, by omega, hjn, by go_num, rfl, hid ⟨hE.out.1, fun _ => HP.out⟩, hB.trans b3⟩
        case measure => simp [intOf]; omega
    · obtain rfl : i = j := by omega
      have t1 : decide ((i : Int) < (i : Int)) = false := decide_eq_false (by omega)
      go_wp2
      go_ret
      exact ⟨⟨i, rfl, hjn, hE.out.1, hE.out.2⟩, hB⟩

/-- the closure of PartitionOf -/
theorem part_pred (w : World) (B D : Nat) (A : Option Addr) (n c : Nat) (l : List Int) (k : Int) (r : RI w A n l) (h1 : w.cell? ⟨B, 0, none⟩ = some (.slice A n c)) (h2 : w.cell? ⟨D, 0, none⟩ = some (.int .i64 k)) :
    PredW 81 #[.pointer (some ⟨B, 0, none⟩), .pointer (some ⟨D, 0, none⟩)] (fun x => inR (fewest l x) 0 k) w := ⟨fun W x b hx => by
  have hc1 : W.cell? ⟨B, 0, none⟩ = some (.slice A n c) := pw_cell_below b.out h1
  have hc2 : W.cell? ⟨D, 0, none⟩ = some (.int .i64 k) := pw_cell_below b.out h2
  replace r := r.to b
  clear h1 h2
  go_enter Try.func81, Try.ntmps81
  go_wp2
  go_region_with (first | (go_at_call 82; refine (impl_FewestParts A n c l _ _ (r.dr ⟨⟨_, rfl⟩⟩) (by omega)).mono ?_; rintro e w1 ⟨rfl, b1⟩; have hd2 := pw_cell_below b1.out (pw_cell_below (Drawn0.below ⟨⟨_, rfl⟩⟩) hc2)) | (go_at_call 69; refine (within _ _ _ _).mono ?_; rintro e w' ⟨rfl, rfl⟩))
  all_goals (go_wp2_with fail; go_ret; exact ⟨rfl, (Bw.drawn ⟨⟨_, rfl⟩⟩).trans b1⟩)⟩
theorem wOk_sum {l : List Int} (hw : wOk l = true) : SumOk l := by
  have h := wOk_iff.1 hw
  exact sumOk_of l 1000000 (by omega) (fun x hx => by have := h.2 x hx; omega) (by omega)
theorem sum_psum (l : List Int) : l.sum = psum l l.length := by rw [psum, List.take_of_length_le (Nat.le_refl _)]
theorem sum_range {l : List Int} (hw : wOk l = true) : 0 ≤ l.sum ∧ l.sum ≤ 1000000000 := by
  have h := wOk_iff.1 hw
  have := sum_bound l 0 1000000 h.2
  omega
/-- what the search finds is the best -/
theorem search_best {l : List Int} {k : Nat} (hw : wOk l = true) (hn : l.length ≠ 0) (hk : 1 ≤ k) (N i : Nat) (hN : (N : Int) = l.sum) (hi : i ≤ N) (h1 : i < N → inR (fewest l (i : Int)) 0 (k : Int) = true) (h2 : 0 < i → inR (fewest l ((i - 1 : Nat) : Int)) 0 (k : Int) = false) : IsBest l k (i : Int) := by
  refine best_of hw hn ?_ ?_
  · by_cases h : i < N
    · exact (fewest_enough hw hn _ _).2 (inR_iff.1 (h1 h))
    · have : (i : Int) = psum l l.length := by rw [← sum_psum]; omega
      rw [this]
      exact all_enough hw hn k hk
  · intro he
    by_cases h : 0 < i
    · have h3 := (fewest_enough hw hn _ _).1 he
      have h4 := h2 h
      rw [show (((i - 1 : Nat) : Int)) = (i : Int) - 1 by omega, inR_yes h3] at h4
      cases h4
    · have := fits_nn hw hn he.1
      omega
def lenOf : Value → Nat
  | .slice _ n _ => n
  | _ => 0
theorem cuts_len_le (l : List Int) (m : Int) : (cutsL l m).length ≤ l.length + 2 := by
  have := (cutTo_len l m l.length).2
  simp [cutsL]
  omega
set_option maxRecDepth 100000 in
set_option maxHeartbeats 8000000 in
theorem impl_PartitionOf (A : Option Addr) (n c : Nat) (l : List Int) (k : Int) (w : World) (r : RI w A n l) (hcap : n ≤ c) :
    Calls Try.prog 54 #[.slice A n c, .int .i64 k] w fun e w' => ∃ v, e = .returned (.tuple #[v, .int .i64 (partL l k).2]) ∧ OI w' w.heap.size v (partL l k).1.length (partL l k).1 ∧ Bw w w' := by
  have hl := r.len
  have hmax := r.max
  have eg := enters_of Try.func81 (by kernel_rfl) rfl
  obtain ⟨W1, hW1⟩ : ∃ W1 : World, W1 = w.alloc (.cells #[.slice A n c] 27) := ⟨_, rfl⟩
  obtain ⟨W0, hW0⟩ : ∃ W0 : World, W0 = W1.alloc (.cells #[.int .i64 k] 3) := ⟨_, rfl⟩
  have b1 : Bw w W1 := ⟨by rw [hW1]; exact below_alloc (Below.refl _ _) _⟩
  have b2 : Bw W1 W0 := ⟨by rw [hW0]; exact below_alloc (Below.refl _ _) _⟩
  have s1 : W1.heap.size = w.heap.size + 1 := by rw [hW1]; simp
  have c1 : W0.cell? ⟨w.heap.size, 0, none⟩ = some (.slice A n c) := pw_cell_below b2.out (by rw [hW1]; simp)
  have c2 : W0.cell? ⟨w.heap.size + 1, 0, none⟩ = some (.int .i64 k) := by rw [hW0, ← s1]; simp
  have b0 := b1.trans b2
  have hsz : w.heap.size ≤ W0.heap.size := b0.out.size
  replace r := r.to b0
  have HW1 := hid hW1
  have HW0 := hid hW0
  clear b1 b2 hW0 hW1
  cases hin : inR k 1 16 with
  | false =>
    have hp : partL l k = ([], -1) := by simp [partL, hin]
    rw [hp]
    have HI := hid hin
    clear hin hl hp r
    go_enter Try.func54, Try.ntmps54
    go_wp2_with (go_at_call 69; refine (within _ _ _ _).mono ?_; rintro e w' ⟨rfl, rfl⟩; rw [HI.out])
    go_ret2
    exact ⟨_, rfl, OI.nil _ _, by have e1 := HW1.out; have e2 := HW0.out; subst e1; subst e2; exact b0⟩
  | true =>
    have HI := hid hin
    have hk := inR_iff.1 hin
    by_cases h0 : n = 0
    · have hp : partL l k = ([], -1) := by simp [partL, hl, h0]
      rw [hp]
      have t0 : ((n : Int) == 0) = true := beq_iff_eq.2 (by omega)
      clear hin hl hp r h0 hk
      go_enter Try.func54, Try.ntmps54
      go_wp2_with (go_at_call 69; refine (within _ _ _ _).mono ?_; rintro e w' ⟨rfl, rfl⟩; rw [HI.out])
      go_ret2
      exact ⟨_, rfl, OI.nil _ _, by have e1 := HW1.out; have e2 := HW0.out; subst e1; subst e2; exact b0⟩
    · have t0 : ((n : Int) == 0) = false := beq_eq_false_iff_ne.2 (by omega)
      have T0 := hid t0
      cases hw : wOk l with
      | false =>
        have hp : partL l k = ([], -1) := by simp [partL, hw]
        rw [hp]
        have HW := hid hw
        clear hin hl hp h0 hk hw
        go_enter Try.func54, Try.ntmps54
        go_wp2_with fail
        refine (within _ _ _ _).mono ?_
        rintro e w' ⟨rfl, rfl⟩
        rw [HI.out]
        rw [← HW1.out, ← HW0.out]
        go_wp2_with fail
        refine (impl_areWeights _ _ _ _ _ r).mono ?_
        rintro e w2 ⟨rfl, d1⟩
        rw [HW.out]
        go_wp2
        go_ret2
        exact ⟨_, rfl, OI.nil _ _, b0.trans (Bw.drawn d1)⟩
      | true =>
        obtain ⟨kn, rfl⟩ : ∃ kn : Nat, k = (kn : Int) := ⟨k.toNat, by omega⟩
        have hp : partL l (kn : Int) = (cutsOf l kn, bestOf l kn) := by simp [partL, hin, hw, hl, h0]
        rw [hp]
        obtain ⟨R, hR⟩ : ∃ R, R = cutsOf l kn := ⟨_, rfl⟩
        obtain ⟨M, hM⟩ : ∃ M, M = bestOf l kn := ⟨_, rfl⟩
        rw [← hR, ← hM]
        show Calls _ _ _ _ (fun e w' => ∃ v, e = .returned (.tuple #[v, .int .i64 M]) ∧ OI w' w.heap.size v R.length R ∧ Bw w w')
        have HR := hid hR
        have HM := hid hM
        clear hR hM
        have hn0 : l.length ≠ 0 := by omega
        obtain ⟨N, hN⟩ : ∃ N : Nat, (N : Int) = l.sum := ⟨l.sum.toNat, by have := sum_range hw; omega⟩
        have hNb : N ≤ 1000000000 := by have := sum_range hw; omega
        have hbest := fun i a b c => search_best hw hn0 (k := kn) (by omega) N i hN a b c
        have HBEST := hid hbest
        have HW := hid hw
        have HSO := hid (wOk_sum hw)
        have HN := hid hN
        have HN0 := hid hn0
        have HL := hid hl
        have hlen : n ≤ 1000 := by have := (wOk_iff.1 hw).1; omega
        have hk1 : 1 ≤ kn ∧ kn ≤ 16 := by omega
        have HP := part_pred W0 w.heap.size (w.heap.size + 1) A n c l (kn : Int) r c1 c2
        clear hin hl hp hw hbest hN hn0 hk t0
        go_enter Try.func54, Try.ntmps54
        go_wp2_with fail
        refine (within _ _ _ _).mono ?_
        rintro e w' ⟨rfl, rfl⟩
        rw [HI.out]
        rw [← HW1.out, ← HW0.out]
        have t0 := T0.out
        go_wp2_with fail
        refine (impl_areWeights _ _ _ _ _ r).mono ?_
        rintro e w2 ⟨rfl, d1⟩
        rw [HW.out]
        have d1' := Bw.drawn d1
        have c1' := pw_cell_below d1'.out c1
        have c2' := pw_cell_below d1'.out c2
        replace r := r.to d1'
        replace b0 := b0.trans d1'
        replace HP : PredW 81 #[.pointer (some ⟨w.heap.size, 0, none⟩), .pointer (some ⟨w.heap.size + 1, 0, none⟩)] (fun x => inR (fewest l x) 0 (kn : Int)) w2 := ⟨fun W x b hx => HP.out W x (d1'.trans b) hx⟩
        replace hsz : w.heap.size ≤ w2.heap.size := b0.out.size
        clear d1' d1 c1 c2
        go_wp2_with fail
        refine (impl_sum _ _ _ _ _ r HSO.out).mono ?_
        rintro e w' ⟨rfl, rfl⟩
        rw [← HN.out]
        go_wp2_with fail
        refine (Search N _ _ _ _ (by omega) HP eg).mono ?_
        rintro e w3 ⟨⟨i, rfl, hi1, hi2, hi3⟩, b3⟩
        have hb := HBEST.out i hi1 hi2 hi3
        obtain ⟨f1, f2, f3, f4, f5, f6⟩ := best_cuts HW.out HN0.out hk1.1 hk1.2 hb
        have fe := hb.eq
        have hfit := hid hb.enough.1
        have HME := hid (HM.out.trans fe)
        have HRE := hid (HR.out.trans f4)
        have hpad := hid (show (cutsL l (i : Int)).length + (kn + 1 - (cutsL l (i : Int)).length) = kn + 1 by omega)
        clear hi2 hi3 hb f1 f2 f3 f4 fe HP HR HM
        have c3 := pw_cell_below b3.out c1'
        have c4 := pw_cell_below b3.out c2'
        replace r := r.to b3
        replace b0 := b0.trans b3
        clear b3 c1' c2'
        go_wp2_with fail
        refine (impl_fill A n c l _ _ r HW.out (by omega)).mono ?_
        rintro e w4 ⟨(⟨_, v, rfl, o⟩ | ⟨hf, rfl⟩), b4⟩
        · obtain ⟨L, hL⟩ : ∃ L, L = cutsL l (i : Int) := ⟨_, rfl⟩
          rw [← hL] at o f5 f6 hpad HRE
          rw [HL.out] at HRE
          clear hL
          obtain ⟨A7, d7, rfl, _⟩ := o.reads
          go_wp2
          go_loopw [7] (fun v7 wr => ∃ q t : Nat, q = L.length + t ∧ q ≤ kn + 1 ∧ OI wr w3.heap.size v7 q (L ++ List.replicate t (n : Int)) ∧ Bw w3 wr) (fun v7 _ => kn + 1 - lenOf v7)
          case atStart => exact ⟨L.length, 0, rfl, f5, by simpa using o, b4⟩
          case round =>
            obtain ⟨q, t, hq, hqk, hO, hB⟩ := hrel
            obtain ⟨Ao, co, rfl, _⟩ := hO.reads
            have c5 := pw_cell_below hB.out c3
            have c6 := pw_cell_below hB.out c4
            have hO2 : OI wr w3.heap.size (.slice Ao q co) (L ++ List.replicate t (n : Int)).length (L ++ List.replicate t (n : Int)) := by rw [List.length_append, List.length_replicate, ← hq]; exact hO
            have HLEN := hid (show (L ++ List.replicate t (n : Int)).length = q by rw [List.length_append, List.length_replicate]; omega)
            by_cases hlt : q < kn + 1
            · have t1 : decide ((q : Int) < (kn : Int) + 1) = true := decide_eq_true (by omega)
              have HQ := hid hq
              clear hq
              go_wp2_with (at_builtin; refine print_append_num (w0 := w3) w3.heap.size rfl _ _ 27 3 .i64 8 rfl Try.underlying27 info_int (by omega) (.slice Ao q co) (L ++ List.replicate t (n : Int)) (n : Int) rfl rfl hO2.out hB.out hB.size (by have := HLEN.out; omega) ?_; intro v1 w5 hown1 hB1 hg1 _)
              go_roundw
              case rel => exact ⟨q + 1, t + 1, by have := HQ.out; omega, by omega, by
                have h := OI.app hown1
                rw [List.append_assoc, ← List.replicate_succ', List.length_append, List.length_replicate, ← Nat.add_assoc, ← HQ.out] at h
                exact h, ⟨hB1⟩⟩
              case measure => have h := OI.app hown1; obtain ⟨_, _, rfl, _⟩ := h.reads; have := HQ.out; simp [lenOf]; omega
            · have t1 : decide ((q : Int) < (kn : Int) + 1) = false := decide_eq_false (by omega)
              have HQ := hid hq
              clear hq
              go_wp2
              go_ret2
              have hq := HQ.out
              exact ⟨_, by rw [HME.out]; rfl, by
                have ht : kn + 1 - L.length = t := by omega
                rw [HRE.out, ht]
                exact hO2.base b0.out.size, b0.trans hB⟩
        · rw [hfit.out] at hf
          cases hf
end Go.Proofs.Ytcgikbidgknkpaa.U

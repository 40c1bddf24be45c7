
/- Equality of lists of ints, by the program and by the reference. -/
import Derived.Test.YtaidbdogolhnjaaG1
set_option linter.unusedVariables false
set_option linter.unusedSimpArgs false
namespace Go.Proofs.Ytaidbdogolhnjaa.U
open Go.RowKit Go.Lib Go.Proofs.YtaidbdogolhnjaaW.PrintWords

set_option maxHeartbeats 1000000 in
theorem spec_l24Same (A : Option Addr) (n c : Nat) (a : List Int) (B : Option Addr) (m d : Nat) (b : List Int) (w : World) (hRa : RI w A n a) (hRb : RI w B m b) :
    Calls Try.prog 32 #[.slice A n c, .slice B m d] w fun e w' => e = .returned (.bool (decide (a = b))) ∧ Drawn0 w w' := by
  have ha := hRa.out; clear hRa
  have hb := hRb.out; clear hRb
  have hm := ReadsInt.max ha
  by_cases hlen : n = m
  · subst hlen
    have hyes : (∀ j, j < n → rd a (j : Int) = rd b (j : Int)) → decide (a = b) = true := fun h => decide_eq_true (eq_at_end a b n ha.1 hb.1 h)
    have hno : ∀ j, j < n → rd a (j : Int) ≠ rd b (j : Int) → decide (a = b) = false := fun j hj h => decide_eq_false (fun e => h (by rw [e]))
    generalize decide (a = b) = R at *
    have HA := hid ha; clear ha
    have HB := hid hb; clear hb
    have HY := hid hyes; clear hyes
    have HN := hid hno; clear hno
    go_enter Try.func32, Try.ntmps32
    go_wp2
    go_loopw [5] (fun i wr => ∃ k : Nat, k ≤ n ∧ i = .int .i64 k ∧ Hid (∀ j, j < k → rd a (j : Int) = rd b (j : Int)) ∧ Hid (Drawn0 w wr)) (fun i _ => n - (intOf i).toNat)
    case atStart => exact ⟨0, by omega, rfl, hid (fun j hj => by omega), hid (Drawn0.refl _)⟩
    case round =>
      obtain ⟨k, hk, rfl, hE, hD⟩ := hrel
      by_cases hlt : k < n
      · obtain ⟨ad, rfl, hc⟩ := ReadsInt.nat (ReadsInt.drawn HA.out hD.out) k hlt
        obtain ⟨ae, rfl, hc2⟩ := ReadsInt.nat (ReadsInt.drawn HB.out hD.out) k hlt
        by_cases he : rd a (k : Int) = rd b (k : Int)
        · have hb' : (rd a (k : Int) != rd b (k : Int)) = false := by simp [he]
          have hE2 : Hid (∀ j, j < k + 1 → rd a (j : Int) = rd b (j : Int)) := hid fun j hj => by
            by_cases e : j = k
            · rw [e]; exact he
            · exact hE.out j (by omega)
          clear he
          go_wp2
          go_quiet (fail)
          go_wp2
          go_roundw
          case rel => exact ⟨k + 1, by omega, by go_num, hE2, hid (hD.out.step _)⟩
          case measure => simp [intOf]; omega
        · have hb' : (rd a (k : Int) != rd b (k : Int)) = true := by simp [he]
          have hR := HN.out k hlt he
          have HR := hid hR
          clear he hR
          go_wp2
          go_quiet (fail)
          go_wp2
          go_ret
          exact ⟨ret_bool HR.out.symm, hD.out.step _⟩
      · obtain rfl : k = n := by omega
        have HR := hid (HY.out hE.out)
        go_wp2
        go_ret
        exact ⟨ret_bool HR.out.symm, hD.out⟩
  · have hlen' : decide (a = b) = false := decide_eq_false (fun e => hlen (by rw [← ha.1, ← hb.1, e]))
    rw [hlen']
    have hne : ((n : Int) != (m : Int)) = true := bne_iff_ne.mpr (by omega)
    clear hlen' ha hb
    go_enter Try.func32, Try.ntmps32
    go_wp2
    go_ret
    exact ⟨rfl, Drawn0.refl _⟩
end Go.Proofs.Ytaidbdogolhnjaa.U

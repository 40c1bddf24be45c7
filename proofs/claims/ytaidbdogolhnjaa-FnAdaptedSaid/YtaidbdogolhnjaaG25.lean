
/- Sets of cells: map[impl.Id]bool. -/
import Derived.Test.YtaidbdogolhnjaaYl
import Derived.Maps.Own
import Derived.Maps.OwnOps
import Derived.Maps.Views
import Derived.DeepKeys4
import Derived.Test.YtaidbdogolhnjaaG14
import Derived.Test.YtaidbdogolhnjaaG5
set_option linter.unusedVariables false
set_option linter.unusedSimpArgs false
namespace Go.Proofs.Ytaidbdogolhnjaa.U
open Go.RowKit Go.Lib Go.Proofs.YtaidbdogolhnjaaW.PrintWords

open Go.Maps (Keyed IsMap)
set_option maxRecDepth 100000 in
theorem laidY : laidOutB Try.prog = true := by kernel_rfl
set_option maxRecDepth 100000 in
theorem rowIdY : (58 : TypeId) < Try.prog.types.size := of_decide_eq_true (by kernel_rfl)
set_option maxRecDepth 100000 in
theorem wideIdY : (match Try.prog.underlying 58 with | some (.array _ _) | some (.struct _) => true | _ => false) = true := by rw [Try.underlying58]
set_option maxRecDepth 100000 in
theorem lawIdY : Keyed Try.prog 58 := Keyed.of_law (deep_law_laid laidY (m := 2) (by omega) rowIdY (by kernel_rfl) wideIdY)
set_option maxRecDepth 100000 in
theorem zeroBY (w : World) : (zeroValue 4).run Try.prog w = .ok (.bool false) w := by kernel_rfl
set_option maxRecDepth 100000 in
theorem cellsIdY : Try.prog.cellsOf 58 = 3 := by kernel_rfl
set_option maxRecDepth 100000 in
theorem cellsIntY : Try.prog.cellsOf 3 = 1 := by kernel_rfl
set_option maxRecDepth 100000 in
theorem keyTyY : Try.prog.keyType 58 = true := by kernel_rfl
theorem sizeTyY : ∃ n, Try.prog.types.size + 1 = n + 1 + 1 := ⟨Try.prog.types.size - 1, by have h : 0 < Try.prog.types.size := Nat.lt_of_le_of_lt (Nat.zero_le _) rowIdY; omega⟩
theorem key_ce (a b c : Int) (ha : (Lit.int .i64 a).wf = true) (hb : (Lit.int .i64 b).wf = true) (hc : (Lit.int .i64 c).wf = true) : ∃ kl, keyOf Try.prog 58 (.agg #[.int .i64 a, .int .i64 b, .int .i64 c]) = some kl := by
  obtain ⟨n, hn⟩ := sizeTyY
  have hf : (Value.agg #[.int .i64 a, .int .i64 b, .int .i64 c]).formed Try.prog 58 = true := by simp [Value.formed, Try.underlying58, cellsIdY]
  have hk : ∀ x : Int, (Lit.int .i64 x).wf = true → Try.prog.keyLits (n + 1) 3 [.int .i64 x] = some [.int .i64 x] := fun x hx => by simp [Program.keyLits, Try.underlying3, hx]
  unfold keyOf
  rw [Try.underlying58]
  simp only [keyTyY, hf, Bool.and_self, if_true, hn]
  simp [Program.keyLits, Try.underlying58, cellsIdY, cellsIntY, Value.cells, ha, hb, hc]
theorem wfY {a : Int} (h : -9000000000000000000 ≤ a ∧ a ≤ 9000000000000000000) : (Lit.int .i64 a).wf = true := by
  simp [Lit.wf, IntKind.min, IntKind.max, IntKind.signed, IntKind.bits]
  omega
theorem key_ok {x : Ce} (h : ceOk x = true) : ∃ kl, keyOf Try.prog 58 (.agg #[.int .i64 x.r, .int .i64 x.l, .int .i64 x.i]) = some kl := by
  obtain ⟨h1, h2, h3, _⟩ := ceOk_facts h
  exact key_ce _ _ _ (wfY (by omega)) (wfY (by omega)) (wfY (by omega))
theorem plain_boolY {P : Program} {e : TypeId} (he : P.underlying e = some .bool) {v : Value} {b : Bool} {ps : List MemPlace} (h : plainElem (H := Unit) P e v = some (.lit (.bool b), ps)) : v = .bool b := by
  unfold plainElem at h
  rw [he] at h
  cases v <;> simp at h
  rw [h.1]
/-- block B is a set of at most n cells, those of C -/
def MpS (w : World) (B n : Nat) (C : List Ce) : Prop := ∃ D : DataW Unit, w.ownsMap Try.prog 58 (plainElem Try.prog 4) B n D ∧ IsMap D ∧ ∀ x kl, ceOk x = true → keyOf Try.prog 58 (.agg #[.int .i64 x.r, .int .i64 x.l, .int .i64 x.i]) = some kl → D.atKey kl (.lit (.bool false)) = .lit (.bool (decide (x ∈ C)))
theorem MpS.made (w : World) : MpS (w.alloc (.map #[] 0)) w.heap.size 0 [] := ⟨_, World.ownsMap_made w _ _ _, Go.Maps.isMap_empty, fun x kl _ _ => by simp [DataW.atKey]⟩
theorem MpS.lt {w : World} {B n : Nat} {C : List Ce} (h : MpS w B n C) : B < w.heap.size := by
  obtain ⟨D, h1, _⟩ := h
  exact h1.lt
theorem MpS.kept {w w' : World} {B n : Nat} {C : List Ce} (h : MpS w B n C) (hb : w'.heap[B]? = w.heap[B]?) : MpS w' B n C := by
  obtain ⟨D, ⟨es, clock, h1, h2⟩, h3, h4⟩ := h
  exact ⟨D, ⟨es, clock, hb.trans h1, h2⟩, h3, h4⟩
theorem MpS.look {w : World} {B n : Nat} {C : List Ce} (h : MpS w B n C) {x : Ce} (hx : ceOk x = true) : (Instr.lookup 83 (.map (some B)) (.agg #[.int .i64 x.r, .int .i64 x.l, .int .i64 x.i]) false).run Try.prog w = .ok (.bool (decide (x ∈ C))) w := by
  obtain ⟨D, h1, _, h2⟩ := h
  obtain ⟨kl, hk⟩ := key_ok hx
  obtain ⟨v, ps, hr, hv⟩ := h1.lookup lawIdY Try.underlying83 (zeroBY w) (plainElem_bool Try.underlying4 false) hk
  rw [h2 x kl hx hk] at hv
  rw [hr, plain_boolY Try.underlying4 hv]
theorem MpS.put {w : World} {B n : Nat} {C : List Ce} (h : MpS w B n C) (hn : n < 1000000) {x : Ce} (hx : ceOk x = true) : ∃ w', (Instr.mapUpdate 83 (.map (some B)) (.agg #[.int .i64 x.r, .int .i64 x.l, .int .i64 x.i]) (.bool true)).run Try.prog w = .ok () w' ∧ MpS w' B (n + 1) (x :: C) ∧ w.grownBy w' (some B) := by
  obtain ⟨D, h1, hm, h2⟩ := h
  obtain ⟨kl, hk⟩ := key_ok hx
  obtain ⟨w', hr, ho, hg⟩ := h1.update lawIdY Try.underlying83 (by unfold maxLen; omega) hk (plainElem_bool Try.underlying4 true)
  refine ⟨w', hr, ⟨_, ho, hm.put _ _, fun y ky hy hky => ?_⟩, hg⟩
  by_cases e : y = x
  · subst e
    rw [hk] at hky
    obtain rfl := Option.some.inj hky
    rw [Go.Maps.atKey_put_same hm (lawIdY.key hk)]
    simp
  · have hne : ky ≠ kl := fun e2 => by
      subst e2
      have := lawIdY.inj hky hk
      simp only [Value.agg.injEq, Array.mk.injEq, List.cons.injEq, Value.int.injEq, true_and, and_true] at this
      obtain ⟨a, b, c⟩ := x
      obtain ⟨d, f, g⟩ := y
      simp only at this
      exact e (by rw [this.1, this.2.1, this.2.2])
    rw [Go.Maps.atKey_put_other hne, h2 y ky hy hky]
    simp [e]
end Go.Proofs.Ytaidbdogolhnjaa.U
set_option linter.unusedVariables false
set_option linter.unusedSimpArgs false
namespace Go.Proofs.Ytaidbdogolhnjaa.U
open Go.RowKit Go.Lib Go.Proofs.YtaidbdogolhnjaaW.PrintWords

open Go.Proofs.YtaidbdogolhnjaaW.PrintLast Go.Proofs.YtaidbdogolhnjaaW.PrintMore
attribute [local go_sem] go_max2
/-- the neighbours of leaf i of n -/
def nbs (n i : Nat) : Nat → List Int
  | 0 => []
  | 1 => if 0 < i then [(i : Int) - 1] else []
  | _ => (if 0 < i then [(i : Int) - 1] else []) ++ (if i + 1 < n then [(i : Int) + 1] else [])
theorem nbs_len (n i k : Nat) : (nbs n i k).length ≤ 2 := by
  match k with
  | 0 => simp [nbs]
  | 1 => simp only [nbs]; split <;> simp
  | k + 2 => simp only [nbs, List.length_append]; (repeat' split) <;> simp
theorem nbs_mem {n i k : Nat} (hi : i < n) : ∀ x ∈ nbs n i k, 0 ≤ x ∧ x < (n : Int) := by
  intro x hx
  match k, hx with
  | 0, hx => simp [nbs] at hx
  | 1, hx =>
    simp only [nbs] at hx
    split at hx
    · simp at hx; omega
    · simp at hx
  | k + 2, hx =>
    simp only [nbs, List.mem_append] at hx
    rcases hx with hx | hx
    · split at hx
      · simp at hx; omega
      · simp at hx
    · split at hx
      · simp at hx; omega
      · simp at hx
set_option maxHeartbeats 4000000 in
set_option maxRecDepth 100000 in
theorem impl_neighbours (ro : Int) (A : Option Addr) (n c i : Nat) (w : World) (hi : i < n) (hn : n ≤ 1000) :
    Calls Try.prog 106 #[.agg #[.int .i64 ro, .slice A n c], .int .i64 i] w fun e w' => ∃ v, e = .returned v ∧ OI w' w.heap.size v (nbs n i 2).length (nbs n i 2) ∧ Bw w w' := by
  have b0 := Bw.box1 w (.cells #[.int .i64 ro, .slice A n c] 26)
  have hk0 := heap_alloc_new w (.cells #[.int .i64 ro, .slice A n c] 26 (0, 0))
  have e1 : IntKind.i64.wrap ((i : Int) + 1) = (i : Int) + 1 := i64w (by omega) (by omega)
  have e2 : IntKind.i64.wrap ((i : Int) - 1) = (i : Int) - 1 := by clear e1; exact i64w (by omega) (by omega)
  have o0 : OI ((w.alloc (.cells #[.int .i64 ro, .slice A n c] 26)).alloc (.cells #[] 3)) w.heap.size (.slice (some ⟨(w.alloc (.cells #[.int .i64 ro, .slice A n c] 26)).heap.size, 0, none⟩) 0 0) 0 [] := OI.lit0 _ _ b0.size
  have b1 := Bw.box1 (w.alloc (.cells #[.int .i64 ro, .slice A n c] 26)) (.cells #[] 3)
  have b2 := Bw.box1 ((w.alloc (.cells #[.int .i64 ro, .slice A n c] 26)).alloc (.cells #[] 3)) (.cells #[.int .i64 ((i : Int) - 1), .int .i64 ((i : Int) + 1)] 3)
  have hL := heap_alloc_new ((w.alloc (.cells #[.int .i64 ro, .slice A n c] 26)).alloc (.cells #[] 3)) (.cells #[.int .i64 ((i : Int) - 1), .int .i64 ((i : Int) + 1)] 3 (0, 0))
  have hsz : (w.alloc (.cells #[.int .i64 ro, .slice A n c] 26)).heap.size = w.heap.size + 1 := by simp
  have hsz2 : ((w.alloc (.cells #[.int .i64 ro, .slice A n c] 26)).alloc (.cells #[] 3)).heap.size = w.heap.size + 2 := by simp
  rw [hsz] at o0
  rw [hsz2] at hL
  have HK := hid (((b1.trans b2).out.block _ (blk_lt hk0)).trans hk0)
  have HO := hid (o0.to b2)
  have HB := hid (b0.trans (b1.trans b2))
  have HL := hid hL
  clear hk0 o0 b1 b2 b0 hL hsz hsz2
  go_enter Try.func106, Try.ntmps106
  go_wp2
  generalize (((w.alloc (.cells #[.int .i64 ro, .slice A n c] 26)).alloc (.cells #[] 3)).alloc (.cells #[.int .i64 ((i : Int) - 1), .int .i64 ((i : Int) + 1)] 3)) = W1 at *
  go_loopw [5, 15] (fun v5 v15 wr => ∃ k : Nat, k ≤ 2 ∧ v15 = .int .i64 k ∧ Hid (OI wr w.heap.size v5 (nbs n i k).length (nbs n i k)) ∧ Hid (Bw w wr) ∧ Hid (wr.heap[w.heap.size]? = some (.cells #[.int .i64 ro, .slice A n c] 26 (0, 0))) ∧ Hid (wr.heap[w.heap.size + 2]? = some (.cells #[.int .i64 ((i : Int) - 1), .int .i64 ((i : Int) + 1)] 3 (0, 0))) ∧ Hid (∀ q, v5.ownBlock = some q → q ≠ w.heap.size + 2)) (fun _ v15 _ => 2 - (Go.RowKit.intOf v15).toNat)
  case atStart => exact ⟨0, by clear e1 e2; omega, rfl, HO, HB, HK, HL, hid (fun q hq => by simp [Value.ownBlock] at hq; omega)⟩
  case round =>
    obtain ⟨k, hk, rfl, hO, hB, hK, hL, hne⟩ := hrel
    have k0 : wr.cell? ⟨w.heap.size, 0, none⟩ = some (.int .i64 ro) := (blk_cell hK.out 0).trans rfl
    have k1 : wr.cell? ⟨w.heap.size, 1, none⟩ = some (.slice A n c) := (blk_cell hK.out 1).trans rfl
    have l0 : wr.cell? ⟨w.heap.size + 2, 0, none⟩ = some (.int .i64 ((i : Int) - 1)) := (blk_cell hL.out 0).trans rfl
    have l1 : wr.cell? ⟨w.heap.size + 2, 1, none⟩ = some (.int .i64 ((i : Int) + 1)) := (blk_cell hL.out 1).trans rfl
    have hcase : k = 0 ∨ k = 1 ∨ k = 2 := by clear e1 e2; omega
    rcases hcase with rfl | rfl | rfl
    · by_cases hc : 0 < i
      · have HC := hid (show inR ((i : Int) - 1) 0 ((n : Int) - 1) = true from inR_iff.2 (by clear e1 e2; omega))
        have HN := hid (show nbs n i 1 = nbs n i 0 ++ [((i : Int) - 1)] by simp [nbs, hc])
        go_wp2_with fail
        refine (toBool (impl_has ro A n c ((i : Int) - 1) _ (by clear e1 e2; omega)) HC.out).mono ?_
        rintro e w2 ⟨rfl, b2⟩
        have HK2 := hid ((b2.out.block _ (blk_lt hK.out)).trans hK.out)
        have HL2 := hid ((b2.out.block _ (blk_lt hL.out)).trans hL.out)
        have hO2 := hid (hO.out.to b2)
        have hB2 := hid (hB.out.trans b2)
        have HLEN := hid (nbs_len n i 0)
        obtain ⟨NL, hNL⟩ : ∃ NL, nbs n i 0 = NL := ⟨_, rfl⟩
        rw [hNL] at hO2 HN HLEN
        obtain ⟨Ao, co, rfl, _⟩ := hO2.out.reads
        clear b2 hO hB hK hL k0 k1 l0 l1 hc hNL
        go_wp2_with (at_builtin; refine print_append_num (w0 := w) w.heap.size rfl _ _ 27 3 .i64 8 rfl Try.underlying27 info_int (by clear e1 e2; omega) (.slice Ao NL.length co) NL ((i : Int) - 1) rfl rfl hO2.out.out hB2.out.out hB2.out.size (by have := HLEN.out; clear e1 e2; omega) ?_; intro v1 w3 hown1 hB1 hg1 hat)
        have hO3 := hid (show OI w3 w.heap.size v1 (nbs n i 1).length (nbs n i 1) by rw [HN.out]; exact OI.app hown1)
        have hlt2 : w.heap.size + 2 < w2.heap.size := blk_lt HL2.out
        have hB3 := hid (show Bw w w3 from ⟨hB1⟩)
        have hK3 := hid (blk_grown HK2.out hg1 (own_ne hO2.out.out HK2.out (by decide)))
        have hL3 := hid (blk_grown HL2.out hg1 (fun e => hne.out _ e.symm rfl))
        have hne3 := hid (show ∀ q, v1.ownBlock = some q → q ≠ w.heap.size + 2 from fun q hq => by
          rcases hat with e | ⟨b, e, hb⟩
          · exact hne.out q (by rw [← e, hq])
          · rw [hq] at e; have := Option.some.inj e; clear e1 e2; omega)
        clear hat hlt2
        go_roundw
        case rel => exact ⟨1, by clear e1 e2; omega, by first | rfl | go_num, hO3, hB3, hK3, hL3, hne3⟩
        case measure => simp [Go.RowKit.intOf]
      · have HC := hid (show inR ((i : Int) - 1) 0 ((n : Int) - 1) = false by
          cases h : inR ((i : Int) - 1) 0 ((n : Int) - 1) with
          | false => rfl
          | true => have := inR_iff.1 h; clear e1 e2; omega)
        have HN := hid (show nbs n i 1 = nbs n i 0 by simp [nbs, hc])
        go_wp2_with fail
        refine (toBool (impl_has ro A n c ((i : Int) - 1) _ (by clear e1 e2; omega)) HC.out).mono ?_
        rintro e w2 ⟨rfl, b2⟩
        have HK2 := hid ((b2.out.block _ (blk_lt hK.out)).trans hK.out)
        have HL2 := hid ((b2.out.block _ (blk_lt hL.out)).trans hL.out)
        have hO2 := hid (show OI w2 w.heap.size _ (nbs n i 1).length (nbs n i 1) by rw [HN.out]; exact hO.out.to b2)
        have hB2 := hid (hB.out.trans b2)
        clear b2 hO hB hK hL k0 k1 l0 l1 hc
        go_wp2
        go_roundw
        case rel => exact ⟨1, by clear e1 e2; omega, by first | rfl | go_num, hO2, hB2, HK2, HL2, hne⟩
        case measure => simp [Go.RowKit.intOf]
    · by_cases hc : i + 1 < n
      · have HC := hid (show inR ((i : Int) + 1) 0 ((n : Int) - 1) = true from inR_iff.2 (by clear e1 e2; omega))
        have HN := hid (show nbs n i 2 = nbs n i 1 ++ [((i : Int) + 1)] by simp [nbs, hc])
        go_wp2_with fail
        refine (toBool (impl_has ro A n c ((i : Int) + 1) _ (by clear e1 e2; omega)) HC.out).mono ?_
        rintro e w2 ⟨rfl, b2⟩
        have HK2 := hid ((b2.out.block _ (blk_lt hK.out)).trans hK.out)
        have HL2 := hid ((b2.out.block _ (blk_lt hL.out)).trans hL.out)
        have hO2 := hid (hO.out.to b2)
        have hB2 := hid (hB.out.trans b2)
        have HLEN := hid (nbs_len n i 1)
        obtain ⟨NL, hNL⟩ : ∃ NL, nbs n i 1 = NL := ⟨_, rfl⟩
        rw [hNL] at hO2 HN HLEN
        obtain ⟨Ao, co, rfl, _⟩ := hO2.out.reads
        clear b2 hO hB hK hL k0 k1 l0 l1 hc hNL
        go_wp2_with (at_builtin; refine print_append_num (w0 := w) w.heap.size rfl _ _ 27 3 .i64 8 rfl Try.underlying27 info_int (by clear e1 e2; omega) (.slice Ao NL.length co) NL ((i : Int) + 1) rfl rfl hO2.out.out hB2.out.out hB2.out.size (by have := HLEN.out; clear e1 e2; omega) ?_; intro v1 w3 hown1 hB1 hg1 hat)
        have hO3 := hid (show OI w3 w.heap.size v1 (nbs n i 2).length (nbs n i 2) by rw [HN.out]; exact OI.app hown1)
        have hlt2 : w.heap.size + 2 < w2.heap.size := blk_lt HL2.out
        have hB3 := hid (show Bw w w3 from ⟨hB1⟩)
        have hK3 := hid (blk_grown HK2.out hg1 (own_ne hO2.out.out HK2.out (by decide)))
        have hL3 := hid (blk_grown HL2.out hg1 (fun e => hne.out _ e.symm rfl))
        have hne3 := hid (show ∀ q, v1.ownBlock = some q → q ≠ w.heap.size + 2 from fun q hq => by
          rcases hat with e | ⟨b, e, hb⟩
          · exact hne.out q (by rw [← e, hq])
          · rw [hq] at e; have := Option.some.inj e; clear e1 e2; omega)
        clear hat hlt2
        go_roundw
        case rel => exact ⟨2, by clear e1 e2; omega, by first | rfl | go_num, hO3, hB3, hK3, hL3, hne3⟩
        case measure => simp [Go.RowKit.intOf]
      · have HC := hid (show inR ((i : Int) + 1) 0 ((n : Int) - 1) = false by
          cases h : inR ((i : Int) + 1) 0 ((n : Int) - 1) with
          | false => rfl
          | true => have := inR_iff.1 h; clear e1 e2; omega)
        have HN := hid (show nbs n i 2 = nbs n i 1 by simp [nbs, hc])
        go_wp2_with fail
        refine (toBool (impl_has ro A n c ((i : Int) + 1) _ (by clear e1 e2; omega)) HC.out).mono ?_
        rintro e w2 ⟨rfl, b2⟩
        have HK2 := hid ((b2.out.block _ (blk_lt hK.out)).trans hK.out)
        have HL2 := hid ((b2.out.block _ (blk_lt hL.out)).trans hL.out)
        have hO2 := hid (show OI w2 w.heap.size _ (nbs n i 2).length (nbs n i 2) by rw [HN.out]; exact hO.out.to b2)
        have hB2 := hid (hB.out.trans b2)
        clear b2 hO hB hK hL k0 k1 l0 l1 hc
        go_wp2
        go_roundw
        case rel => exact ⟨2, by clear e1 e2; omega, by first | rfl | go_num, hO2, hB2, HK2, HL2, hne⟩
        case measure => simp [Go.RowKit.intOf]
    · go_wp2
      go_ret
      exact ⟨_, rfl, hO.out, hB.out⟩

theorem impl_abs (x : Int) (w : World) (h : -9223372036854775807 ≤ x ∧ x ≤ 9223372036854775807) :
    Calls Try.prog 90 #[.int .i64 x] w fun e w' => e = .returned (.int .i64 (bigMax x (-x))) ∧ w = w' := by
  have i1 : wrap64 (-x) = -x := w64 (by omega) (by omega)
  obtain ⟨h1, h2⟩ := h
  go_enter Try.func90, Try.ntmps90
  go_wp2
  go_ret
  exact ⟨rfl, rfl⟩
def jumpTo (s : Sta) (i : Nat) (L : List Int) : Nat → Int
  | 0 => 0
  | k + 1 => bigMax (jumpTo s i L k) (bigMax (surf s i - surf s (rd L (k : Int)).toNat) (-(surf s i - surf s (rd L (k : Int)).toNat)))
/-- the greatest difference of the surfaces at leaf i -/
def jumpV (s : Sta) (i : Nat) : Int := jumpTo s i (nbs s.lv.length i 2) (nbs s.lv.length i 2).length
theorem jumpTo_range {s : Sta} (hs : StF s) {i : Nat} (hi : i < s.lv.length) (L : List Int) (hL : ∀ j, j < L.length → 0 ≤ rd L (j : Int) ∧ rd L (j : Int) < (s.lv.length : Int)) : ∀ k, k ≤ L.length → 0 ≤ jumpTo s i L k ∧ jumpTo s i L k ≤ 200000000
  | 0, _ => by simp [jumpTo]
  | k + 1, hk => by
    have ih := jumpTo_range hs hi L hL k (by omega)
    have h1 := surf_range hs hi
    have h2 := hL k (by omega)
    have h3 := surf_range hs (i := (rd L (k : Int)).toNat) (by omega)
    rw [jumpTo, bigMax_max, bigMax_max]
    omega
theorem nbs_at {n i k : Nat} (hi : i < n) (j : Nat) (hj : j < (nbs n i k).length) : 0 ≤ rd (nbs n i k) (j : Int) ∧ rd (nbs n i k) (j : Int) < (n : Int) := by
  rw [rd_nat, List.getD_eq_getElem?_getD, List.getElem?_eq_getElem hj, Option.getD_some]
  exact nbs_mem hi _ (List.getElem_mem hj)
theorem jumpV_range {s : Sta} (hs : StF s) {i : Nat} (hi : i < s.lv.length) : 0 ≤ jumpV s i ∧ jumpV s i ≤ 200000000 := jumpTo_range hs hi _ (fun j hj => nbs_at hi j hj) _ (Nat.le_refl _)
set_option maxHeartbeats 4000000 in
set_option maxRecDepth 100000 in
theorem impl_jump (x : Value) (s : Sta) (i : Nat) (w : World) (hx : StR w x s) (hs : StF s) (hi : i < s.lv.length) :
    Calls Try.prog 93 #[x, .int .i64 i] w fun e w' => e = .returned (.int .i64 (jumpV s i)) ∧ Bw w w' := by
  have HSR := hid hx
  have HSF := hid hs
  have HI := hid hi
  have hn := hs.n
  obtain ⟨A0, c0, A1, c1, A2, c2, A3, c3, rfl, r0, r1, r2, r3⟩ := hx
  obtain ⟨L, hLe⟩ : ∃ L, nbs s.lv.length i 2 = L := ⟨_, rfl⟩
  obtain ⟨N, hN⟩ : ∃ N, L.length = N := ⟨_, rfl⟩
  obtain ⟨R, hR⟩ : ∃ R, jumpV s i = R := ⟨_, rfl⟩
  rw [hR]
  have HRV := hid (show jumpTo s i L N = R by rw [← hR, jumpV, hLe, hN])
  have HLA := hid (show ∀ j, j < N → 0 ≤ rd L (j : Int) ∧ rd L (j : Int) < (s.lv.length : Int) from fun j hj => by rw [← hLe]; exact nbs_at hi j (by rw [hLe, hN]; exact hj))
  have HJR := hid (show ∀ k, k ≤ N → 0 ≤ jumpTo s i L k ∧ jumpTo s i L k ≤ 200000000 from fun k hk => jumpTo_range hs hi L (fun j hj => HLA.out j (by rw [← hN]; exact hj)) k (by rw [hN]; exact hk))
  have hN2 : N ≤ 2 := by rw [← hN, ← hLe]; exact nbs_len _ _ _
  have HL := hid (And.intro hLe hN)
  have b0 := Bw.box1 w (.cells #[.int .i64 s.ro, .slice A0 s.lv.length c0, .slice A1 s.ms.length c1, .slice A2 s.ts.length c2, .slice A3 s.bd.length c3] 29)
  have g0 := box_cell (Bw.refl (w.alloc (.cells #[.int .i64 s.ro, .slice A0 s.lv.length c0, .slice A1 s.ms.length c1, .slice A2 s.ts.length c2, .slice A3 s.bd.length c3] 29))) 0
  have g1 := box_cell (Bw.refl (w.alloc (.cells #[.int .i64 s.ro, .slice A0 s.lv.length c0, .slice A1 s.ms.length c1, .slice A2 s.ts.length c2, .slice A3 s.bd.length c3] 29))) 1
  have g2 := box_cell (Bw.refl (w.alloc (.cells #[.int .i64 s.ro, .slice A0 s.lv.length c0, .slice A1 s.ms.length c1, .slice A2 s.ts.length c2, .slice A3 s.bd.length c3] 29))) 2
  have g3 := box_cell (Bw.refl (w.alloc (.cells #[.int .i64 s.ro, .slice A0 s.lv.length c0, .slice A1 s.ms.length c1, .slice A2 s.ts.length c2, .slice A3 s.bd.length c3] 29))) 3
  have g4 := box_cell (Bw.refl (w.alloc (.cells #[.int .i64 s.ro, .slice A0 s.lv.length c0, .slice A1 s.ms.length c1, .slice A2 s.ts.length c2, .slice A3 s.bd.length c3] 29))) 4
  simp only [List.getElem?_toArray, List.getElem?_cons_zero, List.getElem?_cons_succ] at g0 g1 g2 g3 g4
  have HB0 := hid b0
  have HNN := hid (show s.lv.length ≤ 1000 by omega)
  clear hR hLe hN b0 hs hi hn
  go_enter Try.func93, Try.ntmps93
  go_wp2_with fail
  generalize (w.alloc (.cells #[.int .i64 s.ro, .slice A0 s.lv.length c0, .slice A1 s.ms.length c1, .slice A2 s.ts.length c2, .slice A3 s.bd.length c3] 29)) = w1 at *
  refine (impl_neighbours s.ro A0 s.lv.length c0 i _ HI.out HNN.out).mono ?_
  rintro e w2 ⟨v, rfl, o2, b2⟩
  rw [HL.out.1, HL.out.2] at o2
  obtain ⟨AL, cL, rfl, _⟩ := o2.reads
  have HO2 := hid o2
  have HB2 := hid (HB0.out.trans b2)
  replace g0 := pw_cell_below b2.out g0
  replace g1 := pw_cell_below b2.out g1
  replace g2 := pw_cell_below b2.out g2
  replace g3 := pw_cell_below b2.out g3
  replace g4 := pw_cell_below b2.out g4
  have K_g0 := hid g0
  have K_g1 := hid g1
  have K_g2 := hid g2
  have K_g3 := hid g3
  have K_g4 := hid g4
  clear o2 b2 HB0 g0 g1 g2 g3 g4
  go_wp2
  go_loopw [5, 13] (fun v5 v13 wr => ∃ k : Nat, k ≤ N ∧ v13 = .int .i64 k ∧ v5 = .int .i64 (jumpTo s i L k) ∧ Hid (Bw w2 wr)) (fun _ v13 _ => N - (Go.RowKit.intOf v13).toNat)
  case atStart => exact ⟨0, by omega, rfl, rfl, hid (Bw.refl _)⟩
  case round =>
    obtain ⟨k, hk, rfl, rfl, hW⟩ := hrel
    by_cases hlt : k < N
    · have t1 : decide ((k : Int) < (N : Int)) = true := decide_eq_true (by omega)
      have e1 : IntKind.i64.wrap ((k : Int) + 1) = (k : Int) + 1 := i64w (by omega) (by omega)
      have hkk := hid (show k + 1 ≤ N ∧ N - (k + 1) < N - k by clear e1; omega)
      have g0 := pw_cell_below hW.out.out K_g0.out
      have g1 := pw_cell_below hW.out.out K_g1.out
      have g2 := pw_cell_below hW.out.out K_g2.out
      have g3 := pw_cell_below hW.out.out K_g3.out
      have g4 := pw_cell_below hW.out.out K_g4.out
      obtain ⟨ad, rfl, xk⟩ := (HO2.out.to hW.out).ri.nat k hlt
      have hla := HLA.out k hlt
      have hjr := HJR.out k hk
      obtain ⟨j, hj⟩ : ∃ j : Nat, rd L (k : Int) = (j : Int) := ⟨(rd L (k : Int)).toNat, by omega⟩
      have HJN := hid (show jumpTo s i L (k + 1) = bigMax (jumpTo s i L k) (bigMax (surf s i - surf s j) (-(surf s i - surf s j))) by rw [jumpTo, hj, Int.toNat_natCast])
      rw [hj] at xk hla
      have HJ := hid (show j < s.lv.length by clear e1; omega)
      have ha := surf_range HSF.out HI.out
      have hb := surf_range HSF.out HJ.out
      obtain ⟨sa, hsa⟩ : ∃ a, surf s i = a := ⟨_, rfl⟩
      obtain ⟨sb, hsb⟩ : ∃ a, surf s j = a := ⟨_, rfl⟩
      rw [hsa, hsb] at HJN
      rw [hsa] at ha
      rw [hsb] at hb
      have HSA := hid hsa
      have HSB := hid hsb
      have e2 : IntKind.i64.wrap (sa - sb) = sa - sb := by clear e1; exact i64w (by omega) (by omega)
      have HAB := hid (show -9223372036854775807 ≤ sa - sb ∧ sa - sb ≤ 9223372036854775807 by clear e1 e2; omega)
      have hB := hid (HB2.out.trans hW.out)
      clear hj hla hjr ha hb hsa hsb
      go_upto_region 5 with fail
      have bD := Bw.drawn (a := wr) ⟨⟨1, rfl⟩⟩
      refine start_ (n := 11) (S := fun w' => w'.cell? ⟨w.heap.size, 0, none⟩ = some (.int .i64 s.ro) ∧ w'.cell? ⟨w.heap.size, 1, none⟩ = some (.slice A0 s.lv.length c0) ∧ w'.cell? ⟨w.heap.size, 2, none⟩ = some (.slice A1 s.ms.length c1) ∧ w'.cell? ⟨w.heap.size, 3, none⟩ = some (.slice A2 s.ts.length c2) ∧ w'.cell? ⟨w.heap.size, 4, none⟩ = some (.slice A3 s.bd.length c3)) (ds := [10]) #[false, false, false, false, false, false, false, false, false, false, false] (by kernel_rfl) rfl rfl ⟨g0, g1, g2, g3, g4⟩ (fun hHeld => ?_)
      refine pure_ (i := 0) (N := (some 17)) (v := ?_) (a' := ?_) #[true, false, false, false, false, false, false, false, false, false, false] rfl rfl (by kernel_rfl) (fun _ _ _ h => h) (Or.inl ⟨by rfl, ?_⟩) ?_ ?_
      rotate_left
      · intro w'
        go_simp
        with_reducible rfl
      rotate_left
      · simp only [Act.put, List.setIfInBounds_toArray, List.set_cons_zero, List.set_cons_succ, i64_w, i32_w]
        rfl
      refine take_ (i := 1) (N := (some 18)) (v := ?_) (a' := ?_) #[true, true, false, false, false, false, false, false, false, false, false] rfl rfl (by kernel_rfl) (fun _ _ _ h => h) (Or.inl ⟨by rfl, ?_⟩) hHeld ?_ ?_
      rotate_left
      · rintro w' ⟨s0, s1, s2, s3, s4⟩
        go_simp
        with_reducible rfl
      rotate_left
      · simp only [Act.put, List.setIfInBounds_toArray, List.set_cons_zero, List.set_cons_succ, i64_w, i32_w]
        rfl
      refine pure_ (i := 2) (N := (some 19)) (v := ?_) (a' := ?_) #[true, true, true, false, false, false, false, false, false, false, false] rfl rfl (by kernel_rfl) (fun _ _ _ h => h) (Or.inl ⟨by rfl, ?_⟩) ?_ ?_
      rotate_left
      · intro w'
        go_simp
        with_reducible rfl
      rotate_left
      · simp only [Act.put, List.setIfInBounds_toArray, List.set_cons_zero, List.set_cons_succ, i64_w, i32_w]
        rfl
      refine take_ (i := 4) (N := (some 21)) (v := ?_) (a' := ?_) #[true, true, true, false, true, false, false, false, false, false, false] rfl rfl (by kernel_rfl) (fun _ _ _ h => h) (Or.inl ⟨by rfl, ?_⟩) hHeld ?_ ?_
      rotate_left
      · rintro w' ⟨s0, s1, s2, s3, s4⟩
        go_simp
        with_reducible rfl
      rotate_left
      · simp only [Act.put, List.setIfInBounds_toArray, List.set_cons_zero, List.set_cons_succ, i64_w, i32_w]
        rfl
      refine pure_ (i := 5) (N := (some 22)) (v := ?_) (a' := ?_) #[true, true, true, false, true, true, false, false, false, false, false] rfl rfl (by kernel_rfl) (fun _ _ _ h => h) (Or.inl ⟨by rfl, ?_⟩) ?_ ?_
      rotate_left
      · intro w'
        go_simp
        with_reducible rfl
      rotate_left
      · simp only [Act.put, List.setIfInBounds_toArray, List.set_cons_zero, List.set_cons_succ, i64_w, i32_w]
        rfl
      refine one_ (i := 3) (N := (some 20)) #[true, true, true, true, true, true, false, false, false, false, false] rfl rfl (by kernel_rfl) (by decide) (fun K hK => ?_)
      refine goes_ Try.func107 (by kernel_rfl) rfl #[.agg #[.int .i64 s.ro, .slice A0 s.lv.length c0, .slice A1 s.ms.length c1, .slice A2 s.ts.length c2, .slice A3 s.bd.length c3], .int .i64 (i : Int)] (by rfl) rfl rfl (by (try simp only [List.map_toArray, List.map_cons, List.map_nil]); first | done | rfl) ?_
      refine (impl_surface _ s i _ (HSR.out.to (hB.out.trans bD)) HSF.out HI.out).mono ?_
      rintro e wa ⟨rfl, ba⟩
      refine ⟨_, rfl, ?_⟩
      rw [HSA.out]
      have bA := bD.trans ba
      refine hK.out _ _ ⟨pw_cell_below bA.out g0, pw_cell_below bA.out g1, pw_cell_below bA.out g2, pw_cell_below bA.out g3, pw_cell_below bA.out g4⟩ (fun hHeld => ?_)
      clear hK K
      refine norm_ (a' := ?_) ?_ ?_
      rotate_left
      · show Act.put _ (some 20) _ = _
        simp only [Act.put, List.setIfInBounds_toArray, List.set_cons_zero, List.set_cons_succ, i64_w, i32_w]
        rfl
      refine one_ (i := 6) (N := (some 23)) #[true, true, true, true, true, true, true, false, false, false, false] rfl rfl (by kernel_rfl) (by decide) (fun K hK => ?_)
      refine goes_ Try.func107 (by kernel_rfl) rfl #[.agg #[.int .i64 s.ro, .slice A0 s.lv.length c0, .slice A1 s.ms.length c1, .slice A2 s.ts.length c2, .slice A3 s.bd.length c3], .int .i64 (j : Int)] (by rfl) rfl rfl (by (try simp only [List.map_toArray, List.map_cons, List.map_nil]); first | done | rfl) ?_
      refine (impl_surface _ s j _ (HSR.out.to (hB.out.trans bA)) HSF.out HJ.out).mono ?_
      rintro e wb ⟨rfl, bb⟩
      refine ⟨_, rfl, ?_⟩
      rw [HSB.out]
      have bC := bA.trans bb
      refine hK.out _ _ ⟨pw_cell_below bC.out g0, pw_cell_below bC.out g1, pw_cell_below bC.out g2, pw_cell_below bC.out g3, pw_cell_below bC.out g4⟩ (fun hHeld => ?_)
      clear hK K
      refine norm_ (a' := ?_) ?_ ?_
      rotate_left
      · show Act.put _ (some 23) _ = _
        simp only [Act.put, List.setIfInBounds_toArray, List.set_cons_zero, List.set_cons_succ, i64_w, i32_w]
        rfl
      refine pure_ (i := 7) (N := (some 24)) (v := ?_) (a' := ?_) #[true, true, true, true, true, true, true, true, false, false, false] rfl rfl (by kernel_rfl) (fun _ _ _ h => h) (Or.inl ⟨by rfl, ?_⟩) ?_ ?_
      rotate_left
      · intro w'
        go_simp
        with_reducible rfl
      rotate_left
      · simp only [Act.put, List.setIfInBounds_toArray, List.set_cons_zero, List.set_cons_succ, i64_w, i32_w]
        rfl
      refine one_ (i := 8) (N := (some 25)) #[true, true, true, true, true, true, true, true, true, false, false] rfl rfl (by kernel_rfl) (by decide) (fun K hK => ?_)
      refine goes_ Try.func90 (by kernel_rfl) rfl #[.int .i64 (sa - sb)] (by rfl) rfl rfl (by (try simp only [List.map_toArray, List.map_cons, List.map_nil]); first | done | rfl) ?_
      refine (impl_abs (sa - sb) _ HAB.out).mono ?_
      rintro e wc ⟨rfl, rfl⟩
      refine ⟨_, rfl, ?_⟩
      refine hK.out _ _ ⟨pw_cell_below bC.out g0, pw_cell_below bC.out g1, pw_cell_below bC.out g2, pw_cell_below bC.out g3, pw_cell_below bC.out g4⟩ (fun hHeld => ?_)
      clear hK K
      refine norm_ (a' := ?_) ?_ ?_
      rotate_left
      · show Act.put _ (some 25) _ = _
        simp only [Act.put, List.setIfInBounds_toArray, List.set_cons_zero, List.set_cons_succ, i64_w, i32_w]
        rfl
      refine pure_ (i := 9) (N := (some 26)) (v := ?_) (a' := ?_) #[true, true, true, true, true, true, true, true, true, true, false] rfl rfl (by kernel_rfl) (fun _ _ _ h => h) (Or.inl ⟨by rfl, ?_⟩) ?_ ?_
      rotate_left
      · intro w'
        go_simp
        with_reducible rfl
      rotate_left
      · simp only [Act.put, List.setIfInBounds_toArray, List.set_cons_zero, List.set_cons_succ, i64_w, i32_w]
        rfl
      clear hHeld
      refine last_ (i := 10) (N := (some 5)) #[true, true, true, true, true, true, true, true, true, true, true] rfl rfl (by kernel_rfl) (by decide) (fun K hK => ?_)
      refine value_ (w1 := ?_) (v := ?_) (by rfl) rfl ?_ ?_
      rotate_left 2
      · go_simp
        constructor
        · rfl
        · rfl
      refine hK.out _ _ ?_
      clear hK K
      refine norm_ (a' := ?_) ?_ ?_
      rotate_left
      · show Act.put _ (some 5) _ = _
        simp only [Act.put, List.setIfInBounds_toArray, List.set_cons_zero, List.set_cons_succ, i64_w, i32_w]
        rfl
      refine done_ (by kernel_rfl) ?_
      have hW2 := hid (hW.out.trans bC)
      clear bD ba bA bb bC hW hB g0 g1 g2 g3 g4
      go_wp2
      go_roundw
      case rel => exact ⟨k + 1, hkk.out.1, by go_num, by rw [HJN.out], hW2⟩
      case measure => simp [Go.RowKit.intOf]; clear e1 e2; omega
    · obtain rfl : k = N := by omega
      have t1 : decide ((k : Int) < (k : Int)) = false := decide_eq_false (by omega)
      go_wp2
      go_ret
      exact ⟨by rw [HRV.out]; rfl, HB2.out.trans hW.out⟩
end Go.Proofs.Ytaidbdogolhnjaa.U
set_option linter.unusedVariables false
set_option linter.unusedSimpArgs false
namespace Go.Proofs.Ytaidbdogolhnjaa.U
open Go.RowKit Go.Lib Go.Proofs.YtaidbdogolhnjaaW.PrintWords

open Go.Proofs.YtaidbdogolhnjaaW.PrintLast Go.Proofs.YtaidbdogolhnjaaW.PrintMore
def wishV (s : Sta) (hi lo : Int) (i : Nat) : Int := if jumpV s i > hi ∧ (gc s.lv i).l < 4 then 1 else if jumpV s i < lo ∧ (gc s.lv i).l > 0 then -1 else 0
def wishTo (s : Sta) (hi lo : Int) : Nat → List Int
  | 0 => []
  | k + 1 => wishTo s hi lo k ++ [wishV s hi lo k]
theorem wishTo_len (s : Sta) (hi lo : Int) : ∀ k, (wishTo s hi lo k).length = k
  | 0 => rfl
  | k + 1 => by rw [wishTo, List.length_append, wishTo_len s hi lo k]; rfl
theorem wishTo_rd (s : Sta) (hi lo : Int) : ∀ (k j : Nat), j < k → rd (wishTo s hi lo k) (j : Int) = wishV s hi lo j
  | k + 1, j, h => by
    have hl := wishTo_len s hi lo k
    rw [wishTo, rd_nat, List.getD_eq_getElem?_getD]
    rcases Nat.lt_or_ge j k with h1 | h1
    · rw [List.getElem?_append_left (by omega), ← List.getD_eq_getElem?_getD, ← rd_nat, wishTo_rd s hi lo k j h1]
    · obtain rfl : j = k := by omega
      rw [List.getElem?_append_right (by omega), hl, Nat.sub_self]
      rfl
set_option maxHeartbeats 8000000 in
set_option maxRecDepth 100000 in
theorem impl_Wishes (x : Value) (s : Sta) (hi lo : Int) (w : World) (hx : StR w x s) (hok : staOk s.ro s.lv s.ms s.ts s.bd = true) :
    Calls Try.prog 64 #[x, .int .i64 hi, .int .i64 lo] w fun e w' => ∃ v, e = .returned v ∧ OI w' w.heap.size v s.lv.length (wishTo s hi lo s.lv.length) ∧ Bw w w' := by
  have HSR := hid hx
  have HSF := hid (StF.of hok)
  have hn := HSF.out.n
  have HOK := hid hok
  obtain ⟨A0, c0, A1, c1, A2, c2, A3, c3, rfl, r0, r1, r2, r3⟩ := hx
  have b0 := Bw.box1 w (.cells #[.int .i64 s.ro, .slice A0 s.lv.length c0, .slice A1 s.ms.length c1, .slice A2 s.ts.length c2, .slice A3 s.bd.length c3] 29)
  have hk0 := heap_alloc_new w (.cells #[.int .i64 s.ro, .slice A0 s.lv.length c0, .slice A1 s.ms.length c1, .slice A2 s.ts.length c2, .slice A3 s.bd.length c3] 29 (0, 0))
  have HB0 := hid b0
  have HN := hid (show s.lv.length ≤ 1000 by omega)
  have g0 := box_cell (Bw.refl (w.alloc (.cells #[.int .i64 s.ro, .slice A0 s.lv.length c0, .slice A1 s.ms.length c1, .slice A2 s.ts.length c2, .slice A3 s.bd.length c3] 29))) 0
  have g1 := box_cell (Bw.refl (w.alloc (.cells #[.int .i64 s.ro, .slice A0 s.lv.length c0, .slice A1 s.ms.length c1, .slice A2 s.ts.length c2, .slice A3 s.bd.length c3] 29))) 1
  have g2 := box_cell (Bw.refl (w.alloc (.cells #[.int .i64 s.ro, .slice A0 s.lv.length c0, .slice A1 s.ms.length c1, .slice A2 s.ts.length c2, .slice A3 s.bd.length c3] 29))) 2
  have g3 := box_cell (Bw.refl (w.alloc (.cells #[.int .i64 s.ro, .slice A0 s.lv.length c0, .slice A1 s.ms.length c1, .slice A2 s.ts.length c2, .slice A3 s.bd.length c3] 29))) 3
  have g4 := box_cell (Bw.refl (w.alloc (.cells #[.int .i64 s.ro, .slice A0 s.lv.length c0, .slice A1 s.ms.length c1, .slice A2 s.ts.length c2, .slice A3 s.bd.length c3] 29))) 4
  simp only [List.getElem?_toArray, List.getElem?_cons_zero, List.getElem?_cons_succ] at g0 g1 g2 g3 g4
  clear b0 hok hn
  go_enter Try.func64, Try.ntmps64
  go_wp2_with fail
  generalize (w.alloc (.cells #[.int .i64 s.ro, .slice A0 s.lv.length c0, .slice A1 s.ms.length c1, .slice A2 s.ts.length c2, .slice A3 s.bd.length c3] 29)) = w1 at *
  refine (impl_StateOk s.ro A0 _ c0 s.lv A1 _ c1 s.ms A2 _ c2 s.ts A3 _ c3 s.bd _ (r0.to HB0.out) (r1.to HB0.out) (r2.to HB0.out) (r3.to HB0.out)).mono ?_
  rintro e w2 ⟨rfl, b2⟩
  rw [HOK.out]
  replace g0 := pw_cell_below b2.out g0
  replace g1 := pw_cell_below b2.out g1
  replace g2 := pw_cell_below b2.out g2
  replace g3 := pw_cell_below b2.out g3
  replace g4 := pw_cell_below b2.out g4
  have bL := Bw.box1 w2 (.cells #[] 3)
  have hB2 := HB0.out.trans b2
  have HO0 := hid (show OI (w2.alloc (.cells #[] 3)) w.heap.size (.slice (some ⟨w2.heap.size, 0, none⟩) 0 0) 0 [] from OI.lit0 _ _ hB2.size)
  replace g0 := pw_cell_below bL.out g0
  replace g1 := pw_cell_below bL.out g1
  replace g2 := pw_cell_below bL.out g2
  replace g3 := pw_cell_below bL.out g3
  replace g4 := pw_cell_below bL.out g4
  have HK0 := hid (((b2.trans bL).out.block _ (blk_lt hk0)).trans hk0)
  have HB3 := hid (hB2.trans bL)
  have HR0 := hid r0
  clear b2 bL hB2 HB0 hk0 r0 r1 r2 r3
  go_wp2
  clear g0 g1 g2 g3 g4
  go_loopw [7, 20] (fun v7 v20 wr => ∃ k : Nat, k ≤ s.lv.length ∧ v20 = .int .i64 k ∧ Hid (OI wr w.heap.size v7 k (wishTo s hi lo k)) ∧ Hid (Bw w wr) ∧ Hid (wr.heap[w.heap.size]? = some (.cells #[.int .i64 s.ro, .slice A0 s.lv.length c0, .slice A1 s.ms.length c1, .slice A2 s.ts.length c2, .slice A3 s.bd.length c3] 29 (0, 0)))) (fun _ v20 _ => s.lv.length - (Go.RowKit.intOf v20).toNat)
  case atStart => exact ⟨0, by omega, rfl, HO0, HB3, HK0⟩
  case round =>
    obtain ⟨k, hk, rfl, hO, hB, hK⟩ := hrel
    by_cases hlt : k < s.lv.length
    · have t1 : decide ((k : Int) < (s.lv.length : Int)) = true := decide_eq_true (by omega)
      have e1 : IntKind.i64.wrap ((k : Int) + 1) = (k : Int) + 1 := i64w (by have := HN.out; omega) (by have := HN.out; omega)
      obtain ⟨ad, rfl, x0, x1, x2⟩ := (HR0.out.to hB.out).at k hlt
      have g0 := (blk_cell hK.out 0).trans (show _ = some (Value.int .i64 s.ro) from rfl)
      have g1 := (blk_cell hK.out 1).trans (show _ = some (Value.slice (some ad) s.lv.length c0) from rfl)
      have g2 := (blk_cell hK.out 2).trans (show _ = some (Value.slice A1 s.ms.length c1) from rfl)
      have g3 := (blk_cell hK.out 3).trans (show _ = some (Value.slice A2 s.ts.length c2) from rfl)
      have g4 := (blk_cell hK.out 4).trans (show _ = some (Value.slice A3 s.bd.length c3) from rfl)
      have HLT := hid hlt
      have HKK := hid (show k + 1 ≤ s.lv.length ∧ s.lv.length - (k + 1) < s.lv.length - k by clear e1; omega)
      have HK9 := hid (show k ≤ 1000 by have := HN.out; clear e1; omega)
      have bx := Bw.box1 wr (.cells #[.int .i64 (gc s.lv k).r, .int .i64 (gc s.lv k).l, .int .i64 (gc s.lv k).i] 58)
      have y1 := box_cell (Bw.refl (wr.alloc (.cells #[.int .i64 (gc s.lv k).r, .int .i64 (gc s.lv k).l, .int .i64 (gc s.lv k).i] 58))) 1
      simp only [List.getElem?_toArray, List.getElem?_cons_zero, List.getElem?_cons_succ] at y1
      have HO1 := hid (hO.out.to bx)
      have HB1 := hid (hB.out.trans bx)
      have HK1 := hid ((bx.out.block _ (blk_lt hK.out)).trans hK.out)
      go_upto_region 7 with fail
      replace g0 := pw_cell_below bx.out g0
      replace g1 := pw_cell_below bx.out g1
      replace g2 := pw_cell_below bx.out g2
      replace g3 := pw_cell_below bx.out g3
      replace g4 := pw_cell_below bx.out g4
      clear bx hO hB hK x0 x1 x2
      generalize (wr.alloc (.cells #[.int .i64 (gc s.lv k).r, .int .i64 (gc s.lv k).l, .int .i64 (gc s.lv k).i] 58)) = w3 at *
      generalize wr.heap.size = P at *
      go_wp2_with fail
      refine (impl_jump _ s k _ (HSR.out.to HB1.out) HSF.out HLT.out).mono ?_
      rintro e w4 ⟨rfl, b4⟩
      replace y1 := pw_cell_below b4.out y1
      have HO4 := hid (HO1.out.to b4)
      have HB4 := hid (HB1.out.trans b4)
      have HK4 := hid ((b4.out.block _ (blk_lt HK1.out)).trans HK1.out)
      obtain ⟨J, hJ⟩ : ∃ J, jumpV s k = J := ⟨_, rfl⟩
      obtain ⟨lv, hl⟩ : ∃ lv, (gc s.lv k).l = lv := ⟨_, rfl⟩
      rw [hJ]
      rw [hl] at y1
      have HW := hid (show wishTo s hi lo (k + 1) = wishTo s hi lo k ++ [if J > hi ∧ lv < 4 then 1 else if J < lo ∧ lv > 0 then -1 else 0] by rw [wishTo, wishV, hJ, hl])
      obtain ⟨WL, hWL⟩ : ∃ WL, wishTo s hi lo k = WL := ⟨_, rfl⟩
      rw [hWL] at HO4 HW
      have HWN := hid (show WL.length = k by rw [← hWL]; exact wishTo_len s hi lo k)
      obtain ⟨Ao, co, rfl, _⟩ := HO4.out.reads
      clear b4 g0 g1 g2 g3 g4 hJ hl HB1 HO1 HK1 hWL hlt
      by_cases c1 : J > hi
      · have u1 : decide (J > hi) = true := decide_eq_true c1
        have u2 : decide (hi < J) = true := decide_eq_true c1
        by_cases c2 : lv < 4
        · have u3 : decide (lv < 4) = true := decide_eq_true c2
          have HV := hid (show wishTo s hi lo (k + 1) = WL ++ [1] by rw [HW.out, if_pos ⟨c1, c2⟩])
          clear HW
          go_wp2_with (at_builtin; refine print_append_num (w0 := w) w.heap.size rfl _ _ 27 3 .i64 8 rfl Try.underlying27 info_int (by decide) (.slice Ao k co) WL (1) rfl rfl (by rw [HWN.out]; exact HO4.out.out) HB4.out.out HB4.out.size (by have := HK9.out; rw [HWN.out]; clear e1; omega) ?_; intro v1_ w5 hown1 hB5 hg5 hat)
          have hO5 := hid (show OI w5 w.heap.size v1_ (k + 1) (wishTo s hi lo (k + 1)) by have h := OI.app hown1; rw [List.length_append, HWN.out] at h; rw [HV.out]; exact h)
          have hB5' := hid (show Bw w w5 from ⟨hB5⟩)
          have hK5 := hid (blk_grown HK4.out hg5 (own_ne HO4.out.out HK4.out (by decide)))
          clear hat hown1 hB5 hg5
          go_roundw
          case rel => exact ⟨k + 1, HKK.out.1, by go_num, hO5, hB5', hK5⟩
          case measure => simp [Go.RowKit.intOf]; exact HKK.out.2
        · have u3 : decide (lv < 4) = false := decide_eq_false c2
          replace HW := hid (show wishTo s hi lo (k + 1) = WL ++ [if J < lo ∧ lv > 0 then -1 else 0] by rw [HW.out, if_neg (fun h => c2 h.2)])
          by_cases d1 : J < lo
          · have v1 : decide (J < lo) = true := decide_eq_true d1
            have v2 : decide (lo > J) = true := decide_eq_true d1
            by_cases d2 : lv > 0
            · have v3 : decide (lv > 0) = true := decide_eq_true d2
              have v4 : decide (0 < lv) = true := decide_eq_true d2
              have HV := hid (show wishTo s hi lo (k + 1) = WL ++ [-1] by rw [HW.out, if_pos ⟨d1, d2⟩])
              clear HW
              go_wp2_with (at_builtin; refine print_append_num (w0 := w) w.heap.size rfl _ _ 27 3 .i64 8 rfl Try.underlying27 info_int (by decide) (.slice Ao k co) WL (-1) rfl rfl (by rw [HWN.out]; exact HO4.out.out) HB4.out.out HB4.out.size (by have := HK9.out; rw [HWN.out]; clear e1; omega) ?_; intro v1_ w5 hown1 hB5 hg5 hat)
              have hO5 := hid (show OI w5 w.heap.size v1_ (k + 1) (wishTo s hi lo (k + 1)) by have h := OI.app hown1; rw [List.length_append, HWN.out] at h; rw [HV.out]; exact h)
              have hB5' := hid (show Bw w w5 from ⟨hB5⟩)
              have hK5 := hid (blk_grown HK4.out hg5 (own_ne HO4.out.out HK4.out (by decide)))
              clear hat hown1 hB5 hg5
              go_roundw
              case rel => exact ⟨k + 1, HKK.out.1, by go_num, hO5, hB5', hK5⟩
              case measure => simp [Go.RowKit.intOf]; exact HKK.out.2
            · exact absurd d2 (by clear e1; omega)
          · have v1 : decide (J < lo) = false := decide_eq_false d1
            have v2 : decide (lo > J) = false := decide_eq_false d1
            have HV := hid (show wishTo s hi lo (k + 1) = WL ++ [0] by rw [HW.out, if_neg (fun h => d1 h.1)])
            clear HW
            go_wp2_with (at_builtin; refine print_append_num (w0 := w) w.heap.size rfl _ _ 27 3 .i64 8 rfl Try.underlying27 info_int (by decide) (.slice Ao k co) WL (0) rfl rfl (by rw [HWN.out]; exact HO4.out.out) HB4.out.out HB4.out.size (by have := HK9.out; rw [HWN.out]; clear e1; omega) ?_; intro v1_ w5 hown1 hB5 hg5 hat)
            have hO5 := hid (show OI w5 w.heap.size v1_ (k + 1) (wishTo s hi lo (k + 1)) by have h := OI.app hown1; rw [List.length_append, HWN.out] at h; rw [HV.out]; exact h)
            have hB5' := hid (show Bw w w5 from ⟨hB5⟩)
            have hK5 := hid (blk_grown HK4.out hg5 (own_ne HO4.out.out HK4.out (by decide)))
            clear hat hown1 hB5 hg5
            go_roundw
            case rel => exact ⟨k + 1, HKK.out.1, by go_num, hO5, hB5', hK5⟩
            case measure => simp [Go.RowKit.intOf]; exact HKK.out.2
      · have u1 : decide (J > hi) = false := decide_eq_false c1
        have u2 : decide (hi < J) = false := decide_eq_false c1
        replace HW := hid (show wishTo s hi lo (k + 1) = WL ++ [if J < lo ∧ lv > 0 then -1 else 0] by rw [HW.out, if_neg (fun h => c1 h.1)])
        by_cases d1 : J < lo
        · have v1 : decide (J < lo) = true := decide_eq_true d1
          have v2 : decide (lo > J) = true := decide_eq_true d1
          by_cases d2 : lv > 0
          · have v3 : decide (lv > 0) = true := decide_eq_true d2
            have v4 : decide (0 < lv) = true := decide_eq_true d2
            have HV := hid (show wishTo s hi lo (k + 1) = WL ++ [-1] by rw [HW.out, if_pos ⟨d1, d2⟩])
            clear HW
            go_wp2_with (at_builtin; refine print_append_num (w0 := w) w.heap.size rfl _ _ 27 3 .i64 8 rfl Try.underlying27 info_int (by decide) (.slice Ao k co) WL (-1) rfl rfl (by rw [HWN.out]; exact HO4.out.out) HB4.out.out HB4.out.size (by have := HK9.out; rw [HWN.out]; clear e1; omega) ?_; intro v1_ w5 hown1 hB5 hg5 hat)
            have hO5 := hid (show OI w5 w.heap.size v1_ (k + 1) (wishTo s hi lo (k + 1)) by have h := OI.app hown1; rw [List.length_append, HWN.out] at h; rw [HV.out]; exact h)
            have hB5' := hid (show Bw w w5 from ⟨hB5⟩)
            have hK5 := hid (blk_grown HK4.out hg5 (own_ne HO4.out.out HK4.out (by decide)))
            clear hat hown1 hB5 hg5
            go_roundw
            case rel => exact ⟨k + 1, HKK.out.1, by go_num, hO5, hB5', hK5⟩
            case measure => simp [Go.RowKit.intOf]; exact HKK.out.2
          · have v3 : decide (lv > 0) = false := decide_eq_false d2
            have v4 : decide (0 < lv) = false := decide_eq_false d2
            have HV := hid (show wishTo s hi lo (k + 1) = WL ++ [0] by rw [HW.out, if_neg (fun h => d2 h.2)])
            clear HW
            go_wp2_with (at_builtin; refine print_append_num (w0 := w) w.heap.size rfl _ _ 27 3 .i64 8 rfl Try.underlying27 info_int (by decide) (.slice Ao k co) WL (0) rfl rfl (by rw [HWN.out]; exact HO4.out.out) HB4.out.out HB4.out.size (by have := HK9.out; rw [HWN.out]; clear e1; omega) ?_; intro v1_ w5 hown1 hB5 hg5 hat)
            have hO5 := hid (show OI w5 w.heap.size v1_ (k + 1) (wishTo s hi lo (k + 1)) by have h := OI.app hown1; rw [List.length_append, HWN.out] at h; rw [HV.out]; exact h)
            have hB5' := hid (show Bw w w5 from ⟨hB5⟩)
            have hK5 := hid (blk_grown HK4.out hg5 (own_ne HO4.out.out HK4.out (by decide)))
            clear hat hown1 hB5 hg5
            go_roundw
            case rel => exact ⟨k + 1, HKK.out.1, by go_num, hO5, hB5', hK5⟩
            case measure => simp [Go.RowKit.intOf]; exact HKK.out.2
        · have v1 : decide (J < lo) = false := decide_eq_false d1
          have v2 : decide (lo > J) = false := decide_eq_false d1
          have HV := hid (show wishTo s hi lo (k + 1) = WL ++ [0] by rw [HW.out, if_neg (fun h => d1 h.1)])
          clear HW
          go_wp2_with (at_builtin; refine print_append_num (w0 := w) w.heap.size rfl _ _ 27 3 .i64 8 rfl Try.underlying27 info_int (by decide) (.slice Ao k co) WL (0) rfl rfl (by rw [HWN.out]; exact HO4.out.out) HB4.out.out HB4.out.size (by have := HK9.out; rw [HWN.out]; clear e1; omega) ?_; intro v1_ w5 hown1 hB5 hg5 hat)
          have hO5 := hid (show OI w5 w.heap.size v1_ (k + 1) (wishTo s hi lo (k + 1)) by have h := OI.app hown1; rw [List.length_append, HWN.out] at h; rw [HV.out]; exact h)
          have hB5' := hid (show Bw w w5 from ⟨hB5⟩)
          have hK5 := hid (blk_grown HK4.out hg5 (own_ne HO4.out.out HK4.out (by decide)))
          clear hat hown1 hB5 hg5
          go_roundw
          case rel => exact ⟨k + 1, HKK.out.1, by go_num, hO5, hB5', hK5⟩
          case measure => simp [Go.RowKit.intOf]; exact HKK.out.2
    · obtain rfl : k = s.lv.length := by omega
      have t1 : decide ((s.lv.length : Int) < (s.lv.length : Int)) = false := decide_eq_false (by omega)
      go_wp2
      go_ret
      exact ⟨_, rfl, hO.out, hB.out⟩
end Go.Proofs.Ytaidbdogolhnjaa.U


/- slices.Replace at rows of ints and of cells. -/
import Derived.Test.YtaidbdogolhnjaaIa
import Derived.Shelf.Spec.SlicesInsertGrow
set_option linter.unusedVariables false
set_option linter.unusedSimpArgs false
namespace Go.Proofs.Ytaidbdogolhnjaa.U
open Go.RowKit Go.Lib Go.Proofs.YtaidbdogolhnjaaW.PrintWords

open Go.Proofs.YtaidbdogolhnjaaW.PrintLast Go.Proofs.YtaidbdogolhnjaaW.PrintMore
theorem run_copy_rowK {P : Program} (w : World) (dT sT ty elem : TypeId) (sz g o dLen dCap : Nat) (a : Addr) (sLen sCap : Nat) (cur : Array Value) (t : TypeId) (cs : List Value)
    (hu : P.underlying dT = some (.slice elem)) (hs : (P.info? elem).map (·.size) = some sz)
    (hg : w.heap[g]? = some (.cells cur t (0, 0))) (k : Nat) (hk : Nat.min sLen dLen = k) (hn : cs.length = k * sz)
    (hsrc : ∀ j v, cs[j]? = some v → w.cell? (a.add j) = some v) (hfit : o + cs.length ≤ cur.size) (h1 : ∀ v ∈ cs, v.oneCell' = true) :
    (Builtin.copy_ #[dT, sT] ty #[.slice (some ⟨g, o, none⟩) dLen dCap, .slice (some a) sLen sCap]).run P w =
      .ok (goInt k) (w.setRow g (cur.toList.take o ++ cs ++ cur.toList.drop (o + cs.length)).toArray) := by
  have hl := run_loadCells_list (P := P) w a cs hsrc
  have hst := run_storeCells_at P g o t cs 0 cur w hg (by simpa using hfit) h1
  rw [hn] at hl
  cases hq : P.info? elem with
  | none => simp [hq] at hs
  | some i =>
    have hi : i.size = sz := by simpa [hq] using hs
    simp only [Nat.min_def] at hk
    simp [Builtin.copy_, run_underlying hu, Builtin.lenOf, Builtin.firstCells, sizeOf, typeInfo, hq, hi, Nat.min_def, hk, hl, hst]
theorem add_off (a : Addr) (g o j : Nat) (h : a = ⟨g, o, none⟩) : a.add j = ⟨g, o + j, none⟩ := by subst h; unfold Addr.add; split <;> simp_all
theorem grown_setRow (w : World) (g : Nat) (cs : Array Value) : w.grownBy (w.setRow g cs) (some g) := ⟨rfl, rfl, rfl, by simp [World.setRow], fun k hk hne => by
  have h : g ≠ k := fun e => hne (by rw [e])
  simp [World.setRow, Array.getElem?_modify, h]⟩
theorem grown_tr {a b c : World} {r : Option Nat} (h : a.grownBy b r) (k : b.grownBy c r) : a.grownBy c r := ⟨k.os.trans h.os, k.tape.trans h.tape, k.output.trans h.output, Nat.le_trans h.size k.size, fun j hj hne => (k.block j (Nat.lt_of_lt_of_le hj h.size) hne).trans (h.block j hj hne)⟩
theorem Bw.new {a b c : World} {g : Nat} (h : Bw a b) (hg : a.heap.size ≤ g) (k : b.grownBy c (some g)) : Bw a c := ⟨h.out.grown k h.size (fun j e => by have := Option.some.inj e; omega)⟩

theorem setCells_blk {w : World} {g : Nat} {cur : Array Value} {t : TypeId} (hg : w.heap[g]? = some (.cells cur t (0, 0))) : ∀ (vs : List Value) (o : Nat), ∃ cur', (w.setCells g o vs).heap[g]? = some (.cells cur' t (0, 0)) ∧ cur'.size = cur.size ∧ ∀ k, k ≤ o → cur'.toList.take k = cur.toList.take k := by
  intro vs
  induction vs generalizing w cur with
  | nil => exact fun o => ⟨cur, hg, rfl, fun _ _ => rfl⟩
  | cons v r ih =>
    intro o
    obtain ⟨cur', h1, h2, h3⟩ := ih (blk_set hg o v) (o + 1)
    refine ⟨cur', h1, by rw [h2]; simp, fun k hk => ?_⟩
    rw [h3 k (by omega)]
    simp only [Array.toList_setIfInBounds]
    exact List.take_set_of_le (by omega)
theorem grown_setCells (g : Nat) : ∀ (vs : List Value) (o : Nat) (w : World), w.grownBy (w.setCells g o vs) (some g)
  | [], _, w => ⟨rfl, rfl, rfl, Nat.le_refl _, fun _ _ _ => rfl⟩
  | v :: r, o, w => grown_tr (b := w.setCell ⟨g, o, none⟩ v) ⟨rfl, rfl, rfl, by simp [World.setCell], fun k _ hn => Below.heap_setCell w ⟨g, o, none⟩ v k (fun e => hn (by rw [e]))⟩ (grown_setCells g r (o + 1) _)
theorem zeroCells_len (z : Array Value) (n : Nat) : (Builtin.zeroCells z n).toList.length = n * z.size := by simp [Builtin.zeroCells]
theorem zeroCells_one {z : Array Value} (h : ∀ i, i < z.size → (z[i]!).oneCell' = true) (n : Nat) : ∀ v ∈ (Builtin.zeroCells z n).toList, v.oneCell' = true := by
  intro v hv
  simp only [Builtin.zeroCells, Array.toList_map, List.mem_map] at hv
  obtain ⟨i, hi, rfl⟩ := hv
  have : 0 < z.size := by
    rcases Nat.eq_zero_or_pos z.size with h0 | h0
    · simp [h0] at hi
    · exact h0
  exact h _ (Nat.mod_lt _ this)
theorem run_clear_row (w : World) (t e ty : TypeId) (z : Value) (k : Nat) (ht : Try.prog.underlying t = some (.slice e)) (hv : ∀ w, (zeroValue e).run Try.prog w = .ok z w) (hk : z.cells.size = k) (h1 : ∀ i, i < z.cells.size → (z.cells[i]!).oneCell' = true) (b o n c : Nat) (hn : 0 < n)
    (hc : ∀ j, j < n * k → (w.cell? ⟨b, o + j, none⟩).isSome = true) (hf : ∀ j, j < n * k → w.frozen? ⟨b, o + j, none⟩ = false) :
    (Builtin.clear_ #[t] ty #[.slice (some ⟨b, o, none⟩) n c]).run Try.prog w = .ok (.tuple #[]) (w.setCells b o (Builtin.zeroCells z.cells n).toList) := by
  have hl := zeroCells_len z.cells n
  rw [hk] at hl
  have hst := run_storeCells_cells (P := Try.prog) b o (Builtin.zeroCells z.cells n).toList 0 w (by rw [hl]; simpa using hc) (by rw [hl]; simpa using hf) (zeroCells_one h1 n)
  simp only [Nat.add_zero] at hst
  obtain ⟨m, rfl⟩ : ∃ m, n = m + 1 := ⟨n - 1, by omega⟩
  simp [Builtin.clear_, run_underlying ht, hv, hst]
/-- the cells of a replaced row, by lengths alone: a: what stays ahead, p: where the rest is put, b: where it came from -/
theorem two_moves {T V B : List Value} {a p r tot : Nat} (hT : r ≤ T.length) (ha : a + V.length = p) (hr : p + B.length = r) :
    (T.take p ++ B ++ T.drop (p + B.length)).length = T.length ∧ ((T.take p ++ B ++ T.drop (p + B.length)).take a ++ V ++ (T.take p ++ B ++ T.drop (p + B.length)).drop (a + V.length)).length = T.length ∧
    ((T.take p ++ B ++ T.drop (p + B.length)).take a ++ V ++ (T.take p ++ B ++ T.drop (p + B.length)).drop (a + V.length)).take r = T.take a ++ V ++ B := by
  have hp : p ≤ T.length := by omega
  have h0 : (T.take p ++ B ++ T.drop (p + B.length)).take a = T.take a := by
    rw [List.append_assoc, List.take_append_of_le_length (by rw [List.length_take]; omega), List.take_take, Nat.min_eq_left (by omega)]
  have h1 : (T.take p ++ B ++ T.drop (p + B.length)).drop (a + V.length) = B ++ T.drop (p + B.length) := by
    rw [List.append_assoc, List.drop_left' (by rw [List.length_take]; omega)]
  refine ⟨by simp only [List.length_append, List.length_take, List.length_drop]; omega, ?_, ?_⟩
  · rw [h0, h1]
    simp only [List.length_append, List.length_take, List.length_drop]
    omega
  · rw [h0, h1, ← List.append_assoc]
    exact List.take_left' (by simp only [List.length_append, List.length_take]; omega)
theorem two_moves' {T V B : List Value} {a p r : Nat} (hT : r ≤ T.length) (ha : a + V.length = p) (hr : p + B.length = r) :
    (T.take a ++ V ++ T.drop (a + V.length)).length = T.length ∧ ((T.take a ++ V ++ T.drop (a + V.length)).take p ++ B ++ (T.take a ++ V ++ T.drop (a + V.length)).drop (p + B.length)).length = T.length ∧
    ((T.take a ++ V ++ T.drop (a + V.length)).take p ++ B ++ (T.take a ++ V ++ T.drop (a + V.length)).drop (p + B.length)).take r = T.take a ++ V ++ B := by
  have h0 : (T.take a ++ V ++ T.drop (a + V.length)).take p = T.take a ++ V := List.take_left' (by simp only [List.length_append, List.length_take]; omega)
  refine ⟨by simp only [List.length_append, List.length_take, List.length_drop]; omega, ?_, ?_⟩
  · rw [h0]
    simp only [List.length_append, List.length_take, List.length_drop]
    omega
  · rw [h0]
    exact List.take_left' (by simp only [List.length_append, List.length_take]; omega)
theorem take_sub {T X : List Value} {n k : Nat} (h : T.take n = X) (hk : k ≤ n) : T.take k = X.take k := by rw [← h, List.take_take, Nat.min_eq_left hk]
theorem at_sub {T X : List Value} {n k : Nat} (h : T.take n = X) (hk : k < n) : T[k]? = X[k]? := by rw [← h, List.getElem?_take, if_pos hk]

theorem numsK_one (F : List Int) : ∀ u ∈ nums .i64 F, u.oneCell' = true := fun u hu => by
  obtain ⟨x, _, rfl⟩ := List.mem_map.1 hu
  rfl

theorem run_sizeOf_I : ∀ w, (Go.sizeOf 3).run Try.prog w = .ok 1 w := fun w => by
  obtain ⟨i, hi, hz0, hz1, hz2⟩ := info_parts info_int
  simp [sizeOf, typeInfo, hi, hz1]
theorem ovl_I (g n o gv : Nat) (cur cu2 : Array Value) (w : World) (hk : w.heap[g]? = some (.cells cur 3 (0, 0))) (hcs : cur.size = n) (hv : w.heap[gv]? = some (.cells cu2 3 (0, 0))) (m : Nat) (hm : 0 < m) (hv2 : cu2.size = m) (hne : gv ≠ g) (la ca lb cb : Nat) :
    (callFunc 87 #[.slice (some ⟨g, o, none⟩) la ca, .slice (some ⟨gv, 0, none⟩) lb cb]).run Try.prog w = .ok (.value (.bool false)) w := by
  rw [run_callFunc_extern Try.func87 (by kernel_rfl) (by kernel_rfl) (by kernel_rfl) (e := Extern.SlicesOverlaps.overlaps #[27, 27] #[4]) (by kernel_rfl),
    Lib.run_overlaps_apart w 27 4 3 Try.underlying27 1 run_sizeOf_I ⟨g, o, none⟩ ⟨gv, 0, none⟩ la ca lb cb (fun h => hne h.symm) 3 3 n m (by simp [World.shape?, hk, hcs]) (by simp [World.shape?, hv, hv2]) (by omega) (by simp [World.frozen?, hk]) (by simp [World.frozen?, hk])]
  rfl
set_option maxHeartbeats 4000000 in
set_option maxRecDepth 100000 in
theorem rep2shift_I (g n c i gv : Nat) (X V : List Value) (cur : Array Value) (w : World) (hk : w.heap[g]? = some (.cells cur 3 (0, 0))) (hcs : cur.size = c) (htk : cur.toList.take n = X) (hX : X.length = n) (hi : i + 1 < n) (hroom : n + 1 ≤ c) (hc63 : c ≤ 9223372036854775807)
    (hv : w.heap[gv]? = some (.cells V.toArray 3 (0, 0))) (hV : V.length = 2) (hne : gv ≠ g) (h1X : ∀ u ∈ X, u.oneCell' = true) (h1V : ∀ u ∈ V, u.oneCell' = true) :
    Calls Try.prog 60 #[.slice (some ⟨g, 0, none⟩) n c, .int .i64 i, .int .i64 ((i : Int) + 1), .slice (some ⟨gv, 0, none⟩) 2 2] w fun r w' => r = .returned (.slice (some ⟨g, 0, none⟩) (n + 1) c) ∧ (∃ cur', w'.heap[g]? = some (.cells cur' 3 (0, 0)) ∧ cur'.size = c ∧ cur'.toList.take (n + 1) = X.take i ++ V ++ X.drop (i + 1)) ∧ w.grownBy w' (some g) := by
  obtain ⟨B, hB⟩ : ∃ B, X.drop (i + 1) = B := ⟨_, rfl⟩
  rw [hB]
  have hBl : B.length = (n - (i + 1)) := by rw [← hB, List.length_drop]; omega
  have h1B : ∀ u ∈ B, u.oneCell' = true := fun u hu => h1X u (List.mem_of_mem_drop (by rw [hB]; exact hu))
  have hTl : cur.toList.length = c := by simpa using hcs
  have hmv := two_moves (T := cur.toList) (V := V) (B := B) (a := i) (p := (i + 2)) (r := (n + 1)) (tot := 0) (by omega) (by omega) (by omega)
  rw [hV, hTl] at hmv
  have hta := take_sub htk (k := i) (by omega)
  obtain ⟨L1, hL1⟩ : ∃ L1, cur.toList.take (i + 2) ++ B ++ cur.toList.drop ((i + 2) + B.length) = L1 := ⟨_, rfl⟩
  rw [hL1] at hmv
  obtain ⟨L2, hL2⟩ : ∃ L2, L1.take i ++ V ++ L1.drop (i + 2) = L2 := ⟨_, rfl⟩
  rw [hL2, hta] at hmv
  obtain ⟨hn1, hn2, hn3⟩ := hmv
  have hsz : (Try.prog.info? 3).map (·.size) = some 1 := by kernel_rfl
  have hcp1 : ∀ (W : World), W.heap = w.heap → ∀ ty dc sc, (Builtin.copy_ #[27, 27] ty #[.slice (some ⟨g, (i + 2), none⟩) (n - (i + 1)) dc, .slice (some ⟨g, (i + 1), none⟩) (n - (i + 1)) sc]).run Try.prog W = .ok (goInt (n - (i + 1) : Nat)) (W.setRow g L1.toArray) := fun W hW ty dc sc => by
    rw [← hL1]
    exact run_copy_rowK W 27 27 ty 3 1 g (i + 2) _ dc ⟨g, (i + 1), none⟩ _ sc cur 3 B Try.underlying27 hsz (by rw [hW]; exact hk) (n - (i + 1)) (by simp only [Nat.min_def]; split <;> omega) (by omega)
      (fun j u hj => by
        have hjl := (List.getElem?_eq_some_iff.1 hj).1
        rw [add_off ⟨g, (i + 1), none⟩ g (i + 1) j rfl]
        show W.cell? ⟨g, (i + 1) + j, none⟩ = _
        have h := at_sub htk (k := (i + 1) + j) (by omega)
        rw [← hB, List.getElem?_drop] at hj
        rw [hj] at h
        simp only [World.cell?, hW, hk]
        simpa using h) (by omega) h1B
  have hcp2 : ∀ (W : World), W.heap = w.heap → ∀ ty dc, (Builtin.copy_ #[27, 27] ty #[.slice (some ⟨g, i, none⟩) (n + 1 - i) dc, .slice (some ⟨gv, 0, none⟩) 2 2]).run Try.prog (W.setRow g L1.toArray) = .ok (goInt (2 : Nat)) ((W.setRow g L1.toArray).setRow g L2.toArray) := fun W hW ty dc => by
    have hg1 : (W.setRow g L1.toArray).heap[g]? = some (.cells L1.toArray 3 (0, 0)) := setRow_heap W g cur _ _ _ (by rw [hW]; exact hk)
    have hv1 : (W.setRow g L1.toArray).heap[gv]? = some (.cells V.toArray 3 (0, 0)) := ((grown_setRow W g L1.toArray).block gv (by rw [hW]; exact blk_lt hv) (fun e => hne (Option.some.inj e))).trans (by rw [hW]; exact hv)
    have e := run_copy_rowK (W.setRow g L1.toArray) 27 27 ty 3 1 g i (n + 1 - i) dc ⟨gv, 0, none⟩ 2 2 L1.toArray 3 V Try.underlying27 hsz hg1 2 (by simp only [Nat.min_def]; split <;> omega) hV
      (fun j u hj => by
        rw [add_off ⟨gv, 0, none⟩ gv 0 j rfl]
        show (W.setRow g L1.toArray).cell? ⟨gv, 0 + j, none⟩ = _
        simp only [World.cell?, hv1]
        simpa using hj) (by simp; omega) h1V
    rw [hV, hL2] at e
    exact e
  have hov : ∀ W : World, W.heap = w.heap → ∀ la ca, (callFunc 87 #[.slice (some ⟨g, (i + 2), none⟩) la ca, .slice (some ⟨gv, 0, none⟩) 2 2]).run Try.prog W = .ok (.value (.bool false)) W := fun W hW la ca =>
    ovl_I g c (i + 2) gv cur V.toArray W (by rw [hW]; exact hk) hcs (by rw [hW]; exact hv) 2 (by omega) (by simpa using hV) hne la ca 2 2
  have hw1 : IntKind.i64.wrap ((i : Int) + 1) = (i : Int) + 1 := i64w (by omega) (by omega)
  have hw2 : IntKind.i64.wrap ((i : Int) + 2) = (i : Int) + 2 := i64w (by clear hw1; omega) (by clear hw1; omega)
  have hw4 : IntKind.i64.wrap ((i : Int) + 2 + ((n - (i + 1) : Nat) : Int)) = ((n + 1 : Nat) : Int) := by rw [i64w (by clear hw1 hw2; omega) (by clear hw1 hw2; omega)]; clear hw1 hw2; omega
  have HR := hid (show ∀ W : World, Bw w W → W.heap = w.heap → (∃ cur', ((W.setRow g L1.toArray).setRow g L2.toArray).heap[g]? = some (.cells cur' 3 (0, 0)) ∧ cur'.size = c ∧ cur'.toList.take (n + 1) = X.take i ++ V ++ B) ∧ w.grownBy ((W.setRow g L1.toArray).setRow g L2.toArray) (some g) from fun W bW hW => ⟨⟨_, setRow_heap _ g _ _ _ _ (setRow_heap W g cur _ _ _ (by rw [hW]; exact hk)), by simpa using hn2, by simpa using hn3⟩, grown_tr (grown_tr (grown_of_below bW.out _) (grown_setRow _ _ _)) (grown_setRow _ _ _)⟩)
  have mixed : Try.prog.follows .mixedOrders = true := by kernel_rfl
  clear hn1 hn2 hn3 hL1 hL2 htk hX hBl hTl hB h1X h1B h1V hV hta
  have htn : ((i : Int) + 1).toNat = i + 1 := by clear hw1 hw2 hw4; omega
  have htn2 : ((i : Int) + 2).toNat = i + 2 := by clear hw1 hw2 hw4; omega
  have hz1 : ¬ ((i : Int) + 1 = (n : Int)) := by clear hw1 hw2 hw4; omega
  have hb0 : (0 : Int) ≤ (i : Int) + 1 := by clear hw1 hw2 hw4; omega
  have hb1 : (i : Int) ≤ (n : Int) := by clear hw1 hw2 hw4; omega
  have hb2 : (i : Int) + 1 ≤ (n : Int) := by clear hw1 hw2 hw4; omega
  have hb7 : (i : Int) + 2 ≤ (n : Int) + 1 := by clear hw1 hw2 hw4; omega
  have hb8 : (0 : Int) ≤ (i : Int) + 2 := by clear hw1 hw2 hw4; omega
  have hb9 : (i : Int) ≤ (n : Int) + 1 := by clear hw1 hw2 hw4; omega
  have hb4 : ¬ (c = i) := by clear hw1 hw2 hw4; omega
  have hb5 : ¬ (c = i + 1) := by clear hw1 hw2 hw4; omega
  have hb6 : ¬ (c = i + 2) := by clear hw1 hw2 hw4; omega
  go_enter Try.func60, Try.ntmps60
  go_upto_region 9 with fail
  go_quiet (fail)
  generalize hWq : w.drewN nq = Wq
  have bq : Bw w Wq := by rw [← hWq]; exact Bw.drawn ⟨⟨nq, rfl⟩⟩
  have eq : Wq.heap = w.heap := by rw [← hWq]; rfl
  have hov1 := hov Wq eq
  have hcpq := hcp1 Wq.drew eq
  have hcpr := hcp2 Wq.drew eq
  have hRq := HR.out Wq.drew (bq.trans (Bw.drawn ⟨⟨1, rfl⟩⟩)) eq
  have HRq := hid hRq
  clear hRq HR hWq bq hcp1 hcp2 hov
  go_upto_region 21 with fail
  go_wp2_with (simp only [hov1])
  go_region_law_o (refine step_copy_runI rfl _ _ 27 27 rfl _ _ (by simp [Act.eval, Act.put]) (by simp [Act.eval, Act.put]) (hcpq _ _ _) ?_)
  go_wp2_with (at_builtin; refine wpList_copy_runI _ rfl _ _ 27 27 rfl _ _ rfl rfl (hcpr _ _) ?_)
  go_ret
  exact ⟨rfl, HRq.out⟩

set_option maxHeartbeats 4000000 in
set_option maxRecDepth 100000 in
theorem rep2grow_I (g n i gv : Nat) (X V : List Value) (cur : Array Value) (w : World) (hk : w.heap[g]? = some (.cells cur 3 (0, 0))) (hcs : cur.size = n) (htk : cur.toList.take n = X) (hX : X.length = n) (hi : i + 1 < n) (hn : n ≤ 1000000)
    (hv : w.heap[gv]? = some (.cells V.toArray 3 (0, 0))) (hV : V.length = 2) (h1X : ∀ u ∈ X, u.oneCell' = true) (h1V : ∀ u ∈ V, u.oneCell' = true) :
    Calls Try.prog 60 #[.slice (some ⟨g, 0, none⟩) n n, .int .i64 i, .int .i64 ((i : Int) + 1), .slice (some ⟨gv, 0, none⟩) 2 2] w fun r w' => ∃ G, r = .returned (.slice (some ⟨w.heap.size, 0, none⟩) (n + 1) G) ∧ n + 1 ≤ G ∧ G ≤ 9223372036854775807 ∧ (∃ cur', w'.heap[w.heap.size]? = some (.cells cur' 3 (0, 0)) ∧ cur'.size = G ∧ cur'.toList.take (n + 1) = X.take i ++ V ++ X.drop (i + 1)) ∧ Bw w w' := by
  obtain ⟨B, hB⟩ : ∃ B, X.drop (i + 1) = B := ⟨_, rfl⟩
  rw [hB]
  have hBl : B.length = (n - (i + 1)) := by rw [← hB, List.length_drop]; omega
  have h1B : ∀ u ∈ B, u.oneCell' = true := fun u hu => h1X u (List.mem_of_mem_drop (by rw [hB]; exact hu))
  have hTl : cur.toList.length = n := by simpa using hcs
  have hAl : (X.take i).length = i := by rw [List.length_take]; omega
  have hsz : (Try.prog.info? 3).map (·.size) = some 1 := by kernel_rfl
  obtain ⟨i0, hi0, hz0, hzs, hzb⟩ := info_parts info_int
  have hgw : g < w.heap.size := blk_lt hk
  have hvw : gv < w.heap.size := blk_lt hv
  have HA := hid (And.intro hB (And.intro hBl (And.intro h1B (And.intro hTl (And.intro hAl (And.intro htk (And.intro hX (And.intro hV h1V))))))))
  clear hB hBl h1B hTl hAl htk hX hV h1V h1X
  have HX := hid (And.intro hsz (And.intro hi0 (And.intro hz0 (And.intro hzs (And.intro hzb (And.intro hcs (And.intro hk hv)))))))
  clear hsz hi0 hz0 hzs hzb hcs hk hv
  have hw1 : IntKind.i64.wrap ((i : Int) + 1) = (i : Int) + 1 := i64w (by omega) (by omega)
  have hw2 : IntKind.i64.wrap ((i : Int) + 2) = (i : Int) + 2 := i64w (by clear hw1; omega) (by clear hw1; omega)
  have hw4 : IntKind.i64.wrap ((i : Int) + 2 + ((n - (i + 1) : Nat) : Int)) = ((n + 1 : Nat) : Int) := by rw [i64w (by clear hw1 hw2; omega) (by clear hw1 hw2; omega)]; clear hw1 hw2; omega
  have hw3 : IntKind.i64.wrap ((n : Int) + 1 - (i : Int)) = (n : Int) + 1 - (i : Int) := i64w (by clear hw1 hw2 hw4; omega) (by clear hw1 hw2 hw4; omega)
  have htn : ((i : Int) + 1).toNat = i + 1 := by clear hw1 hw2 hw3 hw4; omega
  have htn2 : ((i : Int) + 2).toNat = i + 2 := by clear hw1 hw2 hw3 hw4; omega
  have hz1 : ¬ ((i : Int) + 1 = (n : Int)) := by clear hw1 hw2 hw3 hw4; omega
  have hz3 : (n : Int) < (n : Int) + 1 := by clear hw1 hw2 hw3 hw4; omega
  have hb0 : (0 : Int) ≤ (i : Int) + 1 := by clear hw1 hw2 hw3 hw4; omega
  have hb1 : (i : Int) ≤ (n : Int) := by clear hw1 hw2 hw3 hw4; omega
  have hb2 : (i : Int) + 1 ≤ (n : Int) := by clear hw1 hw2 hw3 hw4; omega
  have hb7 : (i : Int) + 2 ≤ (n : Int) + 1 := by clear hw1 hw2 hw3 hw4; omega
  have hb8 : (0 : Int) ≤ (i : Int) + 2 := by clear hw1 hw2 hw3 hw4; omega
  have hb9 : (i : Int) ≤ (n : Int) + 1 := by clear hw1 hw2 hw3 hw4; omega
  have hb4 : ¬ (n = i) := by clear hw1 hw2 hw3 hw4; omega
  have hb5 : ¬ (n = i + 1) := by clear hw1 hw2 hw3 hw4; omega
  have mixed : Try.prog.follows .mixedOrders = true := by kernel_rfl
  go_enter Try.func60, Try.ntmps60
  go_upto_region 9 with fail
  go_quiet (fail)
  generalize hWq : w.drewN nq = Wq
  have bq : Bw w Wq := by rw [← hWq]; exact Bw.drawn ⟨⟨nq, rfl⟩⟩
  have eq : Wq.heap = w.heap := by rw [← hWq]; rfl
  clear hWq
  obtain ⟨hsz, hi0, hz0, hzs, hzb, hcs, hk, hv⟩ := HX.out
  obtain ⟨hB, hBl, h1B, hTl, hAl, htk, hX, hV, h1V⟩ := HA.out
  rw [← eq] at hk hv hgw hvw
  have HWS := hid (congrArg Array.size eq)
  clear eq
  have hold : (Builtin.firstCells i0.size i (.slice (some ⟨g, 0, none⟩) i n)).run Try.prog Wq.drew = .ok (X.take i).toArray Wq.drew := by
    rw [hzs]
    exact run_firstCells_some Wq.drew 1 i ⟨g, 0, none⟩ i n (X.take i) (by clear hw1 hw2 hw3 hw4; omega) (fun j u hj => by
      have hjl := (List.getElem?_eq_some_iff.1 hj).1
      rw [add_off ⟨g, 0, none⟩ g 0 j rfl]
      show Wq.cell? ⟨g, 0 + j, none⟩ = _
      simp only [World.cell?, hk]
      have h := at_sub htk (k := j) (by clear hw1 hw2 hw3 hw4; omega)
      rw [List.getElem?_take, if_pos (by clear hw1 hw2 hw3 hw4; omega)] at hj
      rw [hj] at h
      simpa using h)
  have hkk : (n : Int) + 1 - (i : Int) = ((n + 1 - i : Nat) : Int) := by clear hw1 hw2 hw3 hw4; omega
  have hik : i + (n + 1 - i) = n + 1 := by clear hw1 hw2 hw3 hw4; omega
  have hrz : ∀ ty, (Builtin.append_ #[27, 3] ty #[.slice (some ⟨g, 0, none⟩) i n, .int .i64 ((n : Int) + 1 - (i : Int))]).run Try.prog Wq =
      .ok (.slice (some ⟨Wq.heap.size, 0, none⟩) (n + 1) (grownCap Wq (n + 1) n 3)) (Wq.drew.alloc (.cells ((X.take i).toArray ++ Builtin.zeroCells (Value.int .i64 0).cells (n + 1 - i) ++ Builtin.zeroCells (Value.int .i64 0).cells (grownCap Wq (n + 1) n 3 - (n + 1))) 3)) := fun ty => by
    clear hw1 hw2 hw3 hw4
    have h := Lib.run_append_grow_zeros Wq 27 3 ty 3 i0 _ .i64 .i64 Try.underlying27 Try.underlying3 hi0 hz0 (some ⟨g, 0, none⟩) i n (X.take i) hold (n + 1 - i) (by omega) (by omega) (by omega) (by omega) (by rw [hzb]; omega) (by rw [hzb, hik]; exact growslice_fits (by omega) (by omega))
    rw [hik] at h
    rw [hkk]
    exact h
  obtain ⟨G, hG⟩ : ∃ G, G = grownCap Wq (n + 1) n 3 := ⟨_, rfl⟩
  have hGn : n + 1 ≤ G := by rw [hG]; exact grownCap_ge Wq _ _ _
  have hG63 : G ≤ 9223372036854775807 := by
    clear hw1 hw2 hw3 hw4
    have := grownCap_le_maxLen Wq (n + 1) n 3 (by unfold maxLen; omega)
    rw [← hG] at this
    unfold maxLen at this
    omega
  obtain ⟨ROW, hROW⟩ : ∃ ROW : Array Value, ROW = (X.take i).toArray ++ Builtin.zeroCells (Value.int .i64 0).cells (n + 1 - i) ++ Builtin.zeroCells (Value.int .i64 0).cells (G - (n + 1)) := ⟨_, rfl⟩
  rw [← hG] at hrz
  rw [← hROW] at hrz
  have hRs : ROW.toList.length = G := by
    rw [hROW]
    simp [Builtin.zeroCells, Value.cells]
    clear hw1 hw2 hw3 hw4
    omega
  have hRt : ROW.toList.take i = X.take i := by
    rw [hROW]
    simp only [Array.toList_append, List.toList_toArray, List.append_assoc]
    exact List.take_left' hAl
  have hmv := two_moves' (T := ROW.toList) (V := V) (B := B) (a := i) (p := (i + 2)) (r := (n + 1)) (by clear hw1 hw2 hw3 hw4; omega) (by clear hw1 hw2 hw3 hw4; omega) (by clear hw1 hw2 hw3 hw4; omega)
  rw [hV, hRs] at hmv
  obtain ⟨L1, hL1⟩ : ∃ L1, ROW.toList.take i ++ V ++ ROW.toList.drop (i + 2) = L1 := ⟨_, rfl⟩
  rw [hL1] at hmv
  obtain ⟨L2, hL2⟩ : ∃ L2, L1.take (i + 2) ++ B ++ L1.drop ((i + 2) + B.length) = L2 := ⟨_, rfl⟩
  rw [hL2, hRt] at hmv
  obtain ⟨hn1, hn2, hn3⟩ := hmv
  obtain ⟨W1, hW1⟩ : ∃ W1, W1 = Wq.drew.alloc (.cells ROW 3) := ⟨_, rfl⟩
  rw [← hW1] at hrz
  have hN1 : W1.heap[Wq.heap.size]? = some (.cells ROW 3 (0, 0)) := by rw [hW1]; exact heap_alloc_new Wq.drew (.cells ROW 3 (0, 0))
  have hB1 : Bw Wq W1 := by rw [hW1]; exact (Bw.drawn ⟨⟨1, rfl⟩⟩).trans (Bw.box1 Wq.drew (.cells ROW 3))
  have hg1 : W1.heap[g]? = some (.cells cur 3 (0, 0)) := (hB1.out.block _ hgw).trans hk
  have hv1 : W1.heap[gv]? = some (.cells V.toArray 3 (0, 0)) := (hB1.out.block _ hvw).trans hv
  have hcpA : ∀ (W : World), W.heap = W1.heap → ∀ ty dc, (Builtin.copy_ #[27, 27] ty #[.slice (some ⟨Wq.heap.size, i, none⟩) (n + 1 - i) dc, .slice (some ⟨gv, 0, none⟩) 2 2]).run Try.prog W = .ok (goInt (2 : Nat)) (W.setRow Wq.heap.size L1.toArray) := fun W hW ty dc => by
    have e := run_copy_rowK W 27 27 ty 3 1 Wq.heap.size i (n + 1 - i) dc ⟨gv, 0, none⟩ 2 2 ROW 3 V Try.underlying27 hsz (by rw [hW]; exact hN1) 2 (by clear hw1 hw2 hw3 hw4; simp only [Nat.min_def]; split <;> omega) hV
      (fun j u hj => by
        rw [add_off ⟨gv, 0, none⟩ gv 0 j rfl]
        show W.cell? ⟨gv, 0 + j, none⟩ = _
        simp only [World.cell?, hW, hv1]
        simpa using hj) (by clear hw1 hw2 hw3 hw4; have : ROW.size = G := by simpa using hRs
                            omega) h1V
    rw [hV, hL1] at e
    exact e
  have hN2 : (W1.setRow Wq.heap.size L1.toArray).heap[Wq.heap.size]? = some (.cells L1.toArray 3 (0, 0)) := setRow_heap W1 _ _ _ _ _ hN1
  have hg2 : (W1.setRow Wq.heap.size L1.toArray).heap[g]? = some (.cells cur 3 (0, 0)) := ((grown_setRow W1 Wq.heap.size L1.toArray).block g (blk_lt hg1) (fun e => by have := Option.some.inj e; clear hw1 hw2 hw3 hw4; omega)).trans hg1
  have hcpB : ∀ (W : World), W.heap = (W1.setRow Wq.heap.size L1.toArray).heap → ∀ ty dc sc, (Builtin.copy_ #[27, 27] ty #[.slice (some ⟨Wq.heap.size, (i + 2), none⟩) (n - (i + 1)) dc, .slice (some ⟨g, (i + 1), none⟩) (n - (i + 1)) sc]).run Try.prog W = .ok (goInt (n - (i + 1) : Nat)) (W.setRow Wq.heap.size L2.toArray) := fun W hW ty dc sc => by
    rw [← hL2]
    exact run_copy_rowK W 27 27 ty 3 1 Wq.heap.size (i + 2) (n - (i + 1)) dc ⟨g, (i + 1), none⟩ _ sc L1.toArray 3 B Try.underlying27 hsz (by rw [hW]; exact hN2) (n - (i + 1)) (by clear hw1 hw2 hw3 hw4; simp only [Nat.min_def]; split <;> omega) (by clear hw1 hw2 hw3 hw4; omega)
      (fun j u hj => by
        have hjl := (List.getElem?_eq_some_iff.1 hj).1
        rw [add_off ⟨g, (i + 1), none⟩ g (i + 1) j rfl]
        show W.cell? ⟨g, (i + 1) + j, none⟩ = _
        have h := at_sub htk (k := (i + 1) + j) (by clear hw1 hw2 hw3 hw4; omega)
        rw [← hB, List.getElem?_drop] at hj
        rw [hj] at h
        simp only [World.cell?, hW, hg2]
        simpa using h) (by clear hw1 hw2 hw3 hw4; simp; omega) h1B
  have HR := hid (show n + 1 ≤ G ∧ G ≤ 9223372036854775807 ∧ (∃ cur', ((W1.setRow Wq.heap.size L1.toArray).drew.setRow Wq.heap.size L2.toArray).heap[Wq.heap.size]? = some (.cells cur' 3 (0, 0)) ∧ cur'.size = G ∧ cur'.toList.take (n + 1) = X.take i ++ V ++ B) ∧ Bw w ((W1.setRow Wq.heap.size L1.toArray).drew.setRow Wq.heap.size L2.toArray) from
    ⟨hGn, hG63, ⟨_, setRow_heap _ _ _ _ _ _ hN2, by simpa using hn2, by simpa using hn3⟩, bq.trans (((hB1.new (Nat.le_refl _) (grown_setRow W1 Wq.heap.size L1.toArray)).trans (Bw.drawn ⟨⟨1, rfl⟩⟩)).new (Nat.le_refl _) (grown_setRow _ _ _))⟩)
  have HCA := hid hcpA
  have HCB := hid hcpB
  have hb6 : ¬ (G = i) := by clear hw1 hw2 hw3 hw4; omega
  have hb10 : ¬ (G = i + 2) := by clear hw1 hw2 hw3 hw4; omega
  clear hW1 hcpA hcpB hRs hRt hROW hG hn1 hn2 hn3 hL1 hL2 htk hX hAl hBl hB h1B h1V hV hTl hold hkk hik hN1 hN2 hg1 hg2 hv1 hB1 hsz hi0 hz0 hzs hzb hcs hk hv HA HX bq
  go_upto_region 12 with (at_builtin; refine Lib.wpList_append_run _ rfl _ _ _ _ rfl _ _ rfl rfl _ _ (hrz _) ?_)
  have hcA := HCA.out W1 rfl
  go_upto_region 13 with (at_builtin; refine wpList_copy_runI _ rfl _ _ 27 27 rfl _ _ rfl rfl (hcA _ _) ?_)
  have hcB := HCB.out (W1.setRow Wq.heap.size L1.toArray).drew rfl
  go_region_law_o (refine step_copy_runI rfl _ _ 27 27 rfl _ _ (by simp [Act.eval, Act.put]) (by simp [Act.eval, Act.put]) (hcB _ _ _) ?_)
  go_wp2
  go_ret
  exact ⟨_, by rw [← HWS.out]; rfl, by rw [← HWS.out]; exact HR.out⟩

set_option maxHeartbeats 4000000 in
set_option maxRecDepth 100000 in
theorem rep1mid_I (g N c i gv : Nat) (X V : List Value) (cur : Array Value) (w : World) (hk : w.heap[g]? = some (.cells cur 3 (0, 0))) (hcs : cur.size = c) (htk : cur.toList.take (N + 1) = X) (hX : X.length = (N + 1)) (hi : i + 1 < N) (hnc : N + 1 ≤ c) (hn : N ≤ 1000000) (hc63 : c ≤ 9223372036854775807)
    (hv : w.heap[gv]? = some (.cells V.toArray 3 (0, 0))) (hV : V.length = 1) (hne : gv ≠ g) (h1X : ∀ u ∈ X, u.oneCell' = true) (h1V : ∀ u ∈ V, u.oneCell' = true) :
    Calls Try.prog 60 #[.slice (some ⟨g, 0, none⟩) (N + 1) c, .int .i64 i, .int .i64 ((i : Int) + 2), .slice (some ⟨gv, 0, none⟩) 1 1] w fun r w' => r = .returned (.slice (some ⟨g, 0, none⟩) N c) ∧ (∃ cur', w'.heap[g]? = some (.cells cur' 3 (0, 0)) ∧ cur'.size = c ∧ cur'.toList.take N = X.take i ++ V ++ X.drop (i + 2)) ∧ w.grownBy w' (some g) := by
  obtain ⟨B, hB⟩ : ∃ B, X.drop (i + 2) = B := ⟨_, rfl⟩
  rw [hB]
  obtain ⟨R, hR⟩ : ∃ R, X.take i ++ V ++ B = R := ⟨_, rfl⟩
  rw [hR]
  obtain ⟨ZC, hZC⟩ : ∃ ZC, (Builtin.zeroCells (Value.int .i64 0).cells 1).toList = ZC := ⟨_, rfl⟩
  have hBl : B.length = (N - (i + 1)) := by rw [← hB, List.length_drop]; omega
  have h1B : ∀ u ∈ B, u.oneCell' = true := fun u hu => h1X u (List.mem_of_mem_drop (by rw [hB]; exact hu))
  have hTl : cur.toList.length = c := by simpa using hcs
  have hmv := two_moves' (T := cur.toList) (V := V) (B := B) (a := i) (p := (i + 1)) (r := N) (by omega) (by omega) (by omega)
  have hta := take_sub htk (k := i) (by omega)
  rw [hV, hTl] at hmv
  obtain ⟨L1, hL1⟩ : ∃ L1, cur.toList.take i ++ V ++ cur.toList.drop (i + 1) = L1 := ⟨_, rfl⟩
  rw [hL1] at hmv
  obtain ⟨L2, hL2⟩ : ∃ L2, L1.take (i + 1) ++ B ++ L1.drop ((i + 1) + B.length) = L2 := ⟨_, rfl⟩
  rw [hL2, hta] at hmv
  obtain ⟨hn1, hn2, hn3⟩ := hmv
  have hsz : (Try.prog.info? 3).map (·.size) = some 1 := by kernel_rfl
  have hcp1 : ∀ (W : World), W.heap = w.heap → ∀ ty dc, (Builtin.copy_ #[27, 27] ty #[.slice (some ⟨g, i, none⟩) (N - i) dc, .slice (some ⟨gv, 0, none⟩) 1 1]).run Try.prog W = .ok (goInt (1 : Nat)) (W.setRow g L1.toArray) := fun W hW ty dc => by
    have e := run_copy_rowK W 27 27 ty 3 1 g i (N - i) dc ⟨gv, 0, none⟩ 1 1 cur 3 V Try.underlying27 hsz (by rw [hW]; exact hk) 1 (by simp only [Nat.min_def]; split <;> omega) hV
      (fun j u hj => by
        rw [add_off ⟨gv, 0, none⟩ gv 0 j rfl]
        show W.cell? ⟨gv, 0 + j, none⟩ = _
        simp only [World.cell?, hW, hv]
        simpa using hj) (by omega) h1V
    rw [hV, hL1] at e
    exact e
  have hat : ∀ j, j < (N - (i + 1)) → L1[(i + 2) + j]? = B[j]? := fun j hj => by
    rw [← hL1, List.getElem?_append_right (by simp only [List.length_append, List.length_take]; omega), List.getElem?_drop, show i + 1 + ((i + 2) + j - (cur.toList.take i ++ V).length) = (i + 2) + j by simp only [List.length_append, List.length_take]; omega, at_sub htk (by omega), ← hB, List.getElem?_drop]
  have hcp2 : ∀ (W : World), W.heap = w.heap → ∀ ty dc sc, (Builtin.copy_ #[27, 27] ty #[.slice (some ⟨g, (i + 1), none⟩) (N - (i + 1)) dc, .slice (some ⟨g, (i + 2), none⟩) (N - (i + 1)) sc]).run Try.prog (W.setRow g L1.toArray).drew = .ok (goInt (N - (i + 1) : Nat)) ((W.setRow g L1.toArray).drew.setRow g L2.toArray) := fun W hW ty dc sc => by
    have hg1 : (W.setRow g L1.toArray).drew.heap[g]? = some (.cells L1.toArray 3 (0, 0)) := setRow_heap W g cur _ _ _ (by rw [hW]; exact hk)
    rw [← hL2]
    exact run_copy_rowK (W.setRow g L1.toArray).drew 27 27 ty 3 1 g (i + 1) (N - (i + 1)) dc ⟨g, (i + 2), none⟩ _ sc L1.toArray 3 B Try.underlying27 hsz hg1 (N - (i + 1)) (by simp only [Nat.min_def]; split <;> omega) (by omega)
      (fun j u hj => by
        have hjl := (List.getElem?_eq_some_iff.1 hj).1
        rw [add_off ⟨g, (i + 2), none⟩ g (i + 2) j rfl]
        show (W.setRow g L1.toArray).drew.cell? ⟨g, (i + 2) + j, none⟩ = _
        simp only [World.cell?, hg1]
        have h := hat j (by omega)
        rw [hj] at h
        simpa using h) (by simp; omega) h1B
  have hg2 : ∀ (W : World), W.heap = w.heap → ((W.setRow g L1.toArray).drew.setRow g L2.toArray).heap[g]? = some (.cells L2.toArray 3 (0, 0)) := fun W hW => setRow_heap _ g _ _ _ _ (setRow_heap W g cur _ _ _ (by rw [hW]; exact hk))
  have hcl : ∀ (W : World), W.heap = w.heap → ∀ ty dc, (Builtin.clear_ #[27] ty #[.slice (some ⟨g, N, none⟩) 1 dc]).run Try.prog ((W.setRow g L1.toArray).drew.setRow g L2.toArray) = .ok (.tuple #[]) (((W.setRow g L1.toArray).drew.setRow g L2.toArray).setCells g N ZC) := fun W hW ty dc => by
    have h2 := hg2 W hW
    rw [← hZC]
    refine run_clear_row _ 27 3 ty (Value.int .i64 0) 1 Try.underlying27 (fun w => by rfl) rfl (by decide) g N 1 dc (by omega) (fun t ht => ?_) (fun t ht => blk_frozen h2 _)
    rw [blk_cell h2]
    simp only [List.getElem?_toArray]
    rw [List.getElem?_eq_getElem (by omega)]
    rfl
  have HR := hid (show ∀ W : World, Bw w W → W.heap = w.heap → (∃ cur', (((W.setRow g L1.toArray).drew.setRow g L2.toArray).setCells g N ZC).heap[g]? = some (.cells cur' 3 (0, 0)) ∧ cur'.size = c ∧ cur'.toList.take N = R) ∧ w.grownBy (((W.setRow g L1.toArray).drew.setRow g L2.toArray).setCells g N ZC) (some g) from fun W bW hW => by
    obtain ⟨cur', h1, h2, h3⟩ := setCells_blk (hg2 W hW) ZC N
    exact ⟨⟨cur', h1, by rw [h2]; simpa using hn2, by rw [h3 _ (Nat.le_refl _), ← hR]; simpa using hn3⟩, grown_tr (grown_tr (grown_tr (grown_tr (grown_of_below bW.out _) (grown_setRow _ _ _)) (grown_of_below (Bw.drawn ⟨⟨1, rfl⟩⟩).out _)) (grown_setRow _ _ _)) (grown_setCells _ _ _ _)⟩)
  have hw1 : IntKind.i64.wrap ((i : Int) + 1) = (i : Int) + 1 := i64w (by omega) (by omega)
  have hw2 : IntKind.i64.wrap ((i : Int) + 1 + ((N - (i + 1) : Nat) : Int)) = ((N : Nat) : Int) := by rw [i64w (by clear hw1; omega) (by clear hw1; omega)]; clear hw1; omega
  have htn : ((i : Int) + 1).toNat = i + 1 := by clear hw1 hw2; omega
  have htn2 : ((i : Int) + 2).toNat = i + 2 := by clear hw1 hw2; omega
  have hz1 : ¬ ((i : Int) + 2 = (N : Int) + 1) := by clear hw1 hw2; omega
  have hz2 : ¬ ((c : Int) < (N : Int)) := by clear hw1 hw2; omega
  have hb0 : (0 : Int) ≤ (i : Int) + 2 := by clear hw1 hw2; omega
  have hb1 : (i : Int) ≤ (N : Int) + 1 := by clear hw1 hw2; omega
  have hb2 : (i : Int) + 2 ≤ (N : Int) + 1 := by clear hw1 hw2; omega
  have hb3 : (i : Int) ≤ (N : Int) := by clear hw1 hw2; omega
  have hb7 : (i : Int) + 1 ≤ (N : Int) := by clear hw1 hw2; omega
  have hb8 : (0 : Int) ≤ (i : Int) + 1 := by clear hw1 hw2; omega
  have hb9 : (N : Int) ≤ (c : Int) := by clear hw1 hw2; omega
  have hb9' : N ≤ c := by clear hw1 hw2; omega
  have hb10 : (N : Int) ≤ (N : Int) + 1 := by clear hw1 hw2; omega
  have hb4 : ¬ (c = i) := by clear hw1 hw2; omega
  have hb5 : ¬ (c = i + 1) := by clear hw1 hw2; omega
  have hb6 : ¬ (c = i + 2) := by clear hw1 hw2; omega
  have hb11 : ¬ (c = N) := by clear hw1 hw2; omega
  have mixed : Try.prog.follows .mixedOrders = true := by kernel_rfl
  clear hn1 hn2 hn3 hL1 hL2 htk hX hBl hTl hB h1X h1B h1V hV hta hat hg2 hR hZC
  have H1 := hid hcp1
  have H2 := hid hcp2
  have H3 := hid hcl
  clear hcp1 hcp2 hcl
  go_enter Try.func60, Try.ntmps60
  go_upto_region 9 with fail
  go_quiet (fail)
  generalize hWq : w.drewN nq = Wq
  have bq : Bw w Wq := by rw [← hWq]; exact Bw.drawn ⟨⟨nq, rfl⟩⟩
  have eq : Wq.heap = w.heap := by rw [← hWq]; rfl
  have hc1 := H1.out Wq eq
  have hc2 := H2.out Wq eq
  have hc3 := H3.out Wq eq
  have HRq := hid (HR.out Wq bq eq)
  clear HR hWq bq H1 H2 H3 eq
  go_upto_region 18 with (at_builtin; refine wpList_copy_runI _ rfl _ _ 27 27 rfl _ _ rfl rfl (hc1 _ _) ?_)
  go_region_law_o (refine step_copy_runI rfl _ _ 27 27 rfl _ _ (by simp [Act.eval, Act.put]) (by simp [Act.eval, Act.put]) (hc2 _ _ _) ?_)
  go_wp2
  go_ret
  exact ⟨rfl, HRq.out⟩

set_option maxHeartbeats 4000000 in
set_option maxRecDepth 100000 in
theorem rep2room_I (g c i gv : Nat) (X V : List Value) (cur : Array Value) (w : World) (hk : w.heap[g]? = some (.cells cur 3 (0, 0))) (hcs : cur.size = c) (htk : cur.toList.take (i + 1) = X) (hX : X.length = (i + 1)) (hroom : i + 2 ≤ c) (hn : i ≤ 1000000) (hc63 : c ≤ 9223372036854775807)
    (hv : w.heap[gv]? = some (.cells V.toArray 3 (0, 0))) (hV : V.length = 2) (h1V : ∀ u ∈ V, u.oneCell' = true) :
    Calls Try.prog 60 #[.slice (some ⟨g, 0, none⟩) (i + 1) c, .int .i64 i, .int .i64 ((i : Int) + 1), .slice (some ⟨gv, 0, none⟩) 2 2] w fun r w' => r = .returned (.slice (some ⟨g, 0, none⟩) (i + 2) c) ∧ (∃ cur', w'.heap[g]? = some (.cells cur' 3 (0, 0)) ∧ cur'.size = c ∧ cur'.toList.take (i + 2) = X.take i ++ V) ∧ w.grownBy w' (some g) := by
  obtain ⟨R, hR⟩ : ∃ R, X.take i ++ V = R := ⟨_, rfl⟩
  rw [hR]
  have hTl : cur.toList.length = c := by simpa using hcs
  have hta := take_sub htk (k := i) (by omega)
  obtain ⟨i0, hi0, hz0, hzs, hzb⟩ := info_parts info_int
  obtain ⟨L1, hL1⟩ : ∃ L1, cur.toList.take i ++ V ++ cur.toList.drop (i + 2) = L1 := ⟨_, rfl⟩
  have hap : ∀ ty, (Builtin.append_ #[27, 27] ty #[.slice (some ⟨g, 0, none⟩) i c, .slice (some ⟨gv, 0, none⟩) 2 2]).run Try.prog w = .ok (.slice (some ⟨g, 0, none⟩) (i + 2) c) (w.setRow g L1.toArray) := fun ty => by
    have e := run_append_room (P := Try.prog) w 27 ty 3 i0 Try.underlying27 hi0 g i c cur hk ⟨gv, 0, none⟩ 2 2 V (by rw [hzs]; omega) (fun j u hj => by
      rw [add_off ⟨gv, 0, none⟩ gv 0 j rfl]
      simp only [World.cell?, hv]
      simpa using hj) h1V hroom (by rw [hzs, hcs]; omega)
    rw [hzs, hV] at e
    try rw [Nat.mul_one] at e
    rw [hL1] at e
    exact e
  have HR := hid (show (∃ cur', (w.setRow g L1.toArray).heap[g]? = some (.cells cur' 3 (0, 0)) ∧ cur'.size = c ∧ cur'.toList.take (i + 2) = R) ∧ w.grownBy (w.setRow g L1.toArray) (some g) from
    ⟨⟨_, setRow_heap w g cur _ _ _ hk, by rw [← hL1]; simp; omega, by rw [← hL1, ← hR, ← hta]; simp only [List.toList_toArray]; exact List.take_left' (by simp only [List.length_append, List.length_take]; omega)⟩, grown_setRow _ _ _⟩)
  have hw1 : IntKind.i64.wrap ((i : Int) + 1) = (i : Int) + 1 := i64w (by omega) (by omega)
  have htn : ((i : Int) + 1).toNat = i + 1 := by clear hw1; omega
  have hb0 : (0 : Int) ≤ (i : Int) + 1 := by clear hw1; omega
  have hb1 : (i : Int) ≤ (i : Int) + 1 := by clear hw1; omega
  have hb4 : ¬ (c = i) := by clear hw1; omega
  have hz3 : ¬ ((i : Int) + 2 < (i : Int) + 1) := by clear hw1; omega
  clear hL1 hta hTl hR htk hX hV h1V hk hcs hi0 hz0 hzs hzb
  go_enter Try.func60, Try.ntmps60
  go_wp2_with (at_builtin; refine Lib.wpList_append_run _ rfl _ _ _ _ rfl _ _ rfl rfl _ _ (hap _) ?_)
  go_ret
  exact ⟨rfl, HR.out⟩
set_option maxHeartbeats 4000000 in
set_option maxRecDepth 100000 in
theorem rep2last_I (g i gv : Nat) (X V : List Value) (cur : Array Value) (w : World) (hk : w.heap[g]? = some (.cells cur 3 (0, 0))) (hcs : cur.size = (i + 1)) (htk : cur.toList.take (i + 1) = X) (hX : X.length = (i + 1)) (hn : i ≤ 1000000)
    (hv : w.heap[gv]? = some (.cells V.toArray 3 (0, 0))) (hV : V.length = 2) :
    Calls Try.prog 60 #[.slice (some ⟨g, 0, none⟩) (i + 1) (i + 1), .int .i64 i, .int .i64 ((i : Int) + 1), .slice (some ⟨gv, 0, none⟩) 2 2] w fun r w' => ∃ G, r = .returned (.slice (some ⟨w.heap.size, 0, none⟩) (i + 2) G) ∧ i + 2 ≤ G ∧ G ≤ 9223372036854775807 ∧ (∃ cur', w'.heap[w.heap.size]? = some (.cells cur' 3 (0, 0)) ∧ cur'.size = G ∧ cur'.toList.take (i + 2) = X.take i ++ V) ∧ Bw w w' := by
  obtain ⟨R, hR⟩ : ∃ R, X.take i ++ V = R := ⟨_, rfl⟩
  rw [hR]
  have hAl : (X.take i).length = i := by rw [List.length_take]; omega
  obtain ⟨i0, hi0, hz0, hzs, hzb⟩ := info_parts info_int
  have hap : ∀ ty, (Builtin.append_ #[27, 27] ty #[.slice (some ⟨g, 0, none⟩) i (i + 1), .slice (some ⟨gv, 0, none⟩) 2 2]).run Try.prog w = .ok (.slice (some ⟨w.heap.size, 0, none⟩) (i + 2) (grownCap w (i + 2) (i + 1) 3)) (w.drew.alloc (.cells ((X.take i).toArray ++ V.toArray ++ Builtin.zeroCells (Value.int .i64 0).cells (grownCap w (i + 2) (i + 1) 3 - (i + 2))) 3)) := fun ty =>
    run_append_grow (P := Try.prog) w 27 ty 3 i0 _ Try.underlying27 hi0 hz0 ⟨g, 0, none⟩ i (i + 1) (X.take i) (by rw [hzs]; omega) (fun j u hj => by
      rw [add_off ⟨g, 0, none⟩ g 0 j rfl]
      have hjl := (List.getElem?_eq_some_iff.1 hj).1
      have h := at_sub htk (k := j) (by omega)
      rw [List.getElem?_take, if_pos (by omega)] at hj
      rw [hj] at h
      simp only [World.cell?, hk]
      simpa using h) ⟨gv, 0, none⟩ 2 2 V (by rw [hzs]; omega) (fun j u hj => by
      rw [add_off ⟨gv, 0, none⟩ gv 0 j rfl]
      simp only [World.cell?, hv]
      simpa using hj) (by omega) (by omega) (by rw [hzb]; exact growslice_fits (by omega) (by omega))
  obtain ⟨G, hG⟩ : ∃ G, G = grownCap w (i + 2) (i + 1) 3 := ⟨_, rfl⟩
  have hGn : i + 2 ≤ G := by rw [hG]; exact grownCap_ge w _ _ _
  have hG63 : G ≤ 9223372036854775807 := by
    have := grownCap_le_maxLen w (i + 2) (i + 1) 3 (by unfold maxLen; omega)
    rw [← hG] at this
    unfold maxLen at this
    omega
  obtain ⟨ROW, hROW⟩ : ∃ ROW : Array Value, ROW = (X.take i).toArray ++ V.toArray ++ Builtin.zeroCells (Value.int .i64 0).cells (G - (i + 2)) := ⟨_, rfl⟩
  rw [← hG] at hap
  rw [← hROW] at hap
  have HR := hid (show i + 2 ≤ G ∧ G ≤ 9223372036854775807 ∧ (∃ cur', (w.drew.alloc (.cells ROW 3)).heap[w.heap.size]? = some (.cells cur' 3 (0, 0)) ∧ cur'.size = G ∧ cur'.toList.take (i + 2) = R) ∧ Bw w (w.drew.alloc (.cells ROW 3)) from
    ⟨hGn, hG63, ⟨ROW, heap_alloc_new w.drew (.cells ROW 3 (0, 0)), by
      rw [hROW]
      simp [Builtin.zeroCells, Value.cells]
      omega, by
      rw [hROW, ← hR]
      simp only [Array.toList_append, List.toList_toArray]
      exact List.take_left' (by simp only [List.length_append]; omega)⟩, (Bw.drawn ⟨⟨1, rfl⟩⟩).trans (Bw.box1 w.drew (.cells ROW 3))⟩)
  have hw1 : IntKind.i64.wrap ((i : Int) + 1) = (i : Int) + 1 := i64w (by omega) (by omega)
  have htn : ((i : Int) + 1).toNat = i + 1 := by clear hw1; omega
  have hb0 : (0 : Int) ≤ (i : Int) + 1 := by clear hw1; omega
  have hb1 : (i : Int) ≤ (i : Int) + 1 := by clear hw1; omega
  have hz3 : ¬ ((i : Int) + 2 < (i : Int) + 1) := by clear hw1; omega
  clear hR htk hX hV hk hcs hi0 hz0 hzs hzb hG hGn hG63 hROW hAl
  go_enter Try.func60, Try.ntmps60
  go_wp2_with (at_builtin; refine Lib.wpList_append_run _ rfl _ _ _ _ rfl _ _ rfl rfl _ _ (hap _) ?_)
  go_ret
  exact ⟨_, rfl, HR.out⟩
set_option maxHeartbeats 4000000 in
set_option maxRecDepth 100000 in
theorem rep1end_I (g c i gv : Nat) (X V : List Value) (cur : Array Value) (w : World) (hk : w.heap[g]? = some (.cells cur 3 (0, 0))) (hcs : cur.size = c) (htk : cur.toList.take (i + 2) = X) (hX : X.length = (i + 2)) (hroom : i + 2 ≤ c) (hn : i ≤ 1000000) (hc63 : c ≤ 9223372036854775807)
    (hv : w.heap[gv]? = some (.cells V.toArray 3 (0, 0))) (hV : V.length = 1) (h1V : ∀ u ∈ V, u.oneCell' = true) :
    Calls Try.prog 60 #[.slice (some ⟨g, 0, none⟩) (i + 2) c, .int .i64 i, .int .i64 ((i : Int) + 2), .slice (some ⟨gv, 0, none⟩) 1 1] w fun r w' => r = .returned (.slice (some ⟨g, 0, none⟩) (i + 1) c) ∧ (∃ cur', w'.heap[g]? = some (.cells cur' 3 (0, 0)) ∧ cur'.size = c ∧ cur'.toList.take (i + 1) = X.take i ++ V) ∧ w.grownBy w' (some g) := by
  obtain ⟨R, hR⟩ : ∃ R, X.take i ++ V = R := ⟨_, rfl⟩
  rw [hR]
  obtain ⟨ZC, hZC⟩ : ∃ ZC, (Builtin.zeroCells (Value.int .i64 0).cells 1).toList = ZC := ⟨_, rfl⟩
  have hTl : cur.toList.length = c := by simpa using hcs
  have hta := take_sub htk (k := i) (by omega)
  obtain ⟨i0, hi0, hz0, hzs, hzb⟩ := info_parts info_int
  obtain ⟨L1, hL1⟩ : ∃ L1, cur.toList.take i ++ V ++ cur.toList.drop (i + 1) = L1 := ⟨_, rfl⟩
  have hap : ∀ ty, (Builtin.append_ #[27, 27] ty #[.slice (some ⟨g, 0, none⟩) i c, .slice (some ⟨gv, 0, none⟩) 1 1]).run Try.prog w = .ok (.slice (some ⟨g, 0, none⟩) (i + 1) c) (w.setRow g L1.toArray) := fun ty => by
    have e := run_append_room (P := Try.prog) w 27 ty 3 i0 Try.underlying27 hi0 g i c cur hk ⟨gv, 0, none⟩ 1 1 V (by rw [hzs]; omega) (fun j u hj => by
      rw [add_off ⟨gv, 0, none⟩ gv 0 j rfl]
      simp only [World.cell?, hv]
      simpa using hj) h1V (by omega) (by rw [hzs, hcs]; omega)
    rw [hzs, hV] at e
    try rw [Nat.mul_one] at e
    rw [hL1] at e
    exact e
  have hL1l : L1.length = c := by rw [← hL1]; simp only [List.length_append, List.length_take, List.length_drop]; omega
  have hg1 : (w.setRow g L1.toArray).heap[g]? = some (.cells L1.toArray 3 (0, 0)) := setRow_heap w g cur _ _ _ hk
  have hcl : ∀ ty dc, (Builtin.clear_ #[27] ty #[.slice (some ⟨g, (i + 1), none⟩) 1 dc]).run Try.prog (w.setRow g L1.toArray) = .ok (.tuple #[]) ((w.setRow g L1.toArray).setCells g (i + 1) ZC) := fun ty dc => by
    rw [← hZC]
    refine run_clear_row _ 27 3 ty (Value.int .i64 0) 1 Try.underlying27 (fun w => by rfl) rfl (by decide) g (i + 1) 1 dc (by omega) (fun t ht => ?_) (fun t ht => blk_frozen hg1 _)
    rw [blk_cell hg1]
    simp only [List.getElem?_toArray]
    rw [List.getElem?_eq_getElem (by omega)]
    rfl
  have HR := hid (show (∃ cur', ((w.setRow g L1.toArray).setCells g (i + 1) ZC).heap[g]? = some (.cells cur' 3 (0, 0)) ∧ cur'.size = c ∧ cur'.toList.take (i + 1) = R) ∧ w.grownBy ((w.setRow g L1.toArray).setCells g (i + 1) ZC) (some g) from by
    obtain ⟨cur', h1, h2, h3⟩ := setCells_blk hg1 ZC (i + 1)
    exact ⟨⟨cur', h1, by rw [h2]; simpa using hL1l, by rw [h3 _ (Nat.le_refl _), ← hL1, ← hR, ← hta]; simp only [List.toList_toArray]; exact List.take_left' (by simp only [List.length_append, List.length_take]; omega)⟩, grown_tr (grown_setRow _ _ _) (grown_setCells _ _ _ _)⟩)
  have htn : ((i : Int) + 1).toNat = i + 1 := by omega
  have htn2 : ((i : Int) + 2).toNat = i + 2 := by omega
  have hb0 : (0 : Int) ≤ (i : Int) + 2 := by omega
  have hb1 : (i : Int) ≤ (i : Int) + 2 := by omega
  have hb2 : (i : Int) + 1 ≤ (i : Int) + 2 := by omega
  have hb4 : ¬ (c = i) := by omega
  have hb5 : ¬ (c = i + 1) := by omega
  have hb7 : (0 : Int) ≤ (i : Int) + 1 := by omega
  have hz3 : (i : Int) + 1 < (i : Int) + 2 := by omega
  clear hL1 hta hTl hR htk hX hV h1V hk hcs hi0 hz0 hzs hzb hZC hg1 hL1l
  go_enter Try.func60, Try.ntmps60
  go_wp2_with (at_builtin; refine Lib.wpList_append_run _ rfl _ _ _ _ rfl _ _ rfl rfl _ _ (hap _) ?_)
  go_ret
  exact ⟨rfl, HR.out⟩

theorem own_mk_I {w : World} {base n g cap : Nat} {cur : Array Value} {F : List Int} (hlen : (nums .i64 F).length = n) (hg0 : base ≤ g) (hk : w.heap[g]? = some (.cells cur 3 (0, 0))) (hnc : n ≤ cap) (hcm : cap ≤ maxLen) (hcs : cur.size = cap) (htk : cur.toList.take n = nums .i64 F) : FO w base 3 1 (.slice (some ⟨g, 0, none⟩) n cap) n F :=
  ⟨⟨by first | exact hlen | (rw [Nat.mul_one]; exact hlen), .inr ⟨g, cap, cur, rfl, hg0, hk, hnc, hcm, by first | exact hcs | (rw [Nat.mul_one]; exact hcs), by first | exact htk | (rw [Nat.mul_one]; exact htk)⟩⟩⟩
theorem rep2_I (base n i gv : Nat) (v : Value) (F V : List Int) (w : World) (h : FO w base 3 1 v n F) (hb : base ≤ w.heap.size) (hi : i < n) (hn : n ≤ 1000000)
    (hv : w.heap[gv]? = some (.cells (nums .i64 V).toArray 3 (0, 0))) (hV : V.length = 2) (hne : v.ownBlock ≠ some gv) :
    Calls Try.prog 60 #[v, .int .i64 i, .int .i64 ((i : Int) + 1), .slice (some ⟨gv, 0, none⟩) 2 2] w fun r w' => ∃ v', r = .returned v' ∧ FO w' base 3 1 v' (n + 1) (F.take i ++ V ++ F.drop (i + 1)) ∧ w.grownBy w' v.ownBlock ∧ (v'.ownBlock = v.ownBlock ∨ ∃ b, v'.ownBlock = some b ∧ w.heap.size ≤ b) := by
  have hX := h.out.1
  have hFl := FO.len h
  have hVn : (nums .i64 V).length = 2 := by rw [nums_length, hV]
  have hcells : nums .i64 (F.take i ++ V ++ F.drop (i + 1)) = (nums .i64 F).take i ++ nums .i64 V ++ (nums .i64 F).drop (i + 1) := by
    rw [nums_append, nums_append]
    simp only [nums, List.map_take, List.map_drop]
  have hlen : (nums .i64 (F.take i ++ V ++ F.drop (i + 1))).length = (n + 1) := by
    rw [nums_length]
    simp only [List.length_append, List.length_take, List.length_drop]
    omega
  rcases h.out.2 with ⟨rfl, h0⟩ | ⟨g, cap, cur, rfl, hg0, hk, hnc, hcm, hcs, htk⟩
  · omega
  · have hc63 : cap ≤ 9223372036854775807 := by unfold maxLen at hcm; omega
    have hne' : gv ≠ g := fun e => hne (by rw [e]; rfl)
    rw [Nat.mul_one] at *
    rcases Nat.lt_or_ge (i + 1) n with hmid | hend
    · by_cases hroom : n + 1 ≤ cap
      · refine (rep2shift_I g n cap i gv _ _ cur w hk hcs htk hX hmid hroom hc63 hv hVn hne' (numsK_one F) (numsK_one V)).mono ?_
        rintro r w' ⟨rfl, ⟨cur', hk', hcs', htk'⟩, hG⟩
        exact ⟨_, rfl, own_mk_I hlen hg0 hk' (hroom) hcm hcs' (by rw [hcells]; exact htk'), hG, .inl rfl⟩
      · obtain rfl : cap = n := by omega
        refine (rep2grow_I g cap i gv _ _ cur w hk hcs htk hX hmid hn hv hVn (numsK_one F) (numsK_one V)).mono ?_
        rintro r w' ⟨G, rfl, h1, h2, ⟨cur', hk', hcs', htk'⟩, b⟩
        exact ⟨_, rfl, own_mk_I hlen hb hk' h1 (by unfold maxLen; omega) hcs' (by rw [hcells]; exact htk'), grown_of_below b.out _, .inr ⟨_, rfl, Nat.le_refl _⟩⟩
    · obtain rfl : n = i + 1 := by omega
      have hdrop : (nums .i64 F).drop (i + 1) = [] := List.drop_of_length_le (by omega)
      rw [hdrop, List.append_nil] at hcells
      by_cases hroom : i + 2 ≤ cap
      · refine (rep2room_I g cap i gv _ _ cur w hk hcs htk hX hroom (by omega) hc63 hv hVn (numsK_one V)).mono ?_
        rintro r w' ⟨rfl, ⟨cur', hk', hcs', htk'⟩, hG⟩
        exact ⟨_, rfl, own_mk_I hlen hg0 hk' (hroom) hcm hcs' (by rw [hcells]; exact htk'), hG, .inl rfl⟩
      · obtain rfl : cap = i + 1 := by omega
        refine (rep2last_I g i gv _ _ cur w hk hcs htk hX (by omega) hv hVn).mono ?_
        rintro r w' ⟨G, rfl, h1, h2, ⟨cur', hk', hcs', htk'⟩, b⟩
        exact ⟨_, rfl, own_mk_I hlen hb hk' h1 (by unfold maxLen; omega) hcs' (by rw [hcells]; exact htk'), grown_of_below b.out _, .inr ⟨_, rfl, Nat.le_refl _⟩⟩
theorem rep1_I (base n i gv : Nat) (v : Value) (F V : List Int) (w : World) (h : FO w base 3 1 v n F) (hi : i + 1 < n) (hn : n ≤ 1000000)
    (hv : w.heap[gv]? = some (.cells (nums .i64 V).toArray 3 (0, 0))) (hV : V.length = 1) (hne : v.ownBlock ≠ some gv) :
    Calls Try.prog 60 #[v, .int .i64 i, .int .i64 ((i : Int) + 2), .slice (some ⟨gv, 0, none⟩) 1 1] w fun r w' => ∃ v', r = .returned v' ∧ FO w' base 3 1 v' (n - 1) (F.take i ++ V ++ F.drop (i + 2)) ∧ w.grownBy w' v.ownBlock ∧ v'.ownBlock = v.ownBlock := by
  have hX := h.out.1
  have hFl := FO.len h
  have hVn : (nums .i64 V).length = 1 := by rw [nums_length, hV]
  have hcells : nums .i64 (F.take i ++ V ++ F.drop (i + 2)) = (nums .i64 F).take i ++ nums .i64 V ++ (nums .i64 F).drop (i + 2) := by
    rw [nums_append, nums_append]
    simp only [nums, List.map_take, List.map_drop]
  have hlen : (nums .i64 (F.take i ++ V ++ F.drop (i + 2))).length = (n - 1) := by
    rw [nums_length]
    simp only [List.length_append, List.length_take, List.length_drop]
    omega
  rcases h.out.2 with ⟨rfl, h0⟩ | ⟨g, cap, cur, rfl, hg0, hk, hnc, hcm, hcs, htk⟩
  · omega
  · have hc63 : cap ≤ 9223372036854775807 := by unfold maxLen at hcm; omega
    have hne' : gv ≠ g := fun e => hne (by rw [e]; rfl)
    rw [Nat.mul_one] at *
    rcases Nat.lt_or_ge (i + 2) n with hmid | hend
    · obtain ⟨N, rfl⟩ : ∃ N, n = N + 1 := ⟨n - 1, by omega⟩
      refine (rep1mid_I g N cap i gv _ _ cur w hk hcs htk hX (by omega) hnc (by omega) hc63 hv hVn hne' (numsK_one F) (numsK_one V)).mono ?_
      rintro r w' ⟨rfl, ⟨cur', hk', hcs', htk'⟩, hG⟩
      exact ⟨_, rfl, own_mk_I hlen hg0 hk' (by omega) hcm hcs' (by rw [hcells]; exact htk'), hG, rfl⟩
    · obtain rfl : n = i + 2 := by omega
      have hdrop : (nums .i64 F).drop (i + 2) = [] := List.drop_of_length_le (by omega)
      rw [hdrop, List.append_nil] at hcells
      refine (rep1end_I g cap i gv _ _ cur w hk hcs htk hX hnc (by omega) hc63 hv hVn (numsK_one V)).mono ?_
      rintro r w' ⟨rfl, ⟨cur', hk', hcs', htk'⟩, hG⟩
      exact ⟨_, rfl, own_mk_I hlen hg0 hk' (by omega) hcm hcs' (by rw [hcells]; exact htk'), hG, rfl⟩

theorem run_sizeOf_D : ∀ w, (Go.sizeOf 58).run Try.prog w = .ok 3 w := fun w => by
  obtain ⟨i, hi, hz0, hz1, hz2⟩ := info_parts info_id
  simp [sizeOf, typeInfo, hi, hz1]
theorem ovl_D (g n o gv : Nat) (cur cu2 : Array Value) (w : World) (hk : w.heap[g]? = some (.cells cur 58 (0, 0))) (hcs : cur.size = (n * 3)) (hv : w.heap[gv]? = some (.cells cu2 58 (0, 0))) (m : Nat) (hm : 0 < m) (hv2 : cu2.size = (m * 3)) (hne : gv ≠ g) (la ca lb cb : Nat) :
    (callFunc 102 #[.slice (some ⟨g, o, none⟩) la ca, .slice (some ⟨gv, 0, none⟩) lb cb]).run Try.prog w = .ok (.value (.bool false)) w := by
  rw [run_callFunc_extern Try.func102 (by kernel_rfl) (by kernel_rfl) (by kernel_rfl) (e := Extern.SlicesOverlaps.overlaps #[24, 24] #[4]) (by kernel_rfl),
    Lib.run_overlaps_apart w 24 4 58 Try.underlying24 3 run_sizeOf_D ⟨g, o, none⟩ ⟨gv, 0, none⟩ la ca lb cb (fun h => hne h.symm) 58 58 (n * 3) (m * 3) (by simp [World.shape?, hk, hcs]) (by simp [World.shape?, hv, hv2]) (by omega) (by simp [World.frozen?, hk]) (by simp [World.frozen?, hk])]
  rfl
set_option maxHeartbeats 4000000 in
set_option maxRecDepth 100000 in
theorem rep2shift_D (g n c i gv : Nat) (X V : List Value) (cur : Array Value) (w : World) (hk : w.heap[g]? = some (.cells cur 58 (0, 0))) (hcs : cur.size = (c * 3)) (htk : cur.toList.take (n * 3) = X) (hX : X.length = (n * 3)) (hi : i + 1 < n) (hroom : n + 1 ≤ c) (hc63 : c ≤ 9223372036854775807)
    (hv : w.heap[gv]? = some (.cells V.toArray 58 (0, 0))) (hV : V.length = 6) (hne : gv ≠ g) (h1X : ∀ u ∈ X, u.oneCell' = true) (h1V : ∀ u ∈ V, u.oneCell' = true) :
    Calls Try.prog 84 #[.slice (some ⟨g, 0, none⟩) n c, .int .i64 i, .int .i64 ((i : Int) + 1), .slice (some ⟨gv, 0, none⟩) 2 2] w fun r w' => r = .returned (.slice (some ⟨g, 0, none⟩) (n + 1) c) ∧ (∃ cur', w'.heap[g]? = some (.cells cur' 58 (0, 0)) ∧ cur'.size = (c * 3) ∧ cur'.toList.take ((n + 1) * 3) = X.take (i * 3) ++ V ++ X.drop ((i + 1) * 3)) ∧ w.grownBy w' (some g) := by
  obtain ⟨B, hB⟩ : ∃ B, X.drop ((i + 1) * 3) = B := ⟨_, rfl⟩
  rw [hB]
  have hBl : B.length = ((n - (i + 1)) * 3) := by rw [← hB, List.length_drop]; omega
  have h1B : ∀ u ∈ B, u.oneCell' = true := fun u hu => h1X u (List.mem_of_mem_drop (by rw [hB]; exact hu))
  have hTl : cur.toList.length = (c * 3) := by simpa using hcs
  have hmv := two_moves (T := cur.toList) (V := V) (B := B) (a := (i * 3)) (p := ((i + 2) * 3)) (r := ((n + 1) * 3)) (tot := 0) (by omega) (by omega) (by omega)
  rw [hV, hTl] at hmv
  have hta := take_sub htk (k := (i * 3)) (by omega)
  obtain ⟨L1, hL1⟩ : ∃ L1, cur.toList.take ((i + 2) * 3) ++ B ++ cur.toList.drop (((i + 2) * 3) + B.length) = L1 := ⟨_, rfl⟩
  rw [hL1] at hmv
  obtain ⟨L2, hL2⟩ : ∃ L2, L1.take (i * 3) ++ V ++ L1.drop ((i * 3) + 6) = L2 := ⟨_, rfl⟩
  rw [hL2, hta] at hmv
  obtain ⟨hn1, hn2, hn3⟩ := hmv
  have hsz : (Try.prog.info? 58).map (·.size) = some 3 := by kernel_rfl
  have hcp1 : ∀ (W : World), W.heap = w.heap → ∀ ty dc sc, (Builtin.copy_ #[24, 24] ty #[.slice (some ⟨g, ((i + 2) * 3), none⟩) (n - (i + 1)) dc, .slice (some ⟨g, ((i + 1) * 3), none⟩) (n - (i + 1)) sc]).run Try.prog W = .ok (goInt (n - (i + 1) : Nat)) (W.setRow g L1.toArray) := fun W hW ty dc sc => by
    rw [← hL1]
    exact run_copy_rowK W 24 24 ty 58 3 g ((i + 2) * 3) _ dc ⟨g, ((i + 1) * 3), none⟩ _ sc cur 58 B Try.underlying24 hsz (by rw [hW]; exact hk) (n - (i + 1)) (by simp only [Nat.min_def]; split <;> omega) (by omega)
      (fun j u hj => by
        have hjl := (List.getElem?_eq_some_iff.1 hj).1
        rw [add_off ⟨g, ((i + 1) * 3), none⟩ g ((i + 1) * 3) j rfl]
        show W.cell? ⟨g, ((i + 1) * 3) + j, none⟩ = _
        have h := at_sub htk (k := ((i + 1) * 3) + j) (by omega)
        rw [← hB, List.getElem?_drop] at hj
        rw [hj] at h
        simp only [World.cell?, hW, hk]
        simpa using h) (by omega) h1B
  have hcp2 : ∀ (W : World), W.heap = w.heap → ∀ ty dc, (Builtin.copy_ #[24, 24] ty #[.slice (some ⟨g, (i * 3), none⟩) (n + 1 - i) dc, .slice (some ⟨gv, 0, none⟩) 2 2]).run Try.prog (W.setRow g L1.toArray) = .ok (goInt (2 : Nat)) ((W.setRow g L1.toArray).setRow g L2.toArray) := fun W hW ty dc => by
    have hg1 : (W.setRow g L1.toArray).heap[g]? = some (.cells L1.toArray 58 (0, 0)) := setRow_heap W g cur _ _ _ (by rw [hW]; exact hk)
    have hv1 : (W.setRow g L1.toArray).heap[gv]? = some (.cells V.toArray 58 (0, 0)) := ((grown_setRow W g L1.toArray).block gv (by rw [hW]; exact blk_lt hv) (fun e => hne (Option.some.inj e))).trans (by rw [hW]; exact hv)
    have e := run_copy_rowK (W.setRow g L1.toArray) 24 24 ty 58 3 g (i * 3) (n + 1 - i) dc ⟨gv, 0, none⟩ 2 2 L1.toArray 58 V Try.underlying24 hsz hg1 2 (by simp only [Nat.min_def]; split <;> omega) hV
      (fun j u hj => by
        rw [add_off ⟨gv, 0, none⟩ gv 0 j rfl]
        show (W.setRow g L1.toArray).cell? ⟨gv, 0 + j, none⟩ = _
        simp only [World.cell?, hv1]
        simpa using hj) (by simp; omega) h1V
    rw [hV, hL2] at e
    exact e
  have hov : ∀ W : World, W.heap = w.heap → ∀ la ca, (callFunc 102 #[.slice (some ⟨g, ((i + 2) * 3), none⟩) la ca, .slice (some ⟨gv, 0, none⟩) 2 2]).run Try.prog W = .ok (.value (.bool false)) W := fun W hW la ca =>
    ovl_D g c ((i + 2) * 3) gv cur V.toArray W (by rw [hW]; exact hk) hcs (by rw [hW]; exact hv) 2 (by omega) (by simpa using hV) hne la ca 2 2
  have hw1 : IntKind.i64.wrap ((i : Int) + 1) = (i : Int) + 1 := i64w (by omega) (by omega)
  have hw2 : IntKind.i64.wrap ((i : Int) + 2) = (i : Int) + 2 := i64w (by clear hw1; omega) (by clear hw1; omega)
  have hw4 : IntKind.i64.wrap ((i : Int) + 2 + ((n - (i + 1) : Nat) : Int)) = ((n + 1 : Nat) : Int) := by rw [i64w (by clear hw1 hw2; omega) (by clear hw1 hw2; omega)]; clear hw1 hw2; omega
  have HR := hid (show ∀ W : World, Bw w W → W.heap = w.heap → (∃ cur', ((W.setRow g L1.toArray).setRow g L2.toArray).heap[g]? = some (.cells cur' 58 (0, 0)) ∧ cur'.size = (c * 3) ∧ cur'.toList.take ((n + 1) * 3) = X.take (i * 3) ++ V ++ B) ∧ w.grownBy ((W.setRow g L1.toArray).setRow g L2.toArray) (some g) from fun W bW hW => ⟨⟨_, setRow_heap _ g _ _ _ _ (setRow_heap W g cur _ _ _ (by rw [hW]; exact hk)), by simpa using hn2, by simpa using hn3⟩, grown_tr (grown_tr (grown_of_below bW.out _) (grown_setRow _ _ _)) (grown_setRow _ _ _)⟩)
  have mixed : Try.prog.follows .mixedOrders = true := by kernel_rfl
  clear hn1 hn2 hn3 hL1 hL2 htk hX hBl hTl hB h1X h1B h1V hV hta
  have htn : ((i : Int) + 1).toNat = i + 1 := by clear hw1 hw2 hw4; omega
  have htn2 : ((i : Int) + 2).toNat = i + 2 := by clear hw1 hw2 hw4; omega
  have hz1 : ¬ ((i : Int) + 1 = (n : Int)) := by clear hw1 hw2 hw4; omega
  have hb0 : (0 : Int) ≤ (i : Int) + 1 := by clear hw1 hw2 hw4; omega
  have hb1 : (i : Int) ≤ (n : Int) := by clear hw1 hw2 hw4; omega
  have hb2 : (i : Int) + 1 ≤ (n : Int) := by clear hw1 hw2 hw4; omega
  have hb7 : (i : Int) + 2 ≤ (n : Int) + 1 := by clear hw1 hw2 hw4; omega
  have hb8 : (0 : Int) ≤ (i : Int) + 2 := by clear hw1 hw2 hw4; omega
  have hb9 : (i : Int) ≤ (n : Int) + 1 := by clear hw1 hw2 hw4; omega
  have hb4 : ¬ (c = i) := by clear hw1 hw2 hw4; omega
  have hb5 : ¬ (c = i + 1) := by clear hw1 hw2 hw4; omega
  have hb6 : ¬ (c = i + 2) := by clear hw1 hw2 hw4; omega
  go_enter Try.func84, Try.ntmps84
  go_upto_region 9 with fail
  go_quiet (fail)
  generalize hWq : w.drewN nq = Wq
  have bq : Bw w Wq := by rw [← hWq]; exact Bw.drawn ⟨⟨nq, rfl⟩⟩
  have eq : Wq.heap = w.heap := by rw [← hWq]; rfl
  have hov1 := hov Wq eq
  have hcpq := hcp1 Wq.drew eq
  have hcpr := hcp2 Wq.drew eq
  have hRq := HR.out Wq.drew (bq.trans (Bw.drawn ⟨⟨1, rfl⟩⟩)) eq
  have HRq := hid hRq
  clear hRq HR hWq bq hcp1 hcp2 hov
  go_upto_region 21 with fail
  go_wp2_with (simp only [hov1])
  go_region_law_o (refine step_copy_runI rfl _ _ 24 24 rfl _ _ (by simp [Act.eval, Act.put]) (by simp [Act.eval, Act.put]) (hcpq _ _ _) ?_)
  go_wp2_with (at_builtin; refine wpList_copy_runI _ rfl _ _ 24 24 rfl _ _ rfl rfl (hcpr _ _) ?_)
  go_ret
  exact ⟨rfl, HRq.out⟩

set_option maxHeartbeats 4000000 in
set_option maxRecDepth 100000 in
theorem rep2grow_D (g n i gv : Nat) (X V : List Value) (cur : Array Value) (w : World) (hk : w.heap[g]? = some (.cells cur 58 (0, 0))) (hcs : cur.size = (n * 3)) (htk : cur.toList.take (n * 3) = X) (hX : X.length = (n * 3)) (hi : i + 1 < n) (hn : n ≤ 1000000)
    (hv : w.heap[gv]? = some (.cells V.toArray 58 (0, 0))) (hV : V.length = 6) (h1X : ∀ u ∈ X, u.oneCell' = true) (h1V : ∀ u ∈ V, u.oneCell' = true) :
    Calls Try.prog 84 #[.slice (some ⟨g, 0, none⟩) n n, .int .i64 i, .int .i64 ((i : Int) + 1), .slice (some ⟨gv, 0, none⟩) 2 2] w fun r w' => ∃ G, r = .returned (.slice (some ⟨w.heap.size, 0, none⟩) (n + 1) G) ∧ n + 1 ≤ G ∧ G ≤ 9223372036854775807 ∧ (∃ cur', w'.heap[w.heap.size]? = some (.cells cur' 58 (0, 0)) ∧ cur'.size = (G * 3) ∧ cur'.toList.take ((n + 1) * 3) = X.take (i * 3) ++ V ++ X.drop ((i + 1) * 3)) ∧ Bw w w' := by
  obtain ⟨B, hB⟩ : ∃ B, X.drop ((i + 1) * 3) = B := ⟨_, rfl⟩
  rw [hB]
  have hBl : B.length = ((n - (i + 1)) * 3) := by rw [← hB, List.length_drop]; omega
  have h1B : ∀ u ∈ B, u.oneCell' = true := fun u hu => h1X u (List.mem_of_mem_drop (by rw [hB]; exact hu))
  have hTl : cur.toList.length = (n * 3) := by simpa using hcs
  have hAl : (X.take (i * 3)).length = (i * 3) := by rw [List.length_take]; omega
  have hsz : (Try.prog.info? 58).map (·.size) = some 3 := by kernel_rfl
  obtain ⟨i0, hi0, hz0, hzs, hzb⟩ := info_parts info_id
  have hgw : g < w.heap.size := blk_lt hk
  have hvw : gv < w.heap.size := blk_lt hv
  have HA := hid (And.intro hB (And.intro hBl (And.intro h1B (And.intro hTl (And.intro hAl (And.intro htk (And.intro hX (And.intro hV h1V))))))))
  clear hB hBl h1B hTl hAl htk hX hV h1V h1X
  have HX := hid (And.intro hsz (And.intro hi0 (And.intro hz0 (And.intro hzs (And.intro hzb (And.intro hcs (And.intro hk hv)))))))
  clear hsz hi0 hz0 hzs hzb hcs hk hv
  have hw1 : IntKind.i64.wrap ((i : Int) + 1) = (i : Int) + 1 := i64w (by omega) (by omega)
  have hw2 : IntKind.i64.wrap ((i : Int) + 2) = (i : Int) + 2 := i64w (by clear hw1; omega) (by clear hw1; omega)
  have hw4 : IntKind.i64.wrap ((i : Int) + 2 + ((n - (i + 1) : Nat) : Int)) = ((n + 1 : Nat) : Int) := by rw [i64w (by clear hw1 hw2; omega) (by clear hw1 hw2; omega)]; clear hw1 hw2; omega
  have hw3 : IntKind.i64.wrap ((n : Int) + 1 - (i : Int)) = (n : Int) + 1 - (i : Int) := i64w (by clear hw1 hw2 hw4; omega) (by clear hw1 hw2 hw4; omega)
  have htn : ((i : Int) + 1).toNat = i + 1 := by clear hw1 hw2 hw3 hw4; omega
  have htn2 : ((i : Int) + 2).toNat = i + 2 := by clear hw1 hw2 hw3 hw4; omega
  have hz1 : ¬ ((i : Int) + 1 = (n : Int)) := by clear hw1 hw2 hw3 hw4; omega
  have hz3 : (n : Int) < (n : Int) + 1 := by clear hw1 hw2 hw3 hw4; omega
  have hb0 : (0 : Int) ≤ (i : Int) + 1 := by clear hw1 hw2 hw3 hw4; omega
  have hb1 : (i : Int) ≤ (n : Int) := by clear hw1 hw2 hw3 hw4; omega
  have hb2 : (i : Int) + 1 ≤ (n : Int) := by clear hw1 hw2 hw3 hw4; omega
  have hb7 : (i : Int) + 2 ≤ (n : Int) + 1 := by clear hw1 hw2 hw3 hw4; omega
  have hb8 : (0 : Int) ≤ (i : Int) + 2 := by clear hw1 hw2 hw3 hw4; omega
  have hb9 : (i : Int) ≤ (n : Int) + 1 := by clear hw1 hw2 hw3 hw4; omega
  have hb4 : ¬ (n = i) := by clear hw1 hw2 hw3 hw4; omega
  have hb5 : ¬ (n = i + 1) := by clear hw1 hw2 hw3 hw4; omega
  have mixed : Try.prog.follows .mixedOrders = true := by kernel_rfl
  go_enter Try.func84, Try.ntmps84
  go_upto_region 9 with fail
  go_quiet (fail)
  generalize hWq : w.drewN nq = Wq
  have bq : Bw w Wq := by rw [← hWq]; exact Bw.drawn ⟨⟨nq, rfl⟩⟩
  have eq : Wq.heap = w.heap := by rw [← hWq]; rfl
  clear hWq
  obtain ⟨hsz, hi0, hz0, hzs, hzb, hcs, hk, hv⟩ := HX.out
  obtain ⟨hB, hBl, h1B, hTl, hAl, htk, hX, hV, h1V⟩ := HA.out
  rw [← eq] at hk hv hgw hvw
  have HWS := hid (congrArg Array.size eq)
  clear eq
  have hold : (Builtin.firstCells i0.size i (.slice (some ⟨g, 0, none⟩) i n)).run Try.prog Wq.drew = .ok (X.take (i * 3)).toArray Wq.drew := by
    rw [hzs]
    exact run_firstCells_some Wq.drew 3 i ⟨g, 0, none⟩ i n (X.take (i * 3)) (by clear hw1 hw2 hw3 hw4; omega) (fun j u hj => by
      have hjl := (List.getElem?_eq_some_iff.1 hj).1
      rw [add_off ⟨g, 0, none⟩ g 0 j rfl]
      show Wq.cell? ⟨g, 0 + j, none⟩ = _
      simp only [World.cell?, hk]
      have h := at_sub htk (k := j) (by clear hw1 hw2 hw3 hw4; omega)
      rw [List.getElem?_take, if_pos (by clear hw1 hw2 hw3 hw4; omega)] at hj
      rw [hj] at h
      simpa using h)
  have hkk : (n : Int) + 1 - (i : Int) = ((n + 1 - i : Nat) : Int) := by clear hw1 hw2 hw3 hw4; omega
  have hik : i + (n + 1 - i) = n + 1 := by clear hw1 hw2 hw3 hw4; omega
  have hrz : ∀ ty, (Builtin.append_ #[24, 3] ty #[.slice (some ⟨g, 0, none⟩) i n, .int .i64 ((n : Int) + 1 - (i : Int))]).run Try.prog Wq =
      .ok (.slice (some ⟨Wq.heap.size, 0, none⟩) (n + 1) (grownCap Wq (n + 1) n 58)) (Wq.drew.alloc (.cells ((X.take (i * 3)).toArray ++ Builtin.zeroCells (Value.agg #[.int .i64 0, .int .i64 0, .int .i64 0]).cells (n + 1 - i) ++ Builtin.zeroCells (Value.agg #[.int .i64 0, .int .i64 0, .int .i64 0]).cells (grownCap Wq (n + 1) n 58 - (n + 1))) 58)) := fun ty => by
    clear hw1 hw2 hw3 hw4
    have h := Lib.run_append_grow_zeros Wq 24 3 ty 58 i0 _ .i64 .i64 Try.underlying24 Try.underlying3 hi0 hz0 (some ⟨g, 0, none⟩) i n (X.take (i * 3)) hold (n + 1 - i) (by omega) (by omega) (by omega) (by omega) (by rw [hzb]; omega) (by rw [hzb, hik]; exact growslice_fits (by omega) (by omega))
    rw [hik] at h
    rw [hkk]
    exact h
  obtain ⟨G, hG⟩ : ∃ G, G = grownCap Wq (n + 1) n 58 := ⟨_, rfl⟩
  have hGn : n + 1 ≤ G := by rw [hG]; exact grownCap_ge Wq _ _ _
  have hG63 : G ≤ 9223372036854775807 := by
    clear hw1 hw2 hw3 hw4
    have := grownCap_le_maxLen Wq (n + 1) n 58 (by unfold maxLen; omega)
    rw [← hG] at this
    unfold maxLen at this
    omega
  obtain ⟨ROW, hROW⟩ : ∃ ROW : Array Value, ROW = (X.take (i * 3)).toArray ++ Builtin.zeroCells (Value.agg #[.int .i64 0, .int .i64 0, .int .i64 0]).cells (n + 1 - i) ++ Builtin.zeroCells (Value.agg #[.int .i64 0, .int .i64 0, .int .i64 0]).cells (G - (n + 1)) := ⟨_, rfl⟩
  rw [← hG] at hrz
  rw [← hROW] at hrz
  have hRs : ROW.toList.length = (G * 3) := by
    rw [hROW]
    simp [Builtin.zeroCells, Value.cells]
    clear hw1 hw2 hw3 hw4
    omega
  have hRt : ROW.toList.take (i * 3) = X.take (i * 3) := by
    rw [hROW]
    simp only [Array.toList_append, List.toList_toArray, List.append_assoc]
    exact List.take_left' hAl
  have hmv := two_moves' (T := ROW.toList) (V := V) (B := B) (a := (i * 3)) (p := ((i + 2) * 3)) (r := ((n + 1) * 3)) (by clear hw1 hw2 hw3 hw4; omega) (by clear hw1 hw2 hw3 hw4; omega) (by clear hw1 hw2 hw3 hw4; omega)
  rw [hV, hRs] at hmv
  obtain ⟨L1, hL1⟩ : ∃ L1, ROW.toList.take (i * 3) ++ V ++ ROW.toList.drop ((i * 3) + 6) = L1 := ⟨_, rfl⟩
  rw [hL1] at hmv
  obtain ⟨L2, hL2⟩ : ∃ L2, L1.take ((i + 2) * 3) ++ B ++ L1.drop (((i + 2) * 3) + B.length) = L2 := ⟨_, rfl⟩
  rw [hL2, hRt] at hmv
  obtain ⟨hn1, hn2, hn3⟩ := hmv
  obtain ⟨W1, hW1⟩ : ∃ W1, W1 = Wq.drew.alloc (.cells ROW 58) := ⟨_, rfl⟩
  rw [← hW1] at hrz
  have hN1 : W1.heap[Wq.heap.size]? = some (.cells ROW 58 (0, 0)) := by rw [hW1]; exact heap_alloc_new Wq.drew (.cells ROW 58 (0, 0))
  have hB1 : Bw Wq W1 := by rw [hW1]; exact (Bw.drawn ⟨⟨1, rfl⟩⟩).trans (Bw.box1 Wq.drew (.cells ROW 58))
  have hg1 : W1.heap[g]? = some (.cells cur 58 (0, 0)) := (hB1.out.block _ hgw).trans hk
  have hv1 : W1.heap[gv]? = some (.cells V.toArray 58 (0, 0)) := (hB1.out.block _ hvw).trans hv
  have hcpA : ∀ (W : World), W.heap = W1.heap → ∀ ty dc, (Builtin.copy_ #[24, 24] ty #[.slice (some ⟨Wq.heap.size, (i * 3), none⟩) (n + 1 - i) dc, .slice (some ⟨gv, 0, none⟩) 2 2]).run Try.prog W = .ok (goInt (2 : Nat)) (W.setRow Wq.heap.size L1.toArray) := fun W hW ty dc => by
    have e := run_copy_rowK W 24 24 ty 58 3 Wq.heap.size (i * 3) (n + 1 - i) dc ⟨gv, 0, none⟩ 2 2 ROW 58 V Try.underlying24 hsz (by rw [hW]; exact hN1) 2 (by clear hw1 hw2 hw3 hw4; simp only [Nat.min_def]; split <;> omega) hV
      (fun j u hj => by
        rw [add_off ⟨gv, 0, none⟩ gv 0 j rfl]
        show W.cell? ⟨gv, 0 + j, none⟩ = _
        simp only [World.cell?, hW, hv1]
        simpa using hj) (by clear hw1 hw2 hw3 hw4; have : ROW.size = (G * 3) := by simpa using hRs
                            omega) h1V
    rw [hV, hL1] at e
    exact e
  have hN2 : (W1.setRow Wq.heap.size L1.toArray).heap[Wq.heap.size]? = some (.cells L1.toArray 58 (0, 0)) := setRow_heap W1 _ _ _ _ _ hN1
  have hg2 : (W1.setRow Wq.heap.size L1.toArray).heap[g]? = some (.cells cur 58 (0, 0)) := ((grown_setRow W1 Wq.heap.size L1.toArray).block g (blk_lt hg1) (fun e => by have := Option.some.inj e; clear hw1 hw2 hw3 hw4; omega)).trans hg1
  have hcpB : ∀ (W : World), W.heap = (W1.setRow Wq.heap.size L1.toArray).heap → ∀ ty dc sc, (Builtin.copy_ #[24, 24] ty #[.slice (some ⟨Wq.heap.size, ((i + 2) * 3), none⟩) (n - (i + 1)) dc, .slice (some ⟨g, ((i + 1) * 3), none⟩) (n - (i + 1)) sc]).run Try.prog W = .ok (goInt (n - (i + 1) : Nat)) (W.setRow Wq.heap.size L2.toArray) := fun W hW ty dc sc => by
    rw [← hL2]
    exact run_copy_rowK W 24 24 ty 58 3 Wq.heap.size ((i + 2) * 3) (n - (i + 1)) dc ⟨g, ((i + 1) * 3), none⟩ _ sc L1.toArray 58 B Try.underlying24 hsz (by rw [hW]; exact hN2) (n - (i + 1)) (by clear hw1 hw2 hw3 hw4; simp only [Nat.min_def]; split <;> omega) (by clear hw1 hw2 hw3 hw4; omega)
      (fun j u hj => by
        have hjl := (List.getElem?_eq_some_iff.1 hj).1
        rw [add_off ⟨g, ((i + 1) * 3), none⟩ g ((i + 1) * 3) j rfl]
        show W.cell? ⟨g, ((i + 1) * 3) + j, none⟩ = _
        have h := at_sub htk (k := ((i + 1) * 3) + j) (by clear hw1 hw2 hw3 hw4; omega)
        rw [← hB, List.getElem?_drop] at hj
        rw [hj] at h
        simp only [World.cell?, hW, hg2]
        simpa using h) (by clear hw1 hw2 hw3 hw4; simp; omega) h1B
  have HR := hid (show n + 1 ≤ G ∧ G ≤ 9223372036854775807 ∧ (∃ cur', ((W1.setRow Wq.heap.size L1.toArray).drew.setRow Wq.heap.size L2.toArray).heap[Wq.heap.size]? = some (.cells cur' 58 (0, 0)) ∧ cur'.size = (G * 3) ∧ cur'.toList.take ((n + 1) * 3) = X.take (i * 3) ++ V ++ B) ∧ Bw w ((W1.setRow Wq.heap.size L1.toArray).drew.setRow Wq.heap.size L2.toArray) from
    ⟨hGn, hG63, ⟨_, setRow_heap _ _ _ _ _ _ hN2, by simpa using hn2, by simpa using hn3⟩, bq.trans (((hB1.new (Nat.le_refl _) (grown_setRow W1 Wq.heap.size L1.toArray)).trans (Bw.drawn ⟨⟨1, rfl⟩⟩)).new (Nat.le_refl _) (grown_setRow _ _ _))⟩)
  have HCA := hid hcpA
  have HCB := hid hcpB
  have hb6 : ¬ (G = i) := by clear hw1 hw2 hw3 hw4; omega
  have hb10 : ¬ (G = i + 2) := by clear hw1 hw2 hw3 hw4; omega
  clear hW1 hcpA hcpB hRs hRt hROW hG hn1 hn2 hn3 hL1 hL2 htk hX hAl hBl hB h1B h1V hV hTl hold hkk hik hN1 hN2 hg1 hg2 hv1 hB1 hsz hi0 hz0 hzs hzb hcs hk hv HA HX bq
  go_upto_region 12 with (at_builtin; refine Lib.wpList_append_run _ rfl _ _ _ _ rfl _ _ rfl rfl _ _ (hrz _) ?_)
  have hcA := HCA.out W1 rfl
  go_upto_region 13 with (at_builtin; refine wpList_copy_runI _ rfl _ _ 24 24 rfl _ _ rfl rfl (hcA _ _) ?_)
  have hcB := HCB.out (W1.setRow Wq.heap.size L1.toArray).drew rfl
  go_region_law_o (refine step_copy_runI rfl _ _ 24 24 rfl _ _ (by simp [Act.eval, Act.put]) (by simp [Act.eval, Act.put]) (hcB _ _ _) ?_)
  go_wp2
  go_ret
  exact ⟨_, by rw [← HWS.out]; rfl, by rw [← HWS.out]; exact HR.out⟩

set_option maxHeartbeats 4000000 in
set_option maxRecDepth 100000 in
theorem rep1mid_D (g N c i gv : Nat) (X V : List Value) (cur : Array Value) (w : World) (hk : w.heap[g]? = some (.cells cur 58 (0, 0))) (hcs : cur.size = (c * 3)) (htk : cur.toList.take ((N + 1) * 3) = X) (hX : X.length = ((N + 1) * 3)) (hi : i + 1 < N) (hnc : N + 1 ≤ c) (hn : N ≤ 1000000) (hc63 : c ≤ 9223372036854775807)
    (hv : w.heap[gv]? = some (.cells V.toArray 58 (0, 0))) (hV : V.length = 3) (hne : gv ≠ g) (h1X : ∀ u ∈ X, u.oneCell' = true) (h1V : ∀ u ∈ V, u.oneCell' = true) :
    Calls Try.prog 84 #[.slice (some ⟨g, 0, none⟩) (N + 1) c, .int .i64 i, .int .i64 ((i : Int) + 2), .slice (some ⟨gv, 0, none⟩) 1 1] w fun r w' => r = .returned (.slice (some ⟨g, 0, none⟩) N c) ∧ (∃ cur', w'.heap[g]? = some (.cells cur' 58 (0, 0)) ∧ cur'.size = (c * 3) ∧ cur'.toList.take (N * 3) = X.take (i * 3) ++ V ++ X.drop ((i + 2) * 3)) ∧ w.grownBy w' (some g) := by
  obtain ⟨B, hB⟩ : ∃ B, X.drop ((i + 2) * 3) = B := ⟨_, rfl⟩
  rw [hB]
  obtain ⟨R, hR⟩ : ∃ R, X.take (i * 3) ++ V ++ B = R := ⟨_, rfl⟩
  rw [hR]
  obtain ⟨ZC, hZC⟩ : ∃ ZC, (Builtin.zeroCells (Value.agg #[.int .i64 0, .int .i64 0, .int .i64 0]).cells 1).toList = ZC := ⟨_, rfl⟩
  have hBl : B.length = ((N - (i + 1)) * 3) := by rw [← hB, List.length_drop]; omega
  have h1B : ∀ u ∈ B, u.oneCell' = true := fun u hu => h1X u (List.mem_of_mem_drop (by rw [hB]; exact hu))
  have hTl : cur.toList.length = (c * 3) := by simpa using hcs
  have hmv := two_moves' (T := cur.toList) (V := V) (B := B) (a := (i * 3)) (p := ((i + 1) * 3)) (r := (N * 3)) (by omega) (by omega) (by omega)
  have hta := take_sub htk (k := (i * 3)) (by omega)
  rw [hV, hTl] at hmv
  obtain ⟨L1, hL1⟩ : ∃ L1, cur.toList.take (i * 3) ++ V ++ cur.toList.drop ((i * 3) + 3) = L1 := ⟨_, rfl⟩
  rw [hL1] at hmv
  obtain ⟨L2, hL2⟩ : ∃ L2, L1.take ((i + 1) * 3) ++ B ++ L1.drop (((i + 1) * 3) + B.length) = L2 := ⟨_, rfl⟩
  rw [hL2, hta] at hmv
  obtain ⟨hn1, hn2, hn3⟩ := hmv
  have hsz : (Try.prog.info? 58).map (·.size) = some 3 := by kernel_rfl
  have hcp1 : ∀ (W : World), W.heap = w.heap → ∀ ty dc, (Builtin.copy_ #[24, 24] ty #[.slice (some ⟨g, (i * 3), none⟩) (N - i) dc, .slice (some ⟨gv, 0, none⟩) 1 1]).run Try.prog W = .ok (goInt (1 : Nat)) (W.setRow g L1.toArray) := fun W hW ty dc => by
    have e := run_copy_rowK W 24 24 ty 58 3 g (i * 3) (N - i) dc ⟨gv, 0, none⟩ 1 1 cur 58 V Try.underlying24 hsz (by rw [hW]; exact hk) 1 (by simp only [Nat.min_def]; split <;> omega) hV
      (fun j u hj => by
        rw [add_off ⟨gv, 0, none⟩ gv 0 j rfl]
        show W.cell? ⟨gv, 0 + j, none⟩ = _
        simp only [World.cell?, hW, hv]
        simpa using hj) (by omega) h1V
    rw [hV, hL1] at e
    exact e
  have hat : ∀ j, j < ((N - (i + 1)) * 3) → L1[((i + 2) * 3) + j]? = B[j]? := fun j hj => by
    rw [← hL1, List.getElem?_append_right (by simp only [List.length_append, List.length_take]; omega), List.getElem?_drop, show (i * 3) + 3 + (((i + 2) * 3) + j - (cur.toList.take (i * 3) ++ V).length) = ((i + 2) * 3) + j by simp only [List.length_append, List.length_take]; omega, at_sub htk (by omega), ← hB, List.getElem?_drop]
  have hcp2 : ∀ (W : World), W.heap = w.heap → ∀ ty dc sc, (Builtin.copy_ #[24, 24] ty #[.slice (some ⟨g, ((i + 1) * 3), none⟩) (N - (i + 1)) dc, .slice (some ⟨g, ((i + 2) * 3), none⟩) (N - (i + 1)) sc]).run Try.prog (W.setRow g L1.toArray).drew = .ok (goInt (N - (i + 1) : Nat)) ((W.setRow g L1.toArray).drew.setRow g L2.toArray) := fun W hW ty dc sc => by
    have hg1 : (W.setRow g L1.toArray).drew.heap[g]? = some (.cells L1.toArray 58 (0, 0)) := setRow_heap W g cur _ _ _ (by rw [hW]; exact hk)
    rw [← hL2]
    exact run_copy_rowK (W.setRow g L1.toArray).drew 24 24 ty 58 3 g ((i + 1) * 3) (N - (i + 1)) dc ⟨g, ((i + 2) * 3), none⟩ _ sc L1.toArray 58 B Try.underlying24 hsz hg1 (N - (i + 1)) (by simp only [Nat.min_def]; split <;> omega) (by omega)
      (fun j u hj => by
        have hjl := (List.getElem?_eq_some_iff.1 hj).1
        rw [add_off ⟨g, ((i + 2) * 3), none⟩ g ((i + 2) * 3) j rfl]
        show (W.setRow g L1.toArray).drew.cell? ⟨g, ((i + 2) * 3) + j, none⟩ = _
        simp only [World.cell?, hg1]
        have h := hat j (by omega)
        rw [hj] at h
        simpa using h) (by simp; omega) h1B
  have hg2 : ∀ (W : World), W.heap = w.heap → ((W.setRow g L1.toArray).drew.setRow g L2.toArray).heap[g]? = some (.cells L2.toArray 58 (0, 0)) := fun W hW => setRow_heap _ g _ _ _ _ (setRow_heap W g cur _ _ _ (by rw [hW]; exact hk))
  have hcl : ∀ (W : World), W.heap = w.heap → ∀ ty dc, (Builtin.clear_ #[24] ty #[.slice (some ⟨g, (N * 3), none⟩) 1 dc]).run Try.prog ((W.setRow g L1.toArray).drew.setRow g L2.toArray) = .ok (.tuple #[]) (((W.setRow g L1.toArray).drew.setRow g L2.toArray).setCells g (N * 3) ZC) := fun W hW ty dc => by
    have h2 := hg2 W hW
    rw [← hZC]
    refine run_clear_row _ 24 58 ty (Value.agg #[.int .i64 0, .int .i64 0, .int .i64 0]) 3 Try.underlying24 (fun w => by rfl) rfl (by decide) g (N * 3) 1 dc (by omega) (fun t ht => ?_) (fun t ht => blk_frozen h2 _)
    rw [blk_cell h2]
    simp only [List.getElem?_toArray]
    rw [List.getElem?_eq_getElem (by omega)]
    rfl
  have HR := hid (show ∀ W : World, Bw w W → W.heap = w.heap → (∃ cur', (((W.setRow g L1.toArray).drew.setRow g L2.toArray).setCells g (N * 3) ZC).heap[g]? = some (.cells cur' 58 (0, 0)) ∧ cur'.size = (c * 3) ∧ cur'.toList.take (N * 3) = R) ∧ w.grownBy (((W.setRow g L1.toArray).drew.setRow g L2.toArray).setCells g (N * 3) ZC) (some g) from fun W bW hW => by
    obtain ⟨cur', h1, h2, h3⟩ := setCells_blk (hg2 W hW) ZC (N * 3)
    exact ⟨⟨cur', h1, by rw [h2]; simpa using hn2, by rw [h3 _ (Nat.le_refl _), ← hR]; simpa using hn3⟩, grown_tr (grown_tr (grown_tr (grown_tr (grown_of_below bW.out _) (grown_setRow _ _ _)) (grown_of_below (Bw.drawn ⟨⟨1, rfl⟩⟩).out _)) (grown_setRow _ _ _)) (grown_setCells _ _ _ _)⟩)
  have hw1 : IntKind.i64.wrap ((i : Int) + 1) = (i : Int) + 1 := i64w (by omega) (by omega)
  have hw2 : IntKind.i64.wrap ((i : Int) + 1 + ((N - (i + 1) : Nat) : Int)) = ((N : Nat) : Int) := by rw [i64w (by clear hw1; omega) (by clear hw1; omega)]; clear hw1; omega
  have htn : ((i : Int) + 1).toNat = i + 1 := by clear hw1 hw2; omega
  have htn2 : ((i : Int) + 2).toNat = i + 2 := by clear hw1 hw2; omega
  have hz1 : ¬ ((i : Int) + 2 = (N : Int) + 1) := by clear hw1 hw2; omega
  have hz2 : ¬ ((c : Int) < (N : Int)) := by clear hw1 hw2; omega
  have hb0 : (0 : Int) ≤ (i : Int) + 2 := by clear hw1 hw2; omega
  have hb1 : (i : Int) ≤ (N : Int) + 1 := by clear hw1 hw2; omega
  have hb2 : (i : Int) + 2 ≤ (N : Int) + 1 := by clear hw1 hw2; omega
  have hb3 : (i : Int) ≤ (N : Int) := by clear hw1 hw2; omega
  have hb7 : (i : Int) + 1 ≤ (N : Int) := by clear hw1 hw2; omega
  have hb8 : (0 : Int) ≤ (i : Int) + 1 := by clear hw1 hw2; omega
  have hb9 : (N : Int) ≤ (c : Int) := by clear hw1 hw2; omega
  have hb9' : N ≤ c := by clear hw1 hw2; omega
  have hb10 : (N : Int) ≤ (N : Int) + 1 := by clear hw1 hw2; omega
  have hb4 : ¬ (c = i) := by clear hw1 hw2; omega
  have hb5 : ¬ (c = i + 1) := by clear hw1 hw2; omega
  have hb6 : ¬ (c = i + 2) := by clear hw1 hw2; omega
  have hb11 : ¬ (c = N) := by clear hw1 hw2; omega
  have mixed : Try.prog.follows .mixedOrders = true := by kernel_rfl
  clear hn1 hn2 hn3 hL1 hL2 htk hX hBl hTl hB h1X h1B h1V hV hta hat hg2 hR hZC
  have H1 := hid hcp1
  have H2 := hid hcp2
  have H3 := hid hcl
  clear hcp1 hcp2 hcl
  go_enter Try.func84, Try.ntmps84
  go_upto_region 9 with fail
  go_quiet (fail)
  generalize hWq : w.drewN nq = Wq
  have bq : Bw w Wq := by rw [← hWq]; exact Bw.drawn ⟨⟨nq, rfl⟩⟩
  have eq : Wq.heap = w.heap := by rw [← hWq]; rfl
  have hc1 := H1.out Wq eq
  have hc2 := H2.out Wq eq
  have hc3 := H3.out Wq eq
  have HRq := hid (HR.out Wq bq eq)
  clear HR hWq bq H1 H2 H3 eq
  go_upto_region 18 with (at_builtin; refine wpList_copy_runI _ rfl _ _ 24 24 rfl _ _ rfl rfl (hc1 _ _) ?_)
  go_region_law_o (refine step_copy_runI rfl _ _ 24 24 rfl _ _ (by simp [Act.eval, Act.put]) (by simp [Act.eval, Act.put]) (hc2 _ _ _) ?_)
  go_wp2
  go_ret
  exact ⟨rfl, HRq.out⟩

set_option maxHeartbeats 4000000 in
set_option maxRecDepth 100000 in
theorem rep2room_D (g c i gv : Nat) (X V : List Value) (cur : Array Value) (w : World) (hk : w.heap[g]? = some (.cells cur 58 (0, 0))) (hcs : cur.size = (c * 3)) (htk : cur.toList.take ((i + 1) * 3) = X) (hX : X.length = ((i + 1) * 3)) (hroom : i + 2 ≤ c) (hn : i ≤ 1000000) (hc63 : c ≤ 9223372036854775807)
    (hv : w.heap[gv]? = some (.cells V.toArray 58 (0, 0))) (hV : V.length = 6) (h1V : ∀ u ∈ V, u.oneCell' = true) :
    Calls Try.prog 84 #[.slice (some ⟨g, 0, none⟩) (i + 1) c, .int .i64 i, .int .i64 ((i : Int) + 1), .slice (some ⟨gv, 0, none⟩) 2 2] w fun r w' => r = .returned (.slice (some ⟨g, 0, none⟩) (i + 2) c) ∧ (∃ cur', w'.heap[g]? = some (.cells cur' 58 (0, 0)) ∧ cur'.size = (c * 3) ∧ cur'.toList.take ((i + 2) * 3) = X.take (i * 3) ++ V) ∧ w.grownBy w' (some g) := by
  obtain ⟨R, hR⟩ : ∃ R, X.take (i * 3) ++ V = R := ⟨_, rfl⟩
  rw [hR]
  have hTl : cur.toList.length = (c * 3) := by simpa using hcs
  have hta := take_sub htk (k := (i * 3)) (by omega)
  obtain ⟨i0, hi0, hz0, hzs, hzb⟩ := info_parts info_id
  obtain ⟨L1, hL1⟩ : ∃ L1, cur.toList.take (i * 3) ++ V ++ cur.toList.drop ((i * 3) + 6) = L1 := ⟨_, rfl⟩
  have hap : ∀ ty, (Builtin.append_ #[24, 24] ty #[.slice (some ⟨g, 0, none⟩) i c, .slice (some ⟨gv, 0, none⟩) 2 2]).run Try.prog w = .ok (.slice (some ⟨g, 0, none⟩) (i + 2) c) (w.setRow g L1.toArray) := fun ty => by
    have e := run_append_room (P := Try.prog) w 24 ty 58 i0 Try.underlying24 hi0 g i c cur hk ⟨gv, 0, none⟩ 2 2 V (by rw [hzs]; omega) (fun j u hj => by
      rw [add_off ⟨gv, 0, none⟩ gv 0 j rfl]
      simp only [World.cell?, hv]
      simpa using hj) h1V hroom (by rw [hzs, hcs]; omega)
    rw [hzs, hV] at e
    try rw [Nat.mul_one] at e
    rw [hL1] at e
    exact e
  have HR := hid (show (∃ cur', (w.setRow g L1.toArray).heap[g]? = some (.cells cur' 58 (0, 0)) ∧ cur'.size = (c * 3) ∧ cur'.toList.take ((i + 2) * 3) = R) ∧ w.grownBy (w.setRow g L1.toArray) (some g) from
    ⟨⟨_, setRow_heap w g cur _ _ _ hk, by rw [← hL1]; simp; omega, by rw [← hL1, ← hR, ← hta]; simp only [List.toList_toArray]; exact List.take_left' (by simp only [List.length_append, List.length_take]; omega)⟩, grown_setRow _ _ _⟩)
  have hw1 : IntKind.i64.wrap ((i : Int) + 1) = (i : Int) + 1 := i64w (by omega) (by omega)
  have htn : ((i : Int) + 1).toNat = i + 1 := by clear hw1; omega
  have hb0 : (0 : Int) ≤ (i : Int) + 1 := by clear hw1; omega
  have hb1 : (i : Int) ≤ (i : Int) + 1 := by clear hw1; omega
  have hb4 : ¬ (c = i) := by clear hw1; omega
  have hz3 : ¬ ((i : Int) + 2 < (i : Int) + 1) := by clear hw1; omega
  clear hL1 hta hTl hR htk hX hV h1V hk hcs hi0 hz0 hzs hzb
  go_enter Try.func84, Try.ntmps84
  go_wp2_with (at_builtin; refine Lib.wpList_append_run _ rfl _ _ _ _ rfl _ _ rfl rfl _ _ (hap _) ?_)
  go_ret
  exact ⟨rfl, HR.out⟩
set_option maxHeartbeats 4000000 in
set_option maxRecDepth 100000 in
theorem rep2last_D (g i gv : Nat) (X V : List Value) (cur : Array Value) (w : World) (hk : w.heap[g]? = some (.cells cur 58 (0, 0))) (hcs : cur.size = ((i + 1) * 3)) (htk : cur.toList.take ((i + 1) * 3) = X) (hX : X.length = ((i + 1) * 3)) (hn : i ≤ 1000000)
    (hv : w.heap[gv]? = some (.cells V.toArray 58 (0, 0))) (hV : V.length = 6) :
    Calls Try.prog 84 #[.slice (some ⟨g, 0, none⟩) (i + 1) (i + 1), .int .i64 i, .int .i64 ((i : Int) + 1), .slice (some ⟨gv, 0, none⟩) 2 2] w fun r w' => ∃ G, r = .returned (.slice (some ⟨w.heap.size, 0, none⟩) (i + 2) G) ∧ i + 2 ≤ G ∧ G ≤ 9223372036854775807 ∧ (∃ cur', w'.heap[w.heap.size]? = some (.cells cur' 58 (0, 0)) ∧ cur'.size = (G * 3) ∧ cur'.toList.take ((i + 2) * 3) = X.take (i * 3) ++ V) ∧ Bw w w' := by
  obtain ⟨R, hR⟩ : ∃ R, X.take (i * 3) ++ V = R := ⟨_, rfl⟩
  rw [hR]
  have hAl : (X.take (i * 3)).length = (i * 3) := by rw [List.length_take]; omega
  obtain ⟨i0, hi0, hz0, hzs, hzb⟩ := info_parts info_id
  have hap : ∀ ty, (Builtin.append_ #[24, 24] ty #[.slice (some ⟨g, 0, none⟩) i (i + 1), .slice (some ⟨gv, 0, none⟩) 2 2]).run Try.prog w = .ok (.slice (some ⟨w.heap.size, 0, none⟩) (i + 2) (grownCap w (i + 2) (i + 1) 58)) (w.drew.alloc (.cells ((X.take (i * 3)).toArray ++ V.toArray ++ Builtin.zeroCells (Value.agg #[.int .i64 0, .int .i64 0, .int .i64 0]).cells (grownCap w (i + 2) (i + 1) 58 - (i + 2))) 58)) := fun ty =>
    run_append_grow (P := Try.prog) w 24 ty 58 i0 _ Try.underlying24 hi0 hz0 ⟨g, 0, none⟩ i (i + 1) (X.take (i * 3)) (by rw [hzs]; omega) (fun j u hj => by
      rw [add_off ⟨g, 0, none⟩ g 0 j rfl]
      have hjl := (List.getElem?_eq_some_iff.1 hj).1
      have h := at_sub htk (k := j) (by omega)
      rw [List.getElem?_take, if_pos (by omega)] at hj
      rw [hj] at h
      simp only [World.cell?, hk]
      simpa using h) ⟨gv, 0, none⟩ 2 2 V (by rw [hzs]; omega) (fun j u hj => by
      rw [add_off ⟨gv, 0, none⟩ gv 0 j rfl]
      simp only [World.cell?, hv]
      simpa using hj) (by omega) (by omega) (by rw [hzb]; exact growslice_fits (by omega) (by omega))
  obtain ⟨G, hG⟩ : ∃ G, G = grownCap w (i + 2) (i + 1) 58 := ⟨_, rfl⟩
  have hGn : i + 2 ≤ G := by rw [hG]; exact grownCap_ge w _ _ _
  have hG63 : G ≤ 9223372036854775807 := by
    have := grownCap_le_maxLen w (i + 2) (i + 1) 58 (by unfold maxLen; omega)
    rw [← hG] at this
    unfold maxLen at this
    omega
  obtain ⟨ROW, hROW⟩ : ∃ ROW : Array Value, ROW = (X.take (i * 3)).toArray ++ V.toArray ++ Builtin.zeroCells (Value.agg #[.int .i64 0, .int .i64 0, .int .i64 0]).cells (G - (i + 2)) := ⟨_, rfl⟩
  rw [← hG] at hap
  rw [← hROW] at hap
  have HR := hid (show i + 2 ≤ G ∧ G ≤ 9223372036854775807 ∧ (∃ cur', (w.drew.alloc (.cells ROW 58)).heap[w.heap.size]? = some (.cells cur' 58 (0, 0)) ∧ cur'.size = (G * 3) ∧ cur'.toList.take ((i + 2) * 3) = R) ∧ Bw w (w.drew.alloc (.cells ROW 58)) from
    ⟨hGn, hG63, ⟨ROW, heap_alloc_new w.drew (.cells ROW 58 (0, 0)), by
      rw [hROW]
      simp [Builtin.zeroCells, Value.cells]
      omega, by
      rw [hROW, ← hR]
      simp only [Array.toList_append, List.toList_toArray]
      exact List.take_left' (by simp only [List.length_append]; omega)⟩, (Bw.drawn ⟨⟨1, rfl⟩⟩).trans (Bw.box1 w.drew (.cells ROW 58))⟩)
  have hw1 : IntKind.i64.wrap ((i : Int) + 1) = (i : Int) + 1 := i64w (by omega) (by omega)
  have htn : ((i : Int) + 1).toNat = i + 1 := by clear hw1; omega
  have hb0 : (0 : Int) ≤ (i : Int) + 1 := by clear hw1; omega
  have hb1 : (i : Int) ≤ (i : Int) + 1 := by clear hw1; omega
  have hz3 : ¬ ((i : Int) + 2 < (i : Int) + 1) := by clear hw1; omega
  clear hR htk hX hV hk hcs hi0 hz0 hzs hzb hG hGn hG63 hROW hAl
  go_enter Try.func84, Try.ntmps84
  go_wp2_with (at_builtin; refine Lib.wpList_append_run _ rfl _ _ _ _ rfl _ _ rfl rfl _ _ (hap _) ?_)
  go_ret
  exact ⟨_, rfl, HR.out⟩
set_option maxHeartbeats 4000000 in
set_option maxRecDepth 100000 in
theorem rep1end_D (g c i gv : Nat) (X V : List Value) (cur : Array Value) (w : World) (hk : w.heap[g]? = some (.cells cur 58 (0, 0))) (hcs : cur.size = (c * 3)) (htk : cur.toList.take ((i + 2) * 3) = X) (hX : X.length = ((i + 2) * 3)) (hroom : i + 2 ≤ c) (hn : i ≤ 1000000) (hc63 : c ≤ 9223372036854775807)
    (hv : w.heap[gv]? = some (.cells V.toArray 58 (0, 0))) (hV : V.length = 3) (h1V : ∀ u ∈ V, u.oneCell' = true) :
    Calls Try.prog 84 #[.slice (some ⟨g, 0, none⟩) (i + 2) c, .int .i64 i, .int .i64 ((i : Int) + 2), .slice (some ⟨gv, 0, none⟩) 1 1] w fun r w' => r = .returned (.slice (some ⟨g, 0, none⟩) (i + 1) c) ∧ (∃ cur', w'.heap[g]? = some (.cells cur' 58 (0, 0)) ∧ cur'.size = (c * 3) ∧ cur'.toList.take ((i + 1) * 3) = X.take (i * 3) ++ V) ∧ w.grownBy w' (some g) := by
  obtain ⟨R, hR⟩ : ∃ R, X.take (i * 3) ++ V = R := ⟨_, rfl⟩
  rw [hR]
  obtain ⟨ZC, hZC⟩ : ∃ ZC, (Builtin.zeroCells (Value.agg #[.int .i64 0, .int .i64 0, .int .i64 0]).cells 1).toList = ZC := ⟨_, rfl⟩
  have hTl : cur.toList.length = (c * 3) := by simpa using hcs
  have hta := take_sub htk (k := (i * 3)) (by omega)
  obtain ⟨i0, hi0, hz0, hzs, hzb⟩ := info_parts info_id
  obtain ⟨L1, hL1⟩ : ∃ L1, cur.toList.take (i * 3) ++ V ++ cur.toList.drop ((i * 3) + 3) = L1 := ⟨_, rfl⟩
  have hap : ∀ ty, (Builtin.append_ #[24, 24] ty #[.slice (some ⟨g, 0, none⟩) i c, .slice (some ⟨gv, 0, none⟩) 1 1]).run Try.prog w = .ok (.slice (some ⟨g, 0, none⟩) (i + 1) c) (w.setRow g L1.toArray) := fun ty => by
    have e := run_append_room (P := Try.prog) w 24 ty 58 i0 Try.underlying24 hi0 g i c cur hk ⟨gv, 0, none⟩ 1 1 V (by rw [hzs]; omega) (fun j u hj => by
      rw [add_off ⟨gv, 0, none⟩ gv 0 j rfl]
      simp only [World.cell?, hv]
      simpa using hj) h1V (by omega) (by rw [hzs, hcs]; omega)
    rw [hzs, hV] at e
    try rw [Nat.mul_one] at e
    rw [hL1] at e
    exact e
  have hL1l : L1.length = (c * 3) := by rw [← hL1]; simp only [List.length_append, List.length_take, List.length_drop]; omega
  have hg1 : (w.setRow g L1.toArray).heap[g]? = some (.cells L1.toArray 58 (0, 0)) := setRow_heap w g cur _ _ _ hk
  have hcl : ∀ ty dc, (Builtin.clear_ #[24] ty #[.slice (some ⟨g, ((i + 1) * 3), none⟩) 1 dc]).run Try.prog (w.setRow g L1.toArray) = .ok (.tuple #[]) ((w.setRow g L1.toArray).setCells g ((i + 1) * 3) ZC) := fun ty dc => by
    rw [← hZC]
    refine run_clear_row _ 24 58 ty (Value.agg #[.int .i64 0, .int .i64 0, .int .i64 0]) 3 Try.underlying24 (fun w => by rfl) rfl (by decide) g ((i + 1) * 3) 1 dc (by omega) (fun t ht => ?_) (fun t ht => blk_frozen hg1 _)
    rw [blk_cell hg1]
    simp only [List.getElem?_toArray]
    rw [List.getElem?_eq_getElem (by omega)]
    rfl
  have HR := hid (show (∃ cur', ((w.setRow g L1.toArray).setCells g ((i + 1) * 3) ZC).heap[g]? = some (.cells cur' 58 (0, 0)) ∧ cur'.size = (c * 3) ∧ cur'.toList.take ((i + 1) * 3) = R) ∧ w.grownBy ((w.setRow g L1.toArray).setCells g ((i + 1) * 3) ZC) (some g) from by
    obtain ⟨cur', h1, h2, h3⟩ := setCells_blk hg1 ZC ((i + 1) * 3)
    exact ⟨⟨cur', h1, by rw [h2]; simpa using hL1l, by rw [h3 _ (Nat.le_refl _), ← hL1, ← hR, ← hta]; simp only [List.toList_toArray]; exact List.take_left' (by simp only [List.length_append, List.length_take]; omega)⟩, grown_tr (grown_setRow _ _ _) (grown_setCells _ _ _ _)⟩)
  have htn : ((i : Int) + 1).toNat = i + 1 := by omega
  have htn2 : ((i : Int) + 2).toNat = i + 2 := by omega
  have hb0 : (0 : Int) ≤ (i : Int) + 2 := by omega
  have hb1 : (i : Int) ≤ (i : Int) + 2 := by omega
  have hb2 : (i : Int) + 1 ≤ (i : Int) + 2 := by omega
  have hb4 : ¬ (c = i) := by omega
  have hb5 : ¬ (c = i + 1) := by omega
  have hb7 : (0 : Int) ≤ (i : Int) + 1 := by omega
  have hz3 : (i : Int) + 1 < (i : Int) + 2 := by omega
  clear hL1 hta hTl hR htk hX hV h1V hk hcs hi0 hz0 hzs hzb hZC hg1 hL1l
  go_enter Try.func84, Try.ntmps84
  go_wp2_with (at_builtin; refine Lib.wpList_append_run _ rfl _ _ _ _ rfl _ _ rfl rfl _ _ (hap _) ?_)
  go_ret
  exact ⟨rfl, HR.out⟩

theorem own_mk_D {w : World} {base n g cap : Nat} {cur : Array Value} {F : List Int} (hlen : (nums .i64 F).length = (n * 3)) (hg0 : base ≤ g) (hk : w.heap[g]? = some (.cells cur 58 (0, 0))) (hnc : n ≤ cap) (hcm : cap ≤ maxLen) (hcs : cur.size = (cap * 3)) (htk : cur.toList.take (n * 3) = nums .i64 F) : FO w base 58 3 (.slice (some ⟨g, 0, none⟩) n cap) n F :=
  ⟨⟨by first | exact hlen | (rw [Nat.mul_one]; exact hlen), .inr ⟨g, cap, cur, rfl, hg0, hk, hnc, hcm, by first | exact hcs | (rw [Nat.mul_one]; exact hcs), by first | exact htk | (rw [Nat.mul_one]; exact htk)⟩⟩⟩
theorem rep2_D (base n i gv : Nat) (v : Value) (F V : List Int) (w : World) (h : FO w base 58 3 v n F) (hb : base ≤ w.heap.size) (hi : i < n) (hn : n ≤ 1000000)
    (hv : w.heap[gv]? = some (.cells (nums .i64 V).toArray 58 (0, 0))) (hV : V.length = 6) (hne : v.ownBlock ≠ some gv) :
    Calls Try.prog 84 #[v, .int .i64 i, .int .i64 ((i : Int) + 1), .slice (some ⟨gv, 0, none⟩) 2 2] w fun r w' => ∃ v', r = .returned v' ∧ FO w' base 58 3 v' (n + 1) (F.take (i * 3) ++ V ++ F.drop ((i + 1) * 3)) ∧ w.grownBy w' v.ownBlock ∧ (v'.ownBlock = v.ownBlock ∨ ∃ b, v'.ownBlock = some b ∧ w.heap.size ≤ b) := by
  have hX := h.out.1
  have hFl := FO.len h
  have hVn : (nums .i64 V).length = 6 := by rw [nums_length, hV]
  have hcells : nums .i64 (F.take (i * 3) ++ V ++ F.drop ((i + 1) * 3)) = (nums .i64 F).take (i * 3) ++ nums .i64 V ++ (nums .i64 F).drop ((i + 1) * 3) := by
    rw [nums_append, nums_append]
    simp only [nums, List.map_take, List.map_drop]
  have hlen : (nums .i64 (F.take (i * 3) ++ V ++ F.drop ((i + 1) * 3))).length = ((n + 1) * 3) := by
    rw [nums_length]
    simp only [List.length_append, List.length_take, List.length_drop]
    omega
  rcases h.out.2 with ⟨rfl, h0⟩ | ⟨g, cap, cur, rfl, hg0, hk, hnc, hcm, hcs, htk⟩
  · omega
  · have hc63 : cap ≤ 9223372036854775807 := by unfold maxLen at hcm; omega
    have hne' : gv ≠ g := fun e => hne (by rw [e]; rfl)
    rcases Nat.lt_or_ge (i + 1) n with hmid | hend
    · by_cases hroom : n + 1 ≤ cap
      · refine (rep2shift_D g n cap i gv _ _ cur w hk hcs htk hX hmid hroom hc63 hv hVn hne' (numsK_one F) (numsK_one V)).mono ?_
        rintro r w' ⟨rfl, ⟨cur', hk', hcs', htk'⟩, hG⟩
        exact ⟨_, rfl, own_mk_D hlen hg0 hk' (hroom) hcm hcs' (by rw [hcells]; exact htk'), hG, .inl rfl⟩
      · obtain rfl : cap = n := by omega
        refine (rep2grow_D g cap i gv _ _ cur w hk hcs htk hX hmid hn hv hVn (numsK_one F) (numsK_one V)).mono ?_
        rintro r w' ⟨G, rfl, h1, h2, ⟨cur', hk', hcs', htk'⟩, b⟩
        exact ⟨_, rfl, own_mk_D hlen hb hk' h1 (by unfold maxLen; omega) hcs' (by rw [hcells]; exact htk'), grown_of_below b.out _, .inr ⟨_, rfl, Nat.le_refl _⟩⟩
    · obtain rfl : n = i + 1 := by omega
      have hdrop : (nums .i64 F).drop ((i + 1) * 3) = [] := List.drop_of_length_le (by omega)
      rw [hdrop, List.append_nil] at hcells
      by_cases hroom : i + 2 ≤ cap
      · refine (rep2room_D g cap i gv _ _ cur w hk hcs htk hX hroom (by omega) hc63 hv hVn (numsK_one V)).mono ?_
        rintro r w' ⟨rfl, ⟨cur', hk', hcs', htk'⟩, hG⟩
        exact ⟨_, rfl, own_mk_D hlen hg0 hk' (hroom) hcm hcs' (by rw [hcells]; exact htk'), hG, .inl rfl⟩
      · obtain rfl : cap = i + 1 := by omega
        refine (rep2last_D g i gv _ _ cur w hk hcs htk hX (by omega) hv hVn).mono ?_
        rintro r w' ⟨G, rfl, h1, h2, ⟨cur', hk', hcs', htk'⟩, b⟩
        exact ⟨_, rfl, own_mk_D hlen hb hk' h1 (by unfold maxLen; omega) hcs' (by rw [hcells]; exact htk'), grown_of_below b.out _, .inr ⟨_, rfl, Nat.le_refl _⟩⟩
theorem rep1_D (base n i gv : Nat) (v : Value) (F V : List Int) (w : World) (h : FO w base 58 3 v n F) (hi : i + 1 < n) (hn : n ≤ 1000000)
    (hv : w.heap[gv]? = some (.cells (nums .i64 V).toArray 58 (0, 0))) (hV : V.length = 3) (hne : v.ownBlock ≠ some gv) :
    Calls Try.prog 84 #[v, .int .i64 i, .int .i64 ((i : Int) + 2), .slice (some ⟨gv, 0, none⟩) 1 1] w fun r w' => ∃ v', r = .returned v' ∧ FO w' base 58 3 v' (n - 1) (F.take (i * 3) ++ V ++ F.drop ((i + 2) * 3)) ∧ w.grownBy w' v.ownBlock ∧ v'.ownBlock = v.ownBlock := by
  have hX := h.out.1
  have hFl := FO.len h
  have hVn : (nums .i64 V).length = 3 := by rw [nums_length, hV]
  have hcells : nums .i64 (F.take (i * 3) ++ V ++ F.drop ((i + 2) * 3)) = (nums .i64 F).take (i * 3) ++ nums .i64 V ++ (nums .i64 F).drop ((i + 2) * 3) := by
    rw [nums_append, nums_append]
    simp only [nums, List.map_take, List.map_drop]
  have hlen : (nums .i64 (F.take (i * 3) ++ V ++ F.drop ((i + 2) * 3))).length = ((n - 1) * 3) := by
    rw [nums_length]
    simp only [List.length_append, List.length_take, List.length_drop]
    omega
  rcases h.out.2 with ⟨rfl, h0⟩ | ⟨g, cap, cur, rfl, hg0, hk, hnc, hcm, hcs, htk⟩
  · omega
  · have hc63 : cap ≤ 9223372036854775807 := by unfold maxLen at hcm; omega
    have hne' : gv ≠ g := fun e => hne (by rw [e]; rfl)
    rcases Nat.lt_or_ge (i + 2) n with hmid | hend
    · obtain ⟨N, rfl⟩ : ∃ N, n = N + 1 := ⟨n - 1, by omega⟩
      refine (rep1mid_D g N cap i gv _ _ cur w hk hcs htk hX (by omega) hnc (by omega) hc63 hv hVn hne' (numsK_one F) (numsK_one V)).mono ?_
      rintro r w' ⟨rfl, ⟨cur', hk', hcs', htk'⟩, hG⟩
      exact ⟨_, rfl, own_mk_D hlen hg0 hk' (by omega) hcm hcs' (by rw [hcells]; exact htk'), hG, rfl⟩
    · obtain rfl : n = i + 2 := by omega
      have hdrop : (nums .i64 F).drop ((i + 2) * 3) = [] := List.drop_of_length_le (by omega)
      rw [hdrop, List.append_nil] at hcells
      refine (rep1end_D g cap i gv _ _ cur w hk hcs htk hX hnc (by omega) hc63 hv hVn (numsK_one V)).mono ?_
      rintro r w' ⟨rfl, ⟨cur', hk', hcs', htk'⟩, hG⟩
      exact ⟨_, rfl, own_mk_D hlen hg0 hk' (by omega) hcm hcs' (by rw [hcells]; exact htk'), hG, rfl⟩
end Go.Proofs.Ytaidbdogolhnjaa.U


/- slices.Insert of one packet into an own row of packets. -/
import Derived.Test.YtcdibjneoemidaaKb
import Derived.Shelf.Spec.SlicesInsertGrow
set_option linter.unusedVariables false
set_option linter.unusedSimpArgs false
namespace Go.Proofs.Ytcdibjneoemidaa.U
open Go.RowKit Go.Lib Go.Proofs.YtcdibjneoemidaaW.PrintWords

open Go.Proofs.YtcdibjneoemidaaW.PrintLast Go.Proofs.YtcdibjneoemidaaW.PrintMore
theorem run_copy_rowK {P : Program} (w : World) (dT sT ty elem : TypeId) (sz g o dLen dCap : Nat) (a : Addr) (sLen sCap : Nat) (cur : Array Value) (t : TypeId) (cs : List Value)
    (hu : P.underlying dT = some (.slice elem)) (hs : (P.info? elem).map (·.size) = some sz)
    (hg : w.heap[g]? = some (.cells cur t (0, 0))) (k : Nat) (hk : Nat.min sLen dLen = k) (hn : cs.length = k * sz)
    (hsrc : ∀ j v, cs[j]? = some v → w.cell? (a.add j) = some v) (hfit : o + cs.length ≤ cur.size) (h1 : ∀ v ∈ cs, v.oneCell' = true) :
    (Builtin.copy_ #[dT, sT] ty #[.slice (some ⟨g, o, none⟩) dLen dCap, .slice (some a) sLen sCap]).run P w =
      .ok (goInt k) (w.setRow g (cur.toList.take o ++ cs ++ cur.toList.drop (o + cs.length)).toArray) := by
  have hl := run_loadCells_list (P := P) w a cs hsrc
  have hst := run_storeCells_at P g o t cs 0 cur w hg (by simpa using hfit) h1
  rw [hn] at hl
  cases hq : P.info? elem with
  | none => simp [hq] at hs
  | some i =>
    have hi : i.size = sz := by simpa [hq] using hs
    simp only [Nat.min_def] at hk
    simp [Builtin.copy_, run_underlying hu, Builtin.lenOf, Builtin.firstCells, sizeOf, typeInfo, hq, hi, Nat.min_def, hk, hl, hst]
theorem add_off (a : Addr) (g o j : Nat) (h : a = ⟨g, o, none⟩) : a.add j = ⟨g, o + j, none⟩ := by subst h; unfold Addr.add; split <;> simp_all
theorem run_sizeOf_pk : ∀ w, (Go.sizeOf 34).run Try.prog w = .ok 2 w := fun w => by
  obtain ⟨i, hi, hz0, hz1, hz2⟩ := info_parts info_pk
  simp [sizeOf, typeInfo, hi, hz1]
theorem grown_setRow (w : World) (g : Nat) (cs : Array Value) : w.grownBy (w.setRow g cs) (some g) := ⟨rfl, rfl, rfl, by simp [World.setRow], fun k hk hne => by
  have h : g ≠ k := fun e => hne (by rw [e])
  simp [World.setRow, Array.getElem?_modify, h]⟩
theorem grown_tr {a b c : World} {r : Option Nat} (h : a.grownBy b r) (k : b.grownBy c r) : a.grownBy c r := ⟨k.os.trans h.os, k.tape.trans h.tape, k.output.trans h.output, Nat.le_trans h.size k.size, fun j hj hne => (k.block j (Nat.lt_of_lt_of_le hj h.size) hne).trans (h.block j hj hne)⟩
theorem Bw.new {a b c : World} {g : Nat} (h : Bw a b) (hg : a.heap.size ≤ g) (k : b.grownBy c (some g)) : Bw a c := ⟨h.out.grown k h.size (fun j e => by have := Option.some.inj e; omega)⟩
theorem pk_cells (e : List Pk) : ∀ v ∈ nums .i64 (pkF e), v.oneCell' = true := fun v hv => by
  obtain ⟨x, _, rfl⟩ := List.mem_map.1 hv
  rfl
theorem mid_eq (A B D : List Value) (x y : Value) (m : Nat) (hm : A.length + 2 + B.length = m) : (A ++ [x, y] ++ (B ++ D)).take m = A ++ x :: y :: B := by
  rw [show A ++ [x, y] ++ (B ++ D) = (A ++ x :: y :: B) ++ D by simp, List.take_left' (by simp; omega)]
theorem pk_mid (e : List Pk) (i : Nat) (p : Pk) : nums .i64 (pkF (e.take i ++ p :: e.drop i)) = nums .i64 (pkF (e.take i)) ++ .int .i64 p.q :: .int .i64 p.v :: nums .i64 (pkF (e.drop i)) := by
  rw [pkF_append, pkF_cons, nums_append]
  rfl
theorem pk_split (e : List Pk) (i : Nat) : nums .i64 (pkF e) = nums .i64 (pkF (e.take i)) ++ nums .i64 (pkF (e.drop i)) := by
  rw [← nums_append, ← pkF_append, List.take_append_drop]
theorem pk_len (e : List Pk) : (nums .i64 (pkF e)).length = e.length * 2 := by rw [nums_length, pkF_length]
/-- what stands behind the two moves in place -/
theorem shift_row (T A B : List Value) (i n c : Nat) (x y : Value) (hT : T.length = c * 2) (ht : T.take (n * 2) = A ++ B) (hA : A.length = i * 2) (hB : B.length = (n - i) * 2) (hi : i < n) (hc : n + 1 ≤ c) :
    ∀ L1 L2, L1 = T.take ((i + 1) * 2) ++ B ++ T.drop ((i + 1) * 2 + B.length) → L2 = L1.take (i * 2) ++ [x, y] ++ L1.drop (i * 2 + 2) → L1.length = c * 2 ∧ L2.length = c * 2 ∧ L2.take ((n + 1) * 2) = A ++ x :: y :: B := by
  rintro L1 L2 rfl rfl
  have h0 : T.take (i * 2) = A := by
    have := congrArg (List.take (i * 2)) ht
    rw [List.take_take, Nat.min_eq_left (by omega), List.take_left' hA] at this
    exact this
  have hl1 : (T.take ((i + 1) * 2)).length = (i + 1) * 2 := by rw [List.length_take]; omega
  have h1 : (T.take ((i + 1) * 2) ++ B ++ T.drop ((i + 1) * 2 + B.length)).take (i * 2) = A := by
    rw [List.append_assoc, List.take_append_of_le_length (by omega), List.take_take, Nat.min_eq_left (by omega), h0]
  have h2 : (T.take ((i + 1) * 2) ++ B ++ T.drop ((i + 1) * 2 + B.length)).drop (i * 2 + 2) = B ++ T.drop ((i + 1) * 2 + B.length) := by
    rw [List.append_assoc, List.drop_left' (by omega)]
  refine ⟨by simp only [List.length_append, List.length_drop]; omega, ?_, ?_⟩
  · rw [h1, h2]
    simp only [List.length_append, List.length_drop, List.length_cons, List.length_nil]
    omega
  · rw [h1, h2]
    exact mid_eq A B _ x y _ (by omega)
theorem grow_row (T A B : List Value) (i n c : Nat) (x y : Value) (hT : T.length = c * 2) (ht : T.take (i * 2) = A) (hA : A.length = i * 2) (hB : B.length = (n - i) * 2) (hi : i < n) (hc : n + 1 ≤ c) :
    ∀ L1 L2, L1 = T.take (i * 2) ++ [x, y] ++ T.drop (i * 2 + 2) → L2 = L1.take ((i + 1) * 2) ++ B ++ L1.drop ((i + 1) * 2 + B.length) → L1.length = c * 2 ∧ L2.length = c * 2 ∧ L2.take ((n + 1) * 2) = A ++ x :: y :: B := by
  rintro L1 L2 rfl rfl
  rw [ht]
  have hl : (A ++ [x, y]).length = (i + 1) * 2 := by simp; omega
  have h1 : (A ++ [x, y] ++ T.drop (i * 2 + 2)).take ((i + 1) * 2) = A ++ [x, y] := List.take_left' hl
  rw [h1]
  refine ⟨by simp only [List.length_append, List.length_drop, List.length_cons, List.length_nil]; omega, by simp only [List.length_append, List.length_drop, List.length_cons, List.length_nil]; omega, ?_⟩
  rw [List.append_assoc]
  exact mid_eq A B _ x y _ (by omega)
set_option maxHeartbeats 4000000 in
set_option maxRecDepth 100000 in
theorem insert_shift (g n c i gv : Nat) (e : List Pk) (p : Pk) (cur : Array Value) (w : World) (hk : w.heap[g]? = some (.cells cur 34 (0, 0))) (hcs : cur.size = c * 2) (htk : cur.toList.take (n * 2) = nums .i64 (pkF e)) (hl : e.length = n) (hi : i < n) (hroom : n + 1 ≤ c) (hc63 : c ≤ 9223372036854775807)
    (hv : w.heap[gv]? = some (.cells #[.int .i64 p.q, .int .i64 p.v] 34 (0, 0))) (hne : gv ≠ g) :
    Calls Try.prog 37 #[.slice (some ⟨g, 0, none⟩) n c, .int .i64 i, .slice (some ⟨gv, 0, none⟩) 1 1] w fun r w' => r = .returned (.slice (some ⟨g, 0, none⟩) (n + 1) c) ∧ (∃ cur', w'.heap[g]? = some (.cells cur' 34 (0, 0)) ∧ cur'.size = c * 2 ∧ cur'.toList.take ((n + 1) * 2) = nums .i64 (pkF (e.take i ++ p :: e.drop i))) ∧ w.grownBy w' (some g) := by
  obtain ⟨q, v⟩ := p
  have hA := pk_len (e.take i)
  have hB := pk_len (e.drop i)
  have hsp := pk_split e i
  have hmid := pk_mid e i ⟨q, v⟩
  rw [hsp] at htk
  rw [List.length_take] at hA
  rw [List.length_drop] at hB
  generalize nums .i64 (pkF (e.take i)) = A at *
  have h1B : ∀ u ∈ nums .i64 (pkF (e.drop i)), u.oneCell' = true := pk_cells _
  generalize nums .i64 (pkF (e.drop i)) = B at *
  simp only at hmid
  obtain ⟨L1, hL1⟩ : ∃ L1, L1 = cur.toList.take ((i + 1) * 2) ++ B ++ cur.toList.drop ((i + 1) * 2 + B.length) := ⟨_, rfl⟩
  obtain ⟨L2, hL2⟩ : ∃ L2, L2 = L1.take (i * 2) ++ [.int .i64 q, .int .i64 v] ++ L1.drop (i * 2 + 2) := ⟨_, rfl⟩
  obtain ⟨hn1, hn2, hn3⟩ := shift_row cur.toList A B i n c (.int .i64 q) (.int .i64 v) (by simpa using hcs) htk (by omega) (by omega) hi hroom L1 L2 hL1 hL2
  have hsz : (Try.prog.info? 34).map (·.size) = some 2 := by kernel_rfl
  have hgs := info_parts info_pk
  have hT : ∀ j, j < (n - i) * 2 → cur.toList[i * 2 + j]? = B[j]? := fun j hj => by
    have h := congrArg (fun l : List Value => l[i * 2 + j]?) htk
    change (cur.toList.take (n * 2))[i * 2 + j]? = (A ++ B)[i * 2 + j]? at h
    rw [List.getElem?_take, if_pos (by omega), List.getElem?_append_right (by omega), show i * 2 + j - A.length = j by omega] at h
    exact h
  have hcp1 : ∀ ty dc sc, (Builtin.copy_ #[29, 29] ty #[.slice (some ⟨g, (i + 1) * 2, none⟩) (n - i) dc, .slice (some ⟨g, i * 2, none⟩) (n + 1 - i) sc]).run Try.prog w.drew = .ok (goInt (n - i : Nat)) (w.drew.setRow g L1.toArray) := fun ty dc sc => by
    rw [hL1]
    exact run_copy_rowK w.drew 29 29 ty 34 2 g ((i + 1) * 2) _ dc ⟨g, i * 2, none⟩ _ sc cur 34 B Try.underlying29 hsz hk (n - i) (by simp only [Nat.min_def]; split <;> omega) (by omega)
      (fun j u hj => by
        have hjl := (List.getElem?_eq_some_iff.1 hj).1
        rw [add_off ⟨g, i * 2, none⟩ g (i * 2) j rfl]
        show w.cell? ⟨g, i * 2 + j, none⟩ = _
        have h := hT j (by omega)
        rw [hj] at h
        simp only [World.cell?, hk]
        simpa using h) (by rw [hcs]; omega) h1B
  obtain ⟨W1, hW1⟩ : ∃ W1, W1 = w.drew.setRow g L1.toArray := ⟨_, rfl⟩
  have hg1 : W1.heap[g]? = some (.cells L1.toArray 34 (0, 0)) := by rw [hW1]; exact setRow_heap w.drew g cur _ _ _ hk
  have hG1 : w.grownBy W1 (some g) := by rw [hW1]; exact grown_tr (b := w.drew) ⟨rfl, rfl, rfl, Nat.le_refl _, fun _ _ _ => rfl⟩ (grown_setRow w.drew g _)
  have hv1 : W1.heap[gv]? = some (.cells #[.int .i64 q, .int .i64 v] 34 (0, 0)) := (hG1.block gv (blk_lt hv) (fun e => hne (Option.some.inj e))).trans hv
  have hcp2 : ∀ (W : World), W.heap = W1.heap → ∀ ty dc, (Builtin.copy_ #[29, 29] ty #[.slice (some ⟨g, i * 2, none⟩) (n + 1 - i) dc, .slice (some ⟨gv, 0, none⟩) 1 1]).run Try.prog W = .ok (goInt (1 : Nat)) (W.setRow g L2.toArray) := fun W hW ty dc => by
    rw [hL2]
    exact run_copy_rowK W 29 29 ty 34 2 g (i * 2) _ dc ⟨gv, 0, none⟩ 1 1 L1.toArray 34 [.int .i64 q, .int .i64 v] Try.underlying29 hsz (by rw [hW]; exact hg1) 1 (by simp only [Nat.min_def]; split <;> omega) rfl
      (fun j u hj => by
        rw [add_off ⟨gv, 0, none⟩ gv 0 j rfl]
        show W.cell? ⟨gv, 0 + j, none⟩ = _
        simp only [World.cell?, hW, hv1]
        match j, hj with
        | 0, hj => simpa using hj
        | 1, hj => simpa using hj
        | j + 2, hj => simp at hj) (by simp; omega) (fun u hu => by simp at hu; rcases hu with rfl | rfl <;> rfl)
  have hov : ∀ lb cb, (callFunc 50 #[.slice (some ⟨gv, 0, none⟩) 1 1, .slice (some ⟨g, (i + 1) * 2, none⟩) lb cb]).run Try.prog w = .ok (.value (.bool false)) w := fun lb cb => by
    simp only at hv
    rw [run_callFunc_extern Try.func50 (by kernel_rfl) (by kernel_rfl) (by kernel_rfl) (e := Extern.SlicesOverlaps.overlaps #[29, 29] #[4]) (by kernel_rfl),
      Lib.run_overlaps_apart w 29 4 34 Try.underlying29 2 (run_sizeOf_pk) ⟨gv, 0, none⟩ ⟨g, (i + 1) * 2, none⟩ 1 1 lb cb hne 34 34 2 (c * 2) (by simp [World.shape?, hv]) (by simp [World.shape?, hk, hcs]) (by omega) (by simp [World.frozen?, hv]) (by simp [World.frozen?, hv])]
    rfl
  have hw1 : IntKind.i64.wrap ((i : Int) + 1) = (i : Int) + 1 := i64w (by omega) (by omega)
  have hw2 : IntKind.i64.wrap ((n : Int) + 1) = (n : Int) + 1 := i64w (by omega) (by omega)
  have hz2 : ¬ ((i : Int) = (n : Int)) := by omega
  have hb1 : (0 : Int) ≤ (i : Int) + 1 := by omega
  have hin : i ≤ n := by omega
  have hb3 : (i : Int) ≤ (n : Int) + 1 := by omega
  have hb4 : ¬ (c = i) := by omega
  have hb5 : ¬ (c = i + 1) := by omega
  have htn : ((i : Int) + 1).toNat = i + 1 := by omega
  have mixed : Try.prog.follows .mixedOrders = true := by kernel_rfl
  have HR := hid (show (∃ cur', (W1.setRow g L2.toArray).heap[g]? = some (.cells cur' 34 (0, 0)) ∧ cur'.size = c * 2 ∧ cur'.toList.take ((n + 1) * 2) = nums .i64 (pkF (e.take i ++ ⟨q, v⟩ :: e.drop i))) ∧ w.grownBy (W1.setRow g L2.toArray) (some g) from ⟨⟨_, setRow_heap W1 g _ _ _ _ hg1, by simpa using hn2, by rw [hmid]; simpa using hn3⟩, grown_tr hG1 (grown_setRow _ _ _)⟩)
  rw [← hW1] at hcp1
  clear hW1
  clear hT hn1 hn2 hn3 hL1 hL2 htk hA hB hsp hmid h1B
  go_enter Try.func37, Try.ntmps37
  go_wp2_with (simp only [hov])
  go_region_law_o (refine step_copy_runI rfl _ _ 29 29 rfl _ _ (by simp [Act.eval, Act.put]) (by simp [Act.eval, Act.put]) (hcp1 _ _ _) ?_)
  go_wp2_with (at_builtin; refine wpList_copy_runI _ rfl _ _ 29 29 rfl _ _ rfl rfl (hcp2 _ rfl _ _) ?_)
  go_ret
  exact ⟨rfl, HR.out⟩
set_option maxHeartbeats 4000000 in
set_option maxRecDepth 100000 in
theorem insert_grow (g n i gv : Nat) (e : List Pk) (p : Pk) (cur : Array Value) (w : World) (hk : w.heap[g]? = some (.cells cur 34 (0, 0))) (hcs : cur.size = n * 2) (htk : cur.toList.take (n * 2) = nums .i64 (pkF e)) (hl : e.length = n) (hi : i < n) (hn : n ≤ 1000000)
    (hv : w.heap[gv]? = some (.cells #[.int .i64 p.q, .int .i64 p.v] 34 (0, 0))) :
    Calls Try.prog 37 #[.slice (some ⟨g, 0, none⟩) n n, .int .i64 i, .slice (some ⟨gv, 0, none⟩) 1 1] w fun r w' => ∃ G, r = .returned (.slice (some ⟨w.heap.size, 0, none⟩) (n + 1) G) ∧ n + 1 ≤ G ∧ G ≤ 9223372036854775807 ∧ (∃ cur', w'.heap[w.heap.size]? = some (.cells cur' 34 (0, 0)) ∧ cur'.size = G * 2 ∧ cur'.toList.take ((n + 1) * 2) = nums .i64 (pkF (e.take i ++ p :: e.drop i))) ∧ Bw w w' := by
  obtain ⟨q, v⟩ := p
  have hA := pk_len (e.take i)
  have hB := pk_len (e.drop i)
  have hsp := pk_split e i
  have hmid := pk_mid e i ⟨q, v⟩
  rw [hsp] at htk
  rw [List.length_take] at hA
  rw [List.length_drop] at hB
  generalize nums .i64 (pkF (e.take i)) = A at *
  have h1B : ∀ u ∈ nums .i64 (pkF (e.drop i)), u.oneCell' = true := pk_cells _
  generalize nums .i64 (pkF (e.drop i)) = B at *
  simp only at hmid
  have hsz : (Try.prog.info? 34).map (·.size) = some 2 := by kernel_rfl
  obtain ⟨i0, hi0, hz0, hzs, hzb⟩ := info_parts info_pk
  have hT : ∀ j, j < n * 2 → cur[j]? = (A ++ B)[j]? := fun j hj => by
    have h := congrArg (fun l : List Value => l[j]?) htk
    change (cur.toList.take (n * 2))[j]? = (A ++ B)[j]? at h
    rw [List.getElem?_take, if_pos hj] at h
    simpa using h
  have hgw : g < w.heap.size := blk_lt hk
  have hvw : gv < w.heap.size := blk_lt hv
  have hold : (Builtin.firstCells i0.size i (.slice (some ⟨g, 0, none⟩) i n)).run Try.prog w.drew = .ok A.toArray w.drew := by
    rw [hzs]
    exact run_firstCells_some w.drew 2 i ⟨g, 0, none⟩ i n A (by omega) (fun j u hj => by
      have hjl := (List.getElem?_eq_some_iff.1 hj).1
      rw [add_off ⟨g, 0, none⟩ g 0 j rfl]
      show w.cell? ⟨g, 0 + j, none⟩ = _
      simp only [World.cell?, hk]
      have h := hT j (by omega)
      rw [List.getElem?_append_left (by omega), hj] at h
      simpa using h)
  have hkk : (n : Int) + 1 - (i : Int) = ((n + 1 - i : Nat) : Int) := by omega
  have hik : i + (n + 1 - i) = n + 1 := by omega
  have hrz : ∀ ty, (Builtin.append_ #[29, 3] ty #[.slice (some ⟨g, 0, none⟩) i n, .int .i64 ((n : Int) + 1 - (i : Int))]).run Try.prog w =
      .ok (.slice (some ⟨w.heap.size, 0, none⟩) (n + 1) (grownCap w (n + 1) n 34)) (w.drew.alloc (.cells (A.toArray ++ Builtin.zeroCells (Value.agg #[.int .i64 0, .int .i64 0]).cells (n + 1 - i) ++ Builtin.zeroCells (Value.agg #[.int .i64 0, .int .i64 0]).cells (grownCap w (n + 1) n 34 - (n + 1))) 34)) := fun ty => by
    have h := Lib.run_append_grow_zeros w 29 3 ty 34 i0 _ .i64 .i64 Try.underlying29 Try.underlying3 hi0 hz0 (some ⟨g, 0, none⟩) i n A hold (n + 1 - i) (by omega) (by omega) (by omega) (by omega) (by rw [hzb]; omega) (by rw [hzb, hik]; exact growslice_fits (by omega) (by omega))
    rw [hik] at h
    rw [hkk]
    exact h
  obtain ⟨G, hG⟩ : ∃ G, G = grownCap w (n + 1) n 34 := ⟨_, rfl⟩
  have hGn : n + 1 ≤ G := by rw [hG]; exact grownCap_ge w _ _ _
  have hG63 : G ≤ 9223372036854775807 := by
    have := grownCap_le_maxLen w (n + 1) n 34 (by unfold maxLen; omega)
    rw [← hG] at this
    unfold maxLen at this
    omega
  obtain ⟨ROW, hROW⟩ : ∃ ROW : Array Value, ROW = A.toArray ++ Builtin.zeroCells (Value.agg #[.int .i64 0, .int .i64 0]).cells (n + 1 - i) ++ Builtin.zeroCells (Value.agg #[.int .i64 0, .int .i64 0]).cells (G - (n + 1)) := ⟨_, rfl⟩
  rw [← hG] at hrz
  rw [← hROW] at hrz
  have hRs : ROW.toList.length = G * 2 := by
    rw [hROW]
    simp [Builtin.zeroCells, Value.cells]
    omega
  have hRt : ROW.toList.take (i * 2) = A := by
    rw [hROW]
    simp only [Array.toList_append, List.toList_toArray, List.append_assoc]
    exact List.take_left' (by omega)
  obtain ⟨L1, hL1⟩ : ∃ L1, L1 = ROW.toList.take (i * 2) ++ [.int .i64 q, .int .i64 v] ++ ROW.toList.drop (i * 2 + 2) := ⟨_, rfl⟩
  obtain ⟨L2, hL2⟩ : ∃ L2, L2 = L1.take ((i + 1) * 2) ++ B ++ L1.drop ((i + 1) * 2 + B.length) := ⟨_, rfl⟩
  obtain ⟨hn1, hn2, hn3⟩ := grow_row ROW.toList A B i n G (.int .i64 q) (.int .i64 v) hRs hRt (by omega) (by omega) hi hGn L1 L2 hL1 hL2
  obtain ⟨W1, hW1⟩ : ∃ W1, W1 = w.drew.alloc (.cells ROW 34) := ⟨_, rfl⟩
  rw [← hW1] at hrz
  have hN1 : W1.heap[w.heap.size]? = some (.cells ROW 34 (0, 0)) := by rw [hW1]; exact heap_alloc_new w.drew (.cells ROW 34 (0, 0))
  have hB1 : Bw w W1 := by rw [hW1]; exact (Bw.drawn ⟨⟨1, rfl⟩⟩).trans (Bw.box1 w.drew (.cells ROW 34))
  have hg1 : W1.heap[g]? = some (.cells cur 34 (0, 0)) := (hB1.out.block _ hgw).trans hk
  have hv1 : W1.heap[gv]? = some (.cells #[.int .i64 q, .int .i64 v] 34 (0, 0)) := (hB1.out.block _ hvw).trans hv
  have hcpA : ∀ (W : World), W.heap = W1.heap → ∀ ty dc, (Builtin.copy_ #[29, 29] ty #[.slice (some ⟨w.heap.size, i * 2, none⟩) (n + 1 - i) dc, .slice (some ⟨gv, 0, none⟩) 1 1]).run Try.prog W = .ok (goInt (1 : Nat)) (W.setRow w.heap.size L1.toArray) := fun W hW ty dc => by
    rw [hL1]
    exact run_copy_rowK W 29 29 ty 34 2 w.heap.size (i * 2) _ dc ⟨gv, 0, none⟩ 1 1 ROW 34 [.int .i64 q, .int .i64 v] Try.underlying29 hsz (by rw [hW]; exact hN1) 1 (by simp only [Nat.min_def]; split <;> omega) rfl
      (fun j u hj => by
        rw [add_off ⟨gv, 0, none⟩ gv 0 j rfl]
        show W.cell? ⟨gv, 0 + j, none⟩ = _
        simp only [World.cell?, hW, hv1]
        match j, hj with
        | 0, hj => simpa using hj
        | 1, hj => simpa using hj
        | j + 2, hj => simp at hj) (by have : ROW.size = G * 2 := by simpa using hRs
                                       simp; omega) (fun u hu => by simp at hu; rcases hu with rfl | rfl <;> rfl)
  have hN2 : (W1.setRow w.heap.size L1.toArray).heap[w.heap.size]? = some (.cells L1.toArray 34 (0, 0)) := setRow_heap W1 _ _ _ _ _ hN1
  have hg2 : (W1.setRow w.heap.size L1.toArray).heap[g]? = some (.cells cur 34 (0, 0)) := ((grown_setRow W1 w.heap.size L1.toArray).block g (blk_lt hg1) (fun e => by have := Option.some.inj e; omega)).trans hg1
  have hcpB : ∀ (W : World), W.heap = (W1.setRow w.heap.size L1.toArray).heap → ∀ ty dc sc, (Builtin.copy_ #[29, 29] ty #[.slice (some ⟨w.heap.size, (i + 1) * 2, none⟩) (n - i) dc, .slice (some ⟨g, i * 2, none⟩) (n - i) sc]).run Try.prog W = .ok (goInt (n - i : Nat)) (W.setRow w.heap.size L2.toArray) := fun W hW ty dc sc => by
    rw [hL2]
    exact run_copy_rowK W 29 29 ty 34 2 w.heap.size ((i + 1) * 2) _ dc ⟨g, i * 2, none⟩ _ sc L1.toArray 34 B Try.underlying29 hsz (by rw [hW]; exact hN2) (n - i) (by simp only [Nat.min_def]; split <;> omega) (by omega)
      (fun j u hj => by
        have hjl := (List.getElem?_eq_some_iff.1 hj).1
        rw [add_off ⟨g, i * 2, none⟩ g (i * 2) j rfl]
        show W.cell? ⟨g, i * 2 + j, none⟩ = _
        simp only [World.cell?, hW, hg2]
        have h := hT (i * 2 + j) (by omega)
        rw [List.getElem?_append_right (by omega), show i * 2 + j - A.length = j by omega, hj] at h
        simpa using h) (by simp; omega) h1B
  have hw1 : IntKind.i64.wrap ((i : Int) + 1) = (i : Int) + 1 := i64w (by omega) (by omega)
  have hw2 : IntKind.i64.wrap ((n : Int) + 1) = (n : Int) + 1 := i64w (by omega) (by omega)
  have hw3 : IntKind.i64.wrap ((n : Int) + 1 - (i : Int)) = (n : Int) + 1 - (i : Int) := i64w (by omega) (by omega)
  have hz2 : ¬ ((i : Int) = (n : Int)) := by omega
  have hz3 : (n : Int) < (n : Int) + 1 := by omega
  have hb1 : (0 : Int) ≤ (i : Int) + 1 := by omega
  have hin : i ≤ n := by omega
  have hb3 : (i : Int) ≤ (n : Int) + 1 := by omega
  have hb4 : ¬ (G = i) := by omega
  have hb5 : ¬ (G = i + 1) := by omega
  have hb6 : ¬ (n = i) := by omega
  have htn : ((i : Int) + 1).toNat = i + 1 := by omega
  have mixed : Try.prog.follows .mixedOrders = true := by kernel_rfl
  have HR := hid (show n + 1 ≤ G ∧ G ≤ 9223372036854775807 ∧ (∃ cur', ((W1.setRow w.heap.size L1.toArray).drew.setRow w.heap.size L2.toArray).heap[w.heap.size]? = some (.cells cur' 34 (0, 0)) ∧ cur'.size = G * 2 ∧ cur'.toList.take ((n + 1) * 2) = nums .i64 (pkF (e.take i ++ ⟨q, v⟩ :: e.drop i))) ∧ Bw w ((W1.setRow w.heap.size L1.toArray).drew.setRow w.heap.size L2.toArray) from
    ⟨hGn, hG63, ⟨_, setRow_heap _ _ _ _ _ _ hN2, by simpa using hn2, by rw [hmid]; simpa using hn3⟩, ((hB1.new (Nat.le_refl _) (grown_setRow W1 w.heap.size L1.toArray)).trans (Bw.drawn ⟨⟨1, rfl⟩⟩)).new (Nat.le_refl _) (grown_setRow _ _ _)⟩)
  have HA := hid hcpA
  have HB1 := hcpB (W1.setRow w.heap.size L1.toArray).drew rfl
  clear hW1 hcpA hcpB hRs hRt hROW hG hT hn1 hn2 hn3 hL1 hL2 htk hA hB hsp hmid h1B hold hkk hik hN1 hN2 hg1 hg2 hv1 hB1
  go_enter Try.func37, Try.ntmps37
  go_upto_region 10 with (at_builtin; refine Lib.wpList_append_run _ rfl _ _ _ _ rfl _ _ rfl rfl _ _ (hrz _) ?_)
  go_upto_region 10 with fail
  have HA := HA.out
  go_wp2_with (at_builtin; refine wpList_copy_runI _ rfl _ _ 29 29 rfl _ _ rfl rfl (HA _ rfl _ _) ?_)
  go_region_law_o (refine step_copy_runI rfl _ _ 29 29 rfl (.slice (some ⟨w.heap.size, (i + 1) * 2, none⟩) (n - i) (G - (i + 1))) (.slice (some ⟨g, i * 2, none⟩) (n - i) (n - i)) (by simp [Act.eval, Act.put]) (by simp [Act.eval, Act.put]) (HB1 _ _ _) ?_)
  go_wp2
  go_ret
  exact ⟨_, rfl, HR.out⟩
end Go.Proofs.Ytcdibjneoemidaa.U

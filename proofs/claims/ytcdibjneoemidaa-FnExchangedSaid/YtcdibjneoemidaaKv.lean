
/- Exchange of the program. -/
import Derived.Test.YtcdibjneoemidaaKt
import Derived.Test.YtcdibjneoemidaaKu
set_option linter.unusedVariables false
set_option linter.unusedSimpArgs false
namespace Go.Proofs.Ytcdibjneoemidaa.U
open Go.RowKit Go.Lib Go.Proofs.YtcdibjneoemidaaW.PrintWords

open Go.Shelf
attribute [local go_sem] Oper.semAt_some
open Go.Proofs.YtcdibjneoemidaaW.PrintLast Go.Proofs.YtcdibjneoemidaaW.PrintMore
theorem exch1 (x : Int) (w : World) : Calls Try.prog 45 #[.int .i64 x] w fun e w' => e = .returned (.bool (decide (x < 0))) ∧ Drawn0 w w' := by
  go_enter Try.func45, Try.ntmps45
  go_wp2
  go_ret
  exact ⟨rfl, Drawn0.refl _⟩
theorem any_neg (l : List Int) : (l.any fun x => decide (x < 0)) = !(l.all fun x => decide (0 ≤ x)) := by
  rw [← not_any_not l fun x => decide (0 ≤ x), Bool.not_not]
  congr 1
  funext x
  by_cases h : x < 0
  · rw [decide_eq_true h, decide_eq_false (by omega)]; rfl
  · rw [decide_eq_false h, decide_eq_true (by omega)]; rfl
/-- what the body must achieve, where it leaves by a return -/
def postN (n : Nat) (P : Program) (fn : Func) (R : Ending → World → Prop) : Exit → Act → World → Prop
  | .normal, a, w | .ret, a, w => LeavesInM Fence.wide n P fn a.tmps R a.defers .returning w
  | _, _, _ => False
theorem calls_of_marks {P : Program} {f : FuncId} {fn : Func} {c : Code} {args : Array Value} {w : World} {R : Ending → World → Prop} (hf : P.funcs[f]? = some fn) (hb : fn.body = some c)
    (h : c.wp P (postN 9 P fn R) { tmps := args ++ Array.replicate (fn.ntmps - args.size) undef, defers := [] } w) : Calls P f args w R :=
  callsIn_wide.1 (callsIn_of_wp_marks (F := Fence.wide) (n := 9) hf hb trivial (wpIn_mono (wpIn_wide.2 h) fun e a w hq => by cases e <;> first | exact hq | exact hq.elim) rfl)
def mkD (D : Nat) : Deferred := { target := .collected D, args := #[] }
/-- the blocks of the rounds' deferred calls have been taken over -/
structure PutM (Ds : List Nat) (w w' : World) : Prop where
  below : ∀ base, (∀ D ∈ Ds, base ≤ D) → base ≤ w.heap.size → Below base w w'
  same : ∀ k, k ∉ Ds → w'.heap[k]? = w.heap[k]?
theorem leave_marks {n : Nat} {P : Program} {fn : Func} {tmps : Array Value} {R : Ending → World → Prop} : ∀ (Ds : List Nat) (w : World), Ds.Nodup → (∀ D ∈ Ds, w.heap[D]? = some (.deferred (some []))) →
    (∀ w', PutM Ds w w' → LeavesIn Fence.wide n P fn tmps R [] .returning w') → LeavesInM Fence.wide n P fn tmps R (Ds.map mkD) .returning w
  | [], w, _, _, h => h w ⟨fun _ _ _ => Below.refl _ _, fun _ _ => rfl⟩
  | D :: Ds, w, hn, hd, h => by
    have hD := hd D (List.mem_cons_self ..)
    have hnd := List.nodup_cons.1 hn
    have hsz : D < w.heap.size := (Array.getElem?_eq_some_iff.1 hD).1
    refine ⟨by simp, .inl ⟨D, w.putObj D (.deferred none), rfl, run_takeDeferred hD, leave_marks Ds _ hnd.2 (fun D' h' => ?_) (fun w' hw => h w' ⟨fun base hb hs => ?_, fun k hk => ?_⟩)⟩⟩
    · rw [World.putObj_heap_other (fun e => hnd.1 (by rw [← e]; exact h'))]
      exact hd D' (List.mem_cons_of_mem _ h')
    · have h1 : Below base w (w.putObj D (.deferred none)) := (Below.refl base w).grown (grownBy_putObj' w D _) hs (fun k e => by cases e; exact hb D (List.mem_cons_self ..))
      exact h1.trans (hw.below base (fun D' h' => hb D' (List.mem_cons_of_mem _ h')) (Nat.le_trans hs h1.size))
    · rw [hw.same k (fun e => hk (List.mem_cons_of_mem _ e)), World.putObj_heap_other (fun e => hk (by rw [e]; exact List.mem_cons_self ..))]
theorem OI.putM {w w' : World} {Ds : List Nat} {base n : Nat} {v : Value} {l : List Int} (o : OI w base v n l) (h : PutM Ds w w') (hd : ∀ D ∈ Ds, w.heap[D]? = some (.deferred (some []))) : OI w' base v n l := ⟨by
  rcases o.out.2 with ⟨rfl, h0⟩ | ⟨g, cap, cur, rfl, hg, hh, r⟩
  · exact ⟨o.out.1, .inl ⟨rfl, h0⟩⟩
  · refine own_move o.out fun k hk => h.same k fun hm => ?_
    have : g = k := by simpa [Value.ownBlock] using hk
    subst this
    rw [hd _ hm] at hh
    cases hh⟩
theorem DlS.grownN {w0 W W' : World} {P : Nat} {vg ve : Value} {s : Ib} {row : Option Nat} (h : DlS w0 W P vg ve s) (hg : W.grownBy W' row) (hr : ∀ r, row = some r → w0.heap.size ≤ r ∧ ∃ o : Obj, W.heap[r]? = some o ∧ o.isCells = false) : DlS w0 W' P vg ve s := by
  have hne : ∀ (k : Nat) (cs : Array Value) (t : TypeId), W.heap[k]? = some (.cells cs t (0, 0)) → some k ≠ row := fun k cs t hk e => by
    obtain ⟨_, o, ho, hc⟩ := hr k e.symm
    rw [hk] at ho
    obtain rfl := Option.some.inj ho
    simp [Obj.isCells] at hc
  have own : ∀ {t k n : Nat} {v : Value} {F : List Int}, FO W w0.heap.size t k v n F → FO W' w0.heap.size t k v n F := fun {t k n v F} o => ⟨by
    rcases o.out.2 with ⟨rfl, h0⟩ | ⟨g, cap, cur, rfl, hg0, hh, r⟩
    · exact ⟨o.out.1, .inl ⟨rfl, h0⟩⟩
    · refine own_move o.out fun q hq => ?_
      have : g = q := by simpa [Value.ownBlock] using hq
      subst this
      exact hg.block _ (blk_lt hh) (hne _ _ _ hh)⟩
  exact ⟨(hg.block P (blk_lt h.bx) (hne _ _ _ h.bx)).trans h.bx, own h.og, own h.oe, h.ap, ⟨h.bw.out.grown hg h.bw.size (fun k e => (hr k e).1)⟩, h.lo⟩
/-- behind the deliveries of what is listed -/
def bkS (l L : List Int) (s0 : Ib) {K : Nat} (pre : List (Bk K)) : Ib := pre.foldl (fun s x => stepB l (rd L (x.1 : Int)) s) s0
theorem bkS_to (l L : List Int) (s0 : Ib) {K : Nat} (hL : L.length = K) : ∀ k, k ≤ K → bkS l L s0 (bkTo K k) = (L.drop (K - k)).foldr (stepB l) s0
  | 0, _ => by
    rw [Nat.sub_zero, List.drop_of_length_le (by omega)]
    rfl
  | k + 1, h => by
    have ih := bkS_to l L s0 hL k (by omega)
    rw [bkTo_succ (by omega), bkS, List.foldl_append]
    have e1 : K - k = (K - (k + 1)) + 1 := by omega
    rw [List.drop_eq_getElem_cons (show K - (k + 1) < L.length by omega), List.foldr_cons, ← e1, ← ih]
    simp only [List.foldl_cons, List.foldl_nil]
    have e2 : rd L ((K - 1 - k : Nat) : Int) = L[K - (k + 1)] := by
      rw [rd_nat, List.getD_eq_getElem?_getD, show K - 1 - k = K - (k + 1) by omega, List.getElem?_eq_getElem (by omega)]
      rfl
    rw [e2]
    rfl
theorem bkS_snoc (l L : List Int) (s0 : Ib) {K : Nat} (pre : List (Bk K)) (x : Bk K) : bkS l L s0 (pre ++ [x]) = stepB l (rd L (x.1 : Int)) (bkS l L s0 pre) := by
  rw [bkS, bkS, List.foldl_append]
  rfl
theorem keepX {n₀ X : Nat} {W wa W' : World} (b : Bw W wa) (k : Wi wa W' X (X + 1)) (h1 : n₀ ≤ X) (h2 : n₀ ≤ W.heap.size) : Below n₀ W W' := ⟨k.os.trans b.out.os, k.tape.trans b.out.tape, k.output.trans b.out.output, Nat.le_trans b.out.size k.size, fun i hi => (k.block i (by have := b.out.size; omega) (fun q => by omega)).trans (b.out.block i (by omega))⟩
theorem keepB {X B : Nat} {W wa W' : World} (b : Bw W wa) (k : Wi wa W' X (X + 1)) (h1 : B ≠ X) (h2 : B < W.heap.size) : W'.heap[B]? = W.heap[B]? := (k.block B (by have := b.out.size; omega) (fun q => h1 (by omega))).trans (b.out.block B h2)
set_option maxHeartbeats 8000000 in
set_option maxRecDepth 100000 in
theorem impl_Exchange (A : Option Addr) (n c : Nat) (l : List Int) (Bs : Option Addr) (m ds : Nat) (sc : List Int) (w : World) (r : RI w A n l) (q : RI w Bs m sc) (hwf : ∀ x ∈ sc, -9223372036854775808 ≤ x ∧ x ≤ 9223372036854775807) :
    Calls Try.prog 21 #[.slice A n c, .slice Bs m ds] w fun e w' => ∃ v, e = .returned (.tuple #[v, .int .i64 (exS l sc).2]) ∧ OI w' w.heap.size v (exS l sc).1.length (exS l sc).1 ∧ Bw w w' := by
  have HLN := hid r.len
  have HSN := hid q.len
  have HWF := hid hwf
  clear hwf
  have b0 := Bw.box1 w (.cells #[.slice A n c] 22)
  have v0 := box_cell (Bw.refl (w.alloc (.cells #[.slice A n c] 22))) 0
  simp only [List.getElem?_toArray, List.getElem?_cons_zero] at v0
  have hVB := heap_alloc_new w (.cells #[.slice A n c] 22 (0, 0))
  by_cases h1 : n ≤ 100
  case neg =>
    have t1 : decide ((n : Int) > 100) = true := decide_eq_true (by omega)
    have t1' : decide (n > 100) = true := decide_eq_true (by omega)
    have t1'' : decide (100 < n) = true := decide_eq_true (by omega)
    have HX := hid (exS_no (vs := l) (sc := sc) (by rw [exOk, decide_eq_false (by rw [HLN.out]; omega)]; rfl))
    refine calls_of_marks Try.func21 rfl ?_
    simp only [Try.ntmps21, List.size_toArray, List.length_cons, List.length_nil, Nat.reduceAdd, Nat.reduceSub, Array.replicate_succ, Array.replicate_zero, List.push_toArray, List.append_toArray, List.nil_append, List.cons_append]
    go_wp2
    exact ⟨.tuple #[.slice none 0 0, .int .i64 (-1)], by simp [results, Try.results21, go_sem], _, by rw [HX.out], by rw [HX.out]; exact OI.nil _ _, b0⟩
  have t1 : decide ((n : Int) > 100) = false := decide_eq_false (by omega)
  have t1' : decide (n > 100) = false := decide_eq_false (by omega)
  have t1'' : decide (100 < n) = false := decide_eq_false (by omega)
  by_cases h2 : m ≤ 1000
  case neg =>
    have t2 : decide ((m : Int) > 1000) = true := decide_eq_true (by omega)
    have t2' : decide (m > 1000) = true := decide_eq_true (by omega)
    have t2'' : decide (1000 < m) = true := decide_eq_true (by omega)
    have HX := hid (exS_no (vs := l) (sc := sc) (by rw [exOk, decide_eq_false (show ¬ sc.length ≤ 1000 by rw [HSN.out]; omega), Bool.and_false]; rfl))
    refine calls_of_marks Try.func21 rfl ?_
    simp only [Try.ntmps21, List.size_toArray, List.length_cons, List.length_nil, Nat.reduceAdd, Nat.reduceSub, Array.replicate_succ, Array.replicate_zero, List.push_toArray, List.append_toArray, List.nil_append, List.cons_append]
    go_wp2
    exact ⟨.tuple #[.slice none 0 0, .int .i64 (-1)], by simp [results, Try.results21, go_sem], _, by rw [HX.out], by rw [HX.out]; exact OI.nil _ _, b0⟩
  have t2 : decide ((m : Int) > 1000) = false := decide_eq_false (by omega)
  have t2' : decide (m > 1000) = false := decide_eq_false (by omega)
  have t2'' : decide (1000 < m) = false := decide_eq_false (by omega)
  have HL := hid r
  have HS := hid q
  have HV := hid hVB
  have HB0 := hid b0
  clear r q hVB b0
  refine calls_of_marks Try.func21 rfl ?_
  simp only [Try.ntmps21, List.size_toArray, List.length_cons, List.length_nil, Nat.reduceAdd, Nat.reduceSub, Array.replicate_succ, Array.replicate_zero, List.push_toArray, List.append_toArray, List.nil_append, List.cons_append]
  go_wp2_with fail
  refine (ContainsFunc Bs m ds sc _ #[] (fun x => decide (x < 0)) _ (HS.out.to HB0.out) ⟨fun W x _ => exch1 x W⟩ (enters_of Try.func45 (by kernel_rfl) rfl)).mono ?_
  rintro e w2 ⟨rfl, d2⟩
  have HB2 := hid (HB0.out.trans (Bw.drawn d2))
  have HV2 := hid (((Bw.drawn d2).out.block _ (blk_lt HV.out)).trans HV.out)
  cases hneg : (sc.any fun x => decide (x < 0)) with
  | true =>
    have HX := hid (exS_no (vs := l) (sc := sc) (by rw [any_neg] at hneg; rw [exOk, show sc.all (fun x => decide (0 ≤ x)) = false by simpa using hneg, Bool.and_false]))
    go_wp2
    exact ⟨.tuple #[.slice none 0 0, .int .i64 (-1)], by simp [results, Try.results21, go_sem], _, by rw [HX.out], by rw [HX.out]; exact OI.nil _ _, HB2.out⟩
  | false =>
    have hok : exOk l sc = true := by
      rw [any_neg] at hneg
      rw [exOk, show sc.all (fun x => decide (0 ≤ x)) = true by simpa using hneg, decide_eq_true (by rw [HLN.out]; omega), decide_eq_true (by rw [HSN.out]; omega)]
      rfl
    have HALL := hid (show ∀ j, j < m → 0 ≤ rd sc (j : Int) from fun j hj => by
      rw [any_neg] at hneg
      have h9 : sc.all (fun x => decide (0 ≤ x)) = true := by simpa using hneg
      rw [List.all_eq_true] at h9
      have := h9 _ (rd_mem (l := sc) (j := j) (by rw [HSN.out]; exact hj))
      simpa using this)
    have HOKX := hid hok
    have HD0 := hid (DlS.zero w2)
    clear hneg hok d2 v0 t1 t1' t1'' t2 t2' t2''
    go_upto_region 4 with fail
    generalize (w2.alloc (.cells #[.slice none 0 0, .slice none 0 0] 31)) = W1 at *
    obtain ⟨XB, hXB⟩ : ∃ XB, w2.heap.size = XB := ⟨_, rfl⟩
    have HXB := hid hXB
    simp only [hXB] at HD0 ⊢
    clear hXB
    go_wp2
    go_loopw [29] (fun v29 wr => ∃ (j : Nat) (vg ve : Value) (s : Ib), j ≤ m ∧ v29 = .int .i64 j ∧ Hid (DlS w2 wr XB vg ve s) ∧ Hid (s = sentS l sc j)) (fun v29 _ => m - (RowKit.intOf v29).toNat)
    case atStart => exact ⟨0, _, _, _, by omega, rfl, HD0, hid rfl⟩
    case round =>
      clear HD0
      obtain ⟨j, vg, ve, s, hj, rfl, HD, HE⟩ := hrel
      have HG := hid (show Good l s by rw [HE.out]; exact good_sent l sc (by rw [HLN.out]; omega) j)
      obtain ⟨Ag, cg, rfl, hgc, hgr⟩ := HD.out.og.reads
      obtain ⟨Be, de, rfl, hec, her⟩ := (show PkO _ _ _ _ _ from HD.out.oe).reads
      have HIB := hid (show IbR wr (.agg #[.slice Ag s.g.length cg, .slice Be s.e.length de]) s from HD.out.ib.r)
      clear hgc hgr hec her
      have HOK := hid (HG.out.ibOk (by rw [HLN.out]; omega))
      have HSL := hid (show s.g.length ≤ 1048576 ∧ s.e.length ≤ 1048576 by have := ibOk_len HOK.out; omega)
      have k0 := (blk_cell HD.out.bx 0).trans (show _ = some (Value.slice Ag s.g.length cg) from rfl)
      have k1 := (blk_cell HD.out.bx 1).trans (show _ = some (Value.slice Be s.e.length de) from rfl)
      have v0 := (blk_cell ((HD.out.bw.out.block _ (blk_lt HV2.out)).trans HV2.out) 0).trans (show _ = some (Value.slice A n c) from rfl)
      by_cases hlt : j < m
      · have t1 : decide ((j : Int) < (m : Int)) = true := decide_eq_true (by omega)
        obtain ⟨asc, rfl, hsj⟩ := (HS.out.to (HB2.out.trans HD.out.bw)).nat j hlt
        obtain ⟨x, hx⟩ : ∃ x, rd sc (j : Int) = x := ⟨_, rfl⟩
        have hx1 := HALL.out j hlt
        rw [hx] at hsj hx1
        have i1 : (0 : Int) ≤ (j : Int) := by omega
        have i2 : (j : Int) < (m : Int) := by omega
        have e1 : IntKind.i64.wrap ((j : Int) + 1) = (j : Int) + 1 := i64w (by omega) (by omega)
        have hkk := hid (show j + 1 ≤ m ∧ m - (j + 1) < m - j by clear e1; omega)
        obtain ⟨xn, rfl⟩ := Int.eq_ofNat_of_zero_le hx1
        have HSU := hid (show sentS l sc (j + 1) = sendN l s xn by rw [sent_succ l sc j xn hx, ← HE.out])
        have hx0 : (xn : Int) ≤ 9223372036854775807 := by rw [← hx]; exact (HWF.out _ (rd_mem (by rw [HSN.out]; exact hlt))).2
        clear hx hx1
        go_upto_region 8 with fail
        obtain ⟨qn, hqn⟩ : ∃ qn, xn / 2 = qn := ⟨_, rfl⟩
        have hqi : (xn : Int) / 2 = (qn : Int) := by omega
        rw [hqi]
        clear hqi hx0
        have no : ¬ (xn % 2 = 0 ∧ xn / 2 < l.length) → sentS l sc (j + 1) = s := fun h => by rw [HSU.out, send_no h]
        have NO := hid no
        clear no
        by_cases hql : qn < n
        case neg =>
          have t4 : decide ((qn : Int) < (n : Int)) = false := decide_eq_false (by clear e1; omega)
          have t4' : decide (qn < n) = false := decide_eq_false hql
          have HEN := hid (show s = sentS l sc (j + 1) from (NO.out fun h => hql (by have := h.2; have := HLN.out; clear e1; omega)).symm)
          clear hqn hql
          go_wp2
          go_roundw
          case rel => exact ⟨j + 1, _, _, _, hkk.out.1, by go_num, HD, HEN⟩
          case measure => simp [RowKit.intOf]; have := hkk.out; clear e1; omega
        have t4 : decide ((qn : Int) < (n : Int)) = true := decide_eq_true (by clear e1; omega)
        have t4' : decide (qn < n) = true := decide_eq_true hql
        by_cases hpar : xn % 2 = 0
        case neg =>
          have t3 : ((xn : Int) % 2 == 0) = false := by simp; omega
          have t3' : (xn % 2 == 0) = false := by simp; omega
          have HEN := hid (show s = sentS l sc (j + 1) from (NO.out fun h => hpar h.1).symm)
          clear hpar hqn hql
          go_wp2
          go_roundw
          case rel => exact ⟨j + 1, _, _, _, hkk.out.1, by go_num, HD, HEN⟩
          case measure => simp [RowKit.intOf]; have := hkk.out; clear e1; omega
        have t3 : ((xn : Int) % 2 == 0) = true := by simp; omega
        have t3' : (xn % 2 == 0) = true := by simp; omega
        obtain ⟨al, rfl, hlq⟩ := (HL.out.to (HB2.out.trans HD.out.bw)).nat qn hql
        obtain ⟨R, hR⟩ : ∃ R, delS s ⟨(qn : Int), rd l (qn : Int)⟩ = R := ⟨_, rfl⟩
        have HR := hid hR
        have HEN := hid (show R = sentS l sc (j + 1) by rw [HSU.out, send_yes hpar hqn (by rw [HLN.out]; exact hql), hR])
        have j1 : (0 : Int) ≤ (qn : Int) := by clear e1; omega
        have j2 : (qn : Int) < (n : Int) := by clear e1; omega
        clear hR hpar hqn hql
        generalize rd l (qn : Int) = y at *
        go_upto_region 9 with fail
        refine start_ (n := 9) (S := fun w' => w'.cell? ⟨XB, 0, none⟩ = some (.slice Ag s.g.length cg) ∧ w'.cell? ⟨XB, 1, none⟩ = some (.slice Be s.e.length de) ∧ w'.cell? ⟨w.heap.size, 0, none⟩ = some (.slice (some al) n c) ∧ w'.cell? (al.add qn) = some (.int .i64 y)) (ds := [8]) #[false, false, false, false, false, false, false, false, false] (by kernel_rfl) rfl rfl ⟨k0, k1, v0, hlq⟩ (fun hHeld => ?_)
        refine take_ (i := 0) (N := (some 44)) (v := ?_) (a' := ?_) #[true, false, false, false, false, false, false, false, false] rfl rfl (by kernel_rfl) (fun _ _ _ h => h) (Or.inl ⟨by rfl, ?_⟩) hHeld ?_ ?_
        rotate_left
        · rintro w' ⟨s0, s1, s2, s3⟩
          go_simp
          with_reducible rfl
        rotate_left
        · simp only [Act.put, List.setIfInBounds_toArray, List.set_cons_zero, List.set_cons_succ, i64_w, i32_w]
          rfl
        refine pure_ (i := 1) (N := (some 45)) (v := ?_) (a' := ?_) #[true, true, false, false, false, false, false, false, false] rfl rfl (by kernel_rfl) (fun _ _ _ h => h) (Or.inl ⟨by rfl, ?_⟩) ?_ ?_
        rotate_left
        · intro w'
          go_simp
          with_reducible rfl
        rotate_left
        · simp only [Act.put, List.setIfInBounds_toArray, List.set_cons_zero, List.set_cons_succ, i64_w, i32_w]
          rfl
        refine take_ (i := 2) (N := (some 46)) (v := ?_) (a' := ?_) #[true, true, true, false, false, false, false, false, false] rfl rfl (by kernel_rfl) (fun _ _ _ h => h) (Or.inl ⟨by rfl, ?_⟩) hHeld ?_ ?_
        rotate_left
        · rintro w' ⟨s0, s1, s2, s3⟩
          go_simp
          with_reducible rfl
        rotate_left
        · simp only [Act.put, List.setIfInBounds_toArray, List.set_cons_zero, List.set_cons_succ, i64_w, i32_w]
          rfl
        refine pure_ (i := 3) (N := (some 47)) (v := ?_) (a' := ?_) #[true, true, true, true, false, false, false, false, false] rfl rfl (by kernel_rfl) (fun _ _ _ h => h) (Or.inl ⟨by rfl, ?_⟩) ?_ ?_
        rotate_left
        · intro w'
          go_simp
          with_reducible rfl
        rotate_left
        · simp only [Act.put, List.setIfInBounds_toArray, List.set_cons_zero, List.set_cons_succ, i64_w, i32_w]
          rfl
        refine pure_ (i := 4) (N := (some 48)) (v := ?_) (a' := ?_) #[true, true, true, true, true, false, false, false, false] rfl rfl (by kernel_rfl) (fun _ _ _ h => h) (Or.inl ⟨by rfl, ?_⟩) ?_ ?_
        rotate_left
        · intro w'
          go_simp
          with_reducible rfl
        rotate_left
        · simp only [Act.put, List.setIfInBounds_toArray, List.set_cons_zero, List.set_cons_succ, i64_w, i32_w]
          rfl
        refine take_ (i := 5) (N := (some 49)) (v := ?_) (a' := ?_) #[true, true, true, true, true, true, false, false, false] rfl rfl (by kernel_rfl) (fun _ _ _ h => h) (Or.inl ⟨by rfl, ?_⟩) hHeld ?_ ?_
        rotate_left
        · rintro w' ⟨s0, s1, s2, s3⟩
          go_simp
          with_reducible rfl
        rotate_left
        · simp only [Act.put, List.setIfInBounds_toArray, List.set_cons_zero, List.set_cons_succ, i64_w, i32_w]
          rfl
        refine pure_ (i := 6) (N := (some 50)) (v := ?_) (a' := ?_) #[true, true, true, true, true, true, true, false, false] rfl rfl (by kernel_rfl) (fun _ _ _ h => h) (Or.inl ⟨by rfl, ?_⟩) ?_ ?_
        rotate_left
        · intro w'
          go_simp
          with_reducible rfl
        rotate_left
        · simp only [Act.put, List.setIfInBounds_toArray, List.set_cons_zero, List.set_cons_succ, i64_w, i32_w]
          rfl
        clear hHeld
        have bD := Bw.drawn (a := wr) ⟨⟨1, rfl⟩⟩
        refine one_ (i := 7) (N := (some 51)) #[true, true, true, true, true, true, true, true, false] rfl rfl (by kernel_rfl) (by decide) (fun K hK => ?_)
        refine goes_ Try.func11 (by kernel_rfl) rfl #[.agg #[.slice Ag s.g.length cg, .slice Be s.e.length de], .agg #[.int .i64 (qn : Int), .int .i64 y]] (by rfl) rfl rfl (by (try simp only [List.map_toArray, List.map_cons, List.map_nil]); first | done | rfl) ?_
        refine (impl_Del _ s (qn : Int) y R _ (HIB.out.to bD) HSL.out HR.out).mono ?_
        rintro e wa ⟨X, yX, U, vU, rfl, oA, ba⟩
        refine ⟨_, rfl, ?_⟩
        have bA := bD.trans ba
        clear ba bD
        refine hK.out _ _ ⟨pw_cell_below bA.out k0, pw_cell_below bA.out k1, pw_cell_below bA.out v0, pw_cell_below bA.out hlq⟩ (fun _ => ?_)
        clear hK K
        refine norm_ (a' := ?_) ?_ ?_
        rotate_left
        · show Act.put _ (some 51) _ = _
          simp only [Act.put, List.setIfInBounds_toArray, List.set_cons_zero, List.set_cons_succ, i64_w, i32_w]
          rfl
        have HDN := hid (HD.out.next bA oA (show w2.heap.size ≤ wr.heap.size from HD.out.bw.size))
        have hbx_ := (bA.out.block _ (blk_lt HD.out.bx)).trans HD.out.bx
        have HBA := hid bA
        have HWX := hid (show Wi wa ((wa.setCell ⟨XB, 0, none⟩ (.slice X R.g.length yX)).setCell ⟨XB, 1, none⟩ (.slice U R.e.length vU)) XB (XB + 1) from ((Wi.refl wa _ _).trans (Wi.set1 _ _ 0 _)).trans (Wi.set1 _ _ 1 _))
        have HBXA := hid hbx_
        have hs0_ := pw_cell_below bA.out k0
        have hs1_ := pw_cell_below bA.out k1
        have hf0_ := blk_frozen hbx_ 0
        have hf1_ := blk_frozen hbx_ 1
        clear oA hbx_ bA
        refine last_ (i := 8) (N := none) #[true, true, true, true, true, true, true, true, true] rfl rfl (by kernel_rfl) (by decide) (fun K hK => ?_)
        refine skip_ (w1 := ?_) (by rfl) rfl ?_ ?_
        rotate_left
        · go_simp
          rfl
        refine hK.out _ _ ?_
        clear hK K hs0_ hs1_ hf0_ hf1_ k0 k1
        refine done_ (by kernel_rfl) ?_
        generalize ((wa.setCell ⟨XB, 0, none⟩ (.slice X R.g.length yX)).setCell ⟨XB, 1, none⟩ (.slice U R.e.length vU)) = W7 at *
        go_wp2
        go_roundw
        case rel => exact ⟨j + 1, _, _, R, hkk.out.1, by go_num, HDN, HEN⟩
        case measure => simp [RowKit.intOf]; have := hkk.out; clear e1; omega
      · obtain rfl : m = j := by omega
        have t1 : decide ((m : Int) < (m : Int)) = false := decide_eq_false (by omega)
        obtain ⟨Z, hZ⟩ : ∃ Z, exR l l.length (sentS l sc sc.length) 0 = Z := ⟨_, rfl⟩
        have hxs : exS l sc = (Z.1.g, (Z.2 : Int)) := by rw [exS, if_pos HOKX.out, hZ]
        have HXS := hid hxs
        have hz := exR_facts (vs := l) (by rw [HLN.out]; omega) l.length (sentS l sc sc.length) 0 (good_sent l sc (by rw [HLN.out]; omega) _) (by omega)
        rw [hZ] at hz
        rw [HSN.out, ← HE.out] at hZ hz
        have HZB := hid (show Z.2 ≤ 100 by have := hz.2.2.2; have := HLN.out; omega)
        have HRUN := hid (show ∃ f, l.length - s.g.length ≤ f ∧ exR l f s 0 = Z from ⟨_, by omega, hZ⟩)
        clear hz hZ hxs k0 k1 v0
        go_wp2
        refine wp_loop (fun a' w' => ∃ (rr : Nat) (Ds : List Nat) (vg ve : Value) (s0 : Ib) (u0 u1 u3 u4 u5 u7 u8 u9 u11 u12 u13 u14 u15 u16 u17 u18 u19 u20 u21 u22 u23 u24 u25 u26 u27 u28 u29 u30 u31 u32 u33 u34 u35 u36 u37 u38 u39 u40 u41 u42 u43 u44 u45 u46 u47 u48 u49 u50 u51 u52 u53 u54 u55 u56 u57 u58 u59 u60 u61 u62 u63 u64 u65 u66 u67 u68 u69 u70 u71 u72 u73 u74 u75 u76 : Value), a' = { tmps := #[u0, u1, .pointer (some ⟨w.heap.size, 0, none⟩), u3, u4, u5, .pointer (some ⟨XB, 0, none⟩), u7, u8, u9, .int .i64 (rr : Int), u11, u12, u13, u14, u15, u16, u17, u18, u19, u20, u21, u22, u23, u24, u25, u26, u27, u28, u29, u30, u31, u32, u33, u34, u35, u36, u37, u38, u39, u40, u41, u42, u43, u44, u45, u46, u47, u48, u49, u50, u51, u52, u53, u54, u55, u56, u57, u58, u59, u60, u61, u62, u63, u64, u65, u66, u67, u68, u69, u70, u71, u72, u73, u74, u75, u76], defers := Ds.map mkD } ∧ Hid (DlS w2 w' XB vg ve s0) ∧ Hid (Good l s0) ∧ Hid (∃ f, l.length - s0.g.length ≤ f ∧ exR l f s0 rr = Z) ∧ Hid (Ds.Nodup ∧ (∀ D ∈ Ds, w2.heap.size ≤ D ∧ w'.heap[D]? = some (.deferred (some []))))) (fun _ w' => 200 - sliceLen1 (w'.cell? ⟨XB, 0, none⟩)) ?_ ?_
        · exact ⟨0, [], _, _, s, _, _, _, _, _, _, _, _, _, _, _, _, _, _, _, _, _, _, _, _, _, _, _, _, _, _, _, _, _, _, _, _, _, _, _, _, _, _, _, _, _, _, _, _, _, _, _, _, _, _, _, _, _, _, _, _, _, _, _, _, _, _, _, _, _, _, _, _, _, _, _, _, _, _, rfl, HD, HG, HRUN, hid ⟨List.nodup_nil, fun D h => by cases h⟩⟩
        clear HD HG HRUN HIB HOK HSL HE
        rintro a' wr ⟨rr, Ds, vg, ve, s0, u0, u1, u3, u4, u5, u7, u8, u9, u11, u12, u13, u14, u15, u16, u17, u18, u19, u20, u21, u22, u23, u24, u25, u26, u27, u28, u29, u30, u31, u32, u33, u34, u35, u36, u37, u38, u39, u40, u41, u42, u43, u44, u45, u46, u47, u48, u49, u50, u51, u52, u53, u54, u55, u56, u57, u58, u59, u60, u61, u62, u63, u64, u65, u66, u67, u68, u69, u70, u71, u72, u73, u74, u75, u76, rfl, HD, HG, HRUN, HM⟩
        have hgl := HG.out.gl
        rw [HLN.out] at hgl
        have hrr : rr ≤ 100 := by
          obtain ⟨f, h1, h2⟩ := HRUN.out
          have := (exR_facts (vs := l) (by rw [HLN.out]; omega) f s0 rr HG.out h1).2.2.1
          rw [h2] at this
          exact Nat.le_trans this HZB.out
        obtain ⟨Ag, cg, rfl, hgc, hgr⟩ := HD.out.og.reads
        obtain ⟨Be, de, rfl, hec, her⟩ := (show PkO _ _ _ _ _ from HD.out.oe).reads
        have HIB := hid (show IbR wr (.agg #[.slice Ag s0.g.length cg, .slice Be s0.e.length de]) s0 from HD.out.ib.r)
        clear hgc hgr hec her
        have HOK := hid (HG.out.ibOk (by rw [HLN.out]; omega))
        have k0 := (blk_cell HD.out.bx 0).trans (show _ = some (Value.slice Ag s0.g.length cg) from rfl)
        have k1 := (blk_cell HD.out.bx 1).trans (show _ = some (Value.slice Be s0.e.length de) from rfl)
        have v0 := (blk_cell ((HD.out.bw.out.block _ (blk_lt HV2.out)).trans HV2.out) 0).trans (show _ = some (Value.slice A n c) from rfl)
        go_wp2_with fail
        refine (impl_missing _ s0 (n : Int) _ HIB.out HOK.out (by omega)).mono ?_
        rintro e w3 ⟨v, rfl, o3, b3⟩
        have HD3 := hid (HD.out.to b3)
        have HM3 := hid (show Ds.Nodup ∧ (∀ D ∈ Ds, w2.heap.size ≤ D ∧ w3.heap[D]? = some (.deferred (some []))) from ⟨HM.out.1, fun D h => ⟨(HM.out.2 D h).1, (b3.out.block D (Array.getElem?_eq_some_iff.1 (HM.out.2 D h).2).1).trans (HM.out.2 D h).2⟩⟩)
        replace k0 := pw_cell_below b3.out k0
        replace k1 := pw_cell_below b3.out k1
        replace v0 := pw_cell_below b3.out v0
        have HB3 := hid b3
        clear b3
        by_cases hsl : s0.g.length < n
        case neg =>
          have hmn := mis_none (n := n) hsl
          rw [hmn] at o3
          obtain ⟨Xm, ym, rfl, _⟩ := o3.reads
          have HZE := hid (show Z = (s0, rr) by
            obtain ⟨f, h1, h2⟩ := HRUN.out
            rw [← h2, exR_end (by rw [HLN.out]; exact hsl)])
          have HOG := hid (show OI w3 w2.heap.size (.slice Ag s0.g.length cg) s0.g.length s0.g from ⟨HD3.out.og.out⟩)
          clear hmn hsl o3
          have t1 : ((0 : Int) == 0) = true := by decide
          go_wp2
          refine leave_marks Ds _ HM3.out.1 (fun D h => (HM3.out.2 D h).2) (fun w' hw => ?_)
          exact ⟨.tuple #[.slice Ag s0.g.length cg, .int .i64 (rr : Int)], by simp [results, Try.results21, go_sem], _, by rw [HXS.out, HZE.out], by rw [HXS.out, HZE.out]; exact (HOG.out.putM hw (fun D h => (HM3.out.2 D h).2)).base HB2.out.size, ⟨(HB2.out.trans HD3.out.bw).out.trans (hw.below _ (fun D h => Nat.le_trans HB2.out.size (HM3.out.2 D h).1) (HB2.out.trans HD3.out.bw).size)⟩⟩
        obtain ⟨L0, hL0⟩ := mis_some HG.out (by rw [HLN.out]; exact hsl)
        rw [HLN.out] at hL0
        have hmi := mis_in HG.out
        rw [HLN.out] at hmi
        have hk1 := misF_len s0.e (n - s0.g.length) s0.g.length
        rw [← misS_nat] at hk1
        obtain ⟨K, hK⟩ : ∃ K, (misS s0 (n : Int)).length = K := ⟨_, rfl⟩
        have hK0 : 0 < K := by rw [← hK, hL0]; simp
        obtain ⟨L, hL⟩ : ∃ L, misS s0 (n : Int) = L := ⟨_, rfl⟩
        rw [hL] at hmi hk1 hK o3
        rw [hK] at hk1 o3
        have hk2 : K ≤ 1000 := by omega
        have hro : roundS l s0 = (L.drop (K - K)).foldr (stepB l) s0 := by rw [roundS, HLN.out, hL, Nat.sub_self, List.drop_zero]
        have hru := round_up HG.out (by rw [HLN.out]; omega) (by rw [HLN.out]; exact hsl)
        have HRU := hid hru
        have HRO := hid hro
        have HMI := hid hmi
        have HKK := hid hK
        have hms : sliceLen1 (wr.cell? ⟨XB, 0, none⟩) = s0.g.length := by rw [blk_cell HD.out.bx 0]; rfl
        have HMS := hid hms
        have HRN := hid (show ∃ f, l.length - (roundS l s0).g.length ≤ f ∧ exR l f (roundS l s0) (rr + 1) = Z by
          obtain ⟨f, h1, h2⟩ := HRUN.out
          have hl := HLN.out
          cases f with
          | zero => omega
          | succ f =>
            rw [exR, if_pos (by rw [HLN.out]; exact hsl)] at h2
            exact ⟨f, by have := hru.2; omega, h2⟩)
        have ho := o3.out.2
        have HO3 := hid o3
        rcases ho with ⟨rfl, h0⟩ | ⟨g, cap, cur, rfl, hg0, hgk, hnc, hcm, _, _⟩
        · omega
        have HRI := hid (show RI w3 (some ⟨g, 0, none⟩) K L from by
          obtain ⟨_, _, e9, r9⟩ := HO3.out.reads
          cases e9
          exact r9)
        have HGK := hid hgk
        have hgX : g ≠ XB := fun e => by
          subst e
          rw [HD3.out.bx] at hgk
          have h9 := Option.some.inj hgk
          injection h9 with _ h10
          exact absurd h10 (by decide)
        have hg3 : g < w3.heap.size := blk_lt hgk
        have HGN := hid hgX
        have HG3 := hid hg3
        have HK0 := hid hK0
        have HK2 := hid hk2
        have HHL := hid (show (K : Int) ≠ 0 ∧ K ≠ 0 by omega)
        clear hgX hg3 hgk hg0 hL0 hL hmi hk1 hK hro hru hms o3 hsl hgl
        have t1 : ((K : Int) == 0) = false := by have := HHL.out.1; simp; omega
        have t1' : ¬ K = 0 := HHL.out.2
        have e1 : IntKind.i64.wrap ((rr : Int) + 1) = (rr : Int) + 1 := i64w (by omega) (by omega)
        go_wp2_with fail
        refine (Backward (some ⟨g, 0, none⟩) K cap _).mono ?_
        rintro e wb ⟨rfl, rfl⟩
        go_wp2
        have bB := Bw.box1 w3 (.cells #[.slice (some ⟨g, 0, none⟩) K cap] 22)
        have HBX := hid (show Boxed (w3.alloc (.cells #[.slice (some ⟨g, 0, none⟩) K cap] 22)) w3.heap.size 22 (.slice (some ⟨g, 0, none⟩) K cap) from heap_alloc_new w3 (.cells #[.slice (some ⟨g, 0, none⟩) K cap] 22 (0, 0)))
        have HDB := hid (HD3.out.to bB)
        have HRB := hid (HRI.out.to bB)
        have HMB := hid (show ∀ D ∈ Ds, (w3.alloc (.cells #[.slice (some ⟨g, 0, none⟩) K cap] 22)).heap[D]? = some (.deferred (some [])) from fun D h => (bB.out.block D (Array.getElem?_eq_some_iff.1 (HM3.out.2 D h).2).1).trans (HM3.out.2 D h).2)
        have hBB : w3.heap.size < (w3.alloc (.cells #[.slice (some ⟨g, 0, none⟩) K cap] 22)).heap.size := by simp
        have hX3 : XB < w3.heap.size := blk_lt HD3.out.bx
        have hg3 := HG3.out
        have hgX := HGN.out
        generalize (w3.alloc (.cells #[.slice (some ⟨g, 0, none⟩) K cap] 22)) = WB at *
        have hgB : g < WB.heap.size := by clear e1; omega
        have hDB : ∀ D ∈ Ds, D < WB.heap.size := fun D h => (Array.getElem?_eq_some_iff.1 (HMB.out D h)).1
        have hW2 : w2.heap.size ≤ WB.heap.size := HDB.out.bw.size
        have HE1 := hid e1
        clear e1 k0 k1 v0 bB t1 HIB HOK
        refine (wpIn_wide (n := 9)).1 ?_
        refine wpIn_rangeFunc_ownF (n := 9) rfl (by omega) (gf := 56) (lb := #[.pointer (some ⟨w3.heap.size, 0, none⟩)]) rfl trivial (enters_of Try.func56 (by kernel_rfl) rfl) (bk_stops 8 (by omega) w3.heap.size w2.heap.size g K cap L HK2.out WB HRB.out hgB hBB HBX.out) BkKeep.trans
          (fun W l_ o o' hl h1 h2 h3 => ⟨belowK_b (w := WB) hW2 W l_ o o' hl h1 h2 h3, World.putObj_heap_other (by omega), World.putObj_heap_other (by omega)⟩) (Below.refl _ _) (fun _ => rfl)
          (fun pre W => (∃ vg ve s, DlS w2 W XB vg ve s ∧ Good l s ∧ s = bkS l L s0 pre) ∧ (∀ D ∈ Ds, W.heap[D]? = some (.deferred (some []))) ∧ WB.heap.size ≤ W.heap.size) (fun _ _ _ => False)
          (fun pre W W' row hs hg hr => ⟨by
            obtain ⟨⟨vg, ve, s, h1, h2, h3⟩, hm, hz⟩ := hs
            exact ⟨vg, ve, s, h1.grownN hg (fun r e => ⟨Nat.le_trans hW2 (hr r e).1, (hr r e).2⟩), h2, h3⟩, fun D hD => (hg.block D (Array.getElem?_eq_some_iff.1 (hs.2.1 D hD)).1 (fun e => by have := (hr D e.symm).1; have := hDB D hD; omega)).trans (hs.2.1 D hD), Nat.le_trans hs.2.2 hg.size⟩) (fun _ _ _ _ _ hs _ _ => hs)
          ⟨⟨_, _, s0, HDB.out, HG.out, rfl⟩, HMB.out, Nat.le_refl _⟩ (fun x => { tmps := #[u0, u1, .pointer (some ⟨w.heap.size, 0, none⟩), u3, u4, u5, .pointer (some ⟨XB, 0, none⟩), u7, u8, u9, .int .i64 (rr : Int), .slice (some ⟨g, 0, none⟩) K cap, u12, .int .i64 (rd L (x.1 : Int)), u14, u15, u16, u17, u18, u19, u20, u21, u22, u23, u24, u25, u26, u27, u28, u29, u30, u31, u32, u33, u34, u35, u36, u37, u38, u39, u40, u41, u42, u43, u44, u45, u46, u47, u48, u49, u50, u51, u52, u53, u54, .agg #[.slice Ag s0.g.length cg, .slice Be s0.e.length de], .slice A n c, .int .i64 (n : Int), .slice (some ⟨g, 0, none⟩) K cap, .slice (some ⟨g, 0, none⟩) K cap, .int .i64 (K : Int), .bool false, u62, u63, u64, .slice (some ⟨g, 0, none⟩) K cap, .func (.func 56) #[] #[.pointer (some ⟨w3.heap.size, 0, none⟩)], .int .i64 (x.1 : Int), .int .i64 (rd L (x.1 : Int)), u69, u70, u71, u72, u73, u74, u75, u76], defers := [] }) ?assign ?body ?done ?stop
        case assign =>
          intro l' x W K' hK
          gi_wp2
          exact hK
        case stop =>
          rintro D c_ pre W _ _ h _
          exact h.elim
        case body =>
          rintro l' pre x W ⟨⟨vg, ve, s, HD, HG, hs⟩, hm, hz⟩ hlt
          replace HD := hid HD
          replace HG := hid HG
          obtain ⟨Ag, cg, rfl, hgc, hgr⟩ := HD.out.og.reads
          obtain ⟨Be, de, rfl, hec, her⟩ := (show PkO _ _ _ _ _ from HD.out.oe).reads
          have HIB := hid (show IbR W (.agg #[.slice Ag s.g.length cg, .slice Be s.e.length de]) s from HD.out.ib.r)
          clear hgc hgr hec her
          have HOK := hid (HG.out.ibOk (by rw [HLN.out]; omega))
          have HSL := hid (show s.g.length ≤ 1048576 ∧ s.e.length ≤ 1048576 by have := ibOk_len HOK.out; omega)
          have k0 := (blk_cell HD.out.bx 0).trans (show _ = some (Value.slice Ag s.g.length cg) from rfl)
          have k1 := (blk_cell HD.out.bx 1).trans (show _ = some (Value.slice Be s.e.length de) from rfl)
          have hxl : x.1 < L.length := by rw [HKK.out]; exact x.2
          obtain ⟨kq, hkq, hkn⟩ := HMI.out (rd L (x.1 : Int)) (rd_mem hxl)
          obtain ⟨al, rfl, hlq⟩ := (HL.out.to (HB2.out.trans HD.out.bw)).nat kq hkn
          have v0 := (blk_cell ((HD.out.bw.out.block _ (blk_lt HV2.out)).trans HV2.out) 0).trans (show _ = some (Value.slice (some al) n c) from rfl)
          obtain ⟨R, hR⟩ : ∃ R, delS s ⟨(kq : Int), rd l (kq : Int)⟩ = R := ⟨_, rfl⟩
          have HR := hid hR
          have HEN := hid (show R = bkS l L s0 (pre ++ [x]) by rw [bkS_snoc, ← hs, stepB, hkq, hR])
          have HGR := hid (show Good l R by rw [← hR]; exact (good_del HG.out (by rw [HLN.out]; omega) kq (by rw [HLN.out]; exact hkn)).1)
          have j1 : (0 : Int) ≤ (kq : Int) := by omega
          have j2 : (kq : Int) < (n : Int) := by omega
          have HM := hid hm
          have HZ := hid hz
          have HWG := hid (show w3.heap.size < W.heap.size ∧ g < W.heap.size by omega)
          have HXW := hid (show w3.heap.size ≠ XB ∧ g ≠ XB from ⟨by omega, hgX⟩)
          dsimp only
          rw [hkq]
          clear hR hkq hkn hs hm hz hxl hlt hBB hX3 hg3 hgX hgB hDB hW2
          generalize rd l (kq : Int) = yv at *
          refine wpIn_block ?_
          refine startR_ (n := 9) (S := fun w' => w'.cell? ⟨XB, 0, none⟩ = some (.slice Ag s.g.length cg) ∧ w'.cell? ⟨XB, 1, none⟩ = some (.slice Be s.e.length de) ∧ w'.cell? ⟨w.heap.size, 0, none⟩ = some (.slice (some al) n c) ∧ w'.cell? (al.add kq) = some (.int .i64 yv)) (ds := [8]) #[false, false, false, false, false, false, false, false, false] (by kernel_rfl) rfl rfl (fun _ _ h => h) (by kernel_rfl) ⟨k0, k1, v0, hlq⟩ (fun hHeld => ?_)
          refine take_ (i := 0) (N := (some 69)) (v := ?_) (a' := ?_) #[true, false, false, false, false, false, false, false, false] rfl rfl (by kernel_rfl) (fun _ _ _ h => h) (Or.inl ⟨by rfl, ?_⟩) hHeld ?_ ?_
          rotate_left
          · rintro w' ⟨s0, s1, s2, s3⟩
            go_simp
            with_reducible rfl
          rotate_left
          · simp only [Act.put, List.setIfInBounds_toArray, List.set_cons_zero, List.set_cons_succ, i64_w, i32_w]
            rfl
          refine pure_ (i := 1) (N := (some 70)) (v := ?_) (a' := ?_) #[true, true, false, false, false, false, false, false, false] rfl rfl (by kernel_rfl) (fun _ _ _ h => h) (Or.inl ⟨by rfl, ?_⟩) ?_ ?_
          rotate_left
          · intro w'
            go_simp
            with_reducible rfl
          rotate_left
          · simp only [Act.put, List.setIfInBounds_toArray, List.set_cons_zero, List.set_cons_succ, i64_w, i32_w]
            rfl
          refine take_ (i := 2) (N := (some 71)) (v := ?_) (a' := ?_) #[true, true, true, false, false, false, false, false, false] rfl rfl (by kernel_rfl) (fun _ _ _ h => h) (Or.inl ⟨by rfl, ?_⟩) hHeld ?_ ?_
          rotate_left
          · rintro w' ⟨s0, s1, s2, s3⟩
            go_simp
            with_reducible rfl
          rotate_left
          · simp only [Act.put, List.setIfInBounds_toArray, List.set_cons_zero, List.set_cons_succ, i64_w, i32_w]
            rfl
          refine pure_ (i := 3) (N := (some 72)) (v := ?_) (a' := ?_) #[true, true, true, true, false, false, false, false, false] rfl rfl (by kernel_rfl) (fun _ _ _ h => h) (Or.inl ⟨by rfl, ?_⟩) ?_ ?_
          rotate_left
          · intro w'
            go_simp
            with_reducible rfl
          rotate_left
          · simp only [Act.put, List.setIfInBounds_toArray, List.set_cons_zero, List.set_cons_succ, i64_w, i32_w]
            rfl
          refine pure_ (i := 4) (N := (some 73)) (v := ?_) (a' := ?_) #[true, true, true, true, true, false, false, false, false] rfl rfl (by kernel_rfl) (fun _ _ _ h => h) (Or.inl ⟨by rfl, ?_⟩) ?_ ?_
          rotate_left
          · intro w'
            go_simp
            with_reducible rfl
          rotate_left
          · simp only [Act.put, List.setIfInBounds_toArray, List.set_cons_zero, List.set_cons_succ, i64_w, i32_w]
            rfl
          refine take_ (i := 5) (N := (some 74)) (v := ?_) (a' := ?_) #[true, true, true, true, true, true, false, false, false] rfl rfl (by kernel_rfl) (fun _ _ _ h => h) (Or.inl ⟨by rfl, ?_⟩) hHeld ?_ ?_
          rotate_left
          · rintro w' ⟨s0, s1, s2, s3⟩
            go_simp
            with_reducible rfl
          rotate_left
          · simp only [Act.put, List.setIfInBounds_toArray, List.set_cons_zero, List.set_cons_succ, i64_w, i32_w]
            rfl
          refine pure_ (i := 6) (N := (some 75)) (v := ?_) (a' := ?_) #[true, true, true, true, true, true, true, false, false] rfl rfl (by kernel_rfl) (fun _ _ _ h => h) (Or.inl ⟨by rfl, ?_⟩) ?_ ?_
          rotate_left
          · intro w'
            go_simp
            with_reducible rfl
          rotate_left
          · simp only [Act.put, List.setIfInBounds_toArray, List.set_cons_zero, List.set_cons_succ, i64_w, i32_w]
            rfl
          clear hHeld
          have bD := Bw.drawn (a := W) ⟨⟨1, rfl⟩⟩
          refine one_ (i := 7) (N := (some 76)) #[true, true, true, true, true, true, true, true, false] rfl rfl (by kernel_rfl) (by decide) (fun K hK => ?_)
          refine goes_ Try.func11 (by kernel_rfl) rfl #[.agg #[.slice Ag s.g.length cg, .slice Be s.e.length de], .agg #[.int .i64 (kq : Int), .int .i64 yv]] (by rfl) rfl rfl (by (try simp only [List.map_toArray, List.map_cons, List.map_nil]); first | done | rfl) ?_
          refine (impl_Del _ s (kq : Int) yv R _ (HIB.out.to bD) HSL.out HR.out).mono ?_
          rintro e wa ⟨X, yX, U, vU, rfl, oA, ba⟩
          refine ⟨_, rfl, ?_⟩
          have bA := bD.trans ba
          clear ba bD
          refine hK.out _ _ ⟨pw_cell_below bA.out k0, pw_cell_below bA.out k1, pw_cell_below bA.out v0, pw_cell_below bA.out hlq⟩ (fun _ => ?_)
          clear hK K
          refine norm_ (a' := ?_) ?_ ?_
          rotate_left
          · show Act.put _ (some 76) _ = _
            simp only [Act.put, List.setIfInBounds_toArray, List.set_cons_zero, List.set_cons_succ, i64_w, i32_w]
            rfl
          have HDN := hid (HD.out.next bA oA (show w2.heap.size ≤ W.heap.size from HD.out.bw.size))
          have hbx_ := (bA.out.block _ (blk_lt HD.out.bx)).trans HD.out.bx
          have HBA := hid bA
          have HWX := hid (show Wi wa ((wa.setCell ⟨XB, 0, none⟩ (.slice X R.g.length yX)).setCell ⟨XB, 1, none⟩ (.slice U R.e.length vU)) XB (XB + 1) from ((Wi.refl wa _ _).trans (Wi.set1 _ _ 0 _)).trans (Wi.set1 _ _ 1 _))
          have HKO := hid (show KeepsOthers W ((wa.setCell ⟨XB, 0, none⟩ (.slice X R.g.length yX)).setCell ⟨XB, 1, none⟩ (.slice U R.e.length vU)) from ((KeepsOthers.of_grownBy (grown_of_below bA.out none) (fun j o e => by cases e)).trans (KeepsOthers.setCell _ _ _)).trans (KeepsOthers.setCell _ _ _))
          have hs0_ := pw_cell_below bA.out k0
          have hs1_ := pw_cell_below bA.out k1
          have hf0_ := blk_frozen hbx_ 0
          have hf1_ := blk_frozen hbx_ 1
          clear oA hbx_ bA
          refine last_ (i := 8) (N := none) #[true, true, true, true, true, true, true, true, true] rfl rfl (by kernel_rfl) (by decide) (fun K hK => ?_)
          refine skip_ (w1 := ?_) (by rfl) rfl ?_ ?_
          rotate_left
          · go_simp
            rfl
          refine hK.out _ _ ?_
          clear hK K hs0_ hs1_ hf0_ hf1_ k0 k1 v0 hlq
          refine done_ (by kernel_rfl) ?_
          exact ⟨HKO.out, ⟨keepX HBA.out HWX.out HD.out.lo HD.out.bw.size, keepB HBA.out HWX.out HXW.out.1 HWG.out.1, keepB HBA.out HWX.out HXW.out.2 HWG.out.2⟩, ⟨_, _, R, HDN.out, HGR.out, HEN.out⟩, fun D hD => (keepB HBA.out HWX.out (fun e => by have h8 := HM.out D hD; rw [e, HD.out.bx] at h8; cases h8) (Array.getElem?_eq_some_iff.1 (HM.out D hD)).1).trans (HM.out D hD), Nat.le_trans HZ.out (Nat.le_trans HBA.out.size HWX.out.size)⟩
        case done =>
          rintro D ys W hD rfl ⟨⟨vg, ve, s, HD, HG, hs⟩, hm, hz⟩ hK
          rw [bkS_to l L s0 HKK.out K (Nat.le_refl _), ← HRO.out] at hs
          have e1 := HE1.out
          replace HD := hid HD
          replace HG := hid HG
          have HSR := hid hs
          have hgl2 := HG.out.gl
          rw [HLN.out] at hgl2
          have HGL2 := hid hgl2
          have hm9 : sliceLen1 (W.cell? ⟨XB, 0, none⟩) = s.g.length := by
            obtain ⟨Ag, cg, e9, _, _⟩ := HD.out.og.reads
            rw [blk_cell HD.out.bx 0, e9]
            rfl
          have HM9 := hid hm9
          have HMD := hid (show (D :: Ds).Nodup ∧ (∀ D' ∈ D :: Ds, w2.heap.size ≤ D' ∧ W.heap[D']? = some (.deferred (some []))) from ⟨List.nodup_cons.2 ⟨fun h => by have := hDB D h; omega, HM3.out.1⟩, fun D' h => by
            rcases List.mem_cons.1 h with rfl | h
            · exact ⟨by omega, hK⟩
            · exact ⟨(HM3.out.2 D' h).1, hm D' h⟩⟩)
          clear hs hm hz hm9 hgl2 hK
          go_wp2
          clear e1
          exact ⟨⟨rr + 1, D :: Ds, vg, ve, s, _, _, _, _, _, _, _, _, _, _, _, _, _, _, _, _, _, _, _, _, _, _, _, _, _, _, _, _, _, _, _, _, _, _, _, _, _, _, _, _, _, _, _, _, _, _, _, _, _, _, _, _, _, _, _, _, _, _, _, _, _, _, _, _, _, _, _, _, _, _, _, _, _, _, rfl, HD, HG, by rw [HSR.out]; exact HRN, HMD⟩, by
            rw [HMS.out, HM9.out]
            have h8 := HRU.out.2
            have h9 := HGL2.out
            rw [← HSR.out] at h8
            omega⟩
end Go.Proofs.Ytcdibjneoemidaa.U

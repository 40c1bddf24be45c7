
/- coarse of the program: the means of pairs. -/
import Derived.Maps.AppendAt
import Derived.Test.YtpnciejalcdgeaaCk
set_option linter.unusedVariables false
set_option linter.unusedSimpArgs false
namespace Go.Proofs.Ytpnciejalcdgeaa.U
open Go.RowKit Go.Lib Go.Shelf Go.Proofs.YtpnciejalcdgeaaW.PrintWords
attribute [local go_sem] Oper.semAt_some
attribute [local go_sem] go_max2 go_min2

theorem ck_stops (n : Nat) (hn : 1 ≤ n) (B n₀ : Nat) (ad : Addr) (len cap : Nat) (hlc : len ≤ cap) (hl64 : len ≤ 64) (w : World) (hB : B + 1 < w.heap.size) (hB1 : Boxed w B 24 (.slice (some ad) len cap)) (hB2 : Boxed w (B + 1) 3 (.int .i64 2)) :
    SeqStopsK Fence.wide n Try.prog 66 #[.pointer (some ⟨B, 0, none⟩), .pointer (some ⟨B + 1, 0, none⟩)] (fun x : Ck len => #[ckV ad len x.1]) (CkKeep n₀ B) (fun ys => ys = ckTo len ((len + 1) / 2)) (fun _ => True) 64 w := fun l J Jx W hW hJ _ hY h0 => by
  refine chunk1_in Fence.wide n trivial rfl hn l B n₀ ad len cap hlc hl64 J Jx hY W (fun s A hs => hJ s A _ none hs ?_ (fun r e => by cases e)) ((hW.block B (by omega)).trans hB1) ((hW.block (B + 1) hB).trans hB2) h0
  exact ⟨rfl, rfl, rfl, Nat.le_refl _, fun k _ _ => rfl⟩
set_option maxHeartbeats 1000000 in
theorem Chunk (A : Option Addr) (n c : Nat) (w : World) :
    Calls Try.prog 51 #[.slice A n c, .int .i64 2] w fun e w' => e = .returned (.func (.func 66) #[] #[.pointer (some ⟨w.heap.size, 0, none⟩), .pointer (some ⟨w.heap.size + 1, 0, none⟩)]) ∧ w' = (w.alloc (.cells #[.slice A n c] 24)).alloc (.cells #[.int .i64 2] 3) := by
  go_enter Try.func51, Try.ntmps51
  go_wp2
  go_ret
  exact ⟨rfl, rfl⟩
/-- the mean of pair k -/
def meanAt (l : List Int) (n k : Nat) : Int := if 2 * k + 1 < n then (rd l ((2 * k : Nat) : Int) + rd l ((2 * k + 1 : Nat) : Int)) / 2 else rd l ((2 * k : Nat) : Int)
def meansL (l : List Int) (n : Nat) (xs : List (Ck n)) : List Int := xs.map fun x => meanAt l n x.1
theorem RI.part {w : World} {ad : Addr} {n : Nat} {l : List Int} (r : RI w (some ad) n l) (i E : Nat) (h : i + E ≤ n) (hE : 0 < E) : RI w (some (ad.add i)) E ((l.drop i).take E) := ⟨by
  obtain ⟨h1, h2, h3⟩ := r.out
  refine ⟨by rw [List.length_take, List.length_drop]; omega, by omega, fun _ => ⟨_, rfl, fun j hj => ?_⟩⟩
  obtain ⟨ad', e, hc⟩ := h3 (by omega)
  obtain rfl := Option.some.inj e
  rw [Addr.add_add, hc (i + j) (by omega)]
  simp [List.getD_eq_getElem?_getD, hj]⟩
theorem part_mean (l : List Int) (n k : Nat) (hl : l.length = n) (hk : 2 * k < n) : ((l.drop (2 * k)).take (ckLen n k)).sum / ((ckLen n k : Nat) : Int) = meanAt l n k ∧ ((l.drop (2 * k)).take (ckLen n k)).length = ckLen n k ∧ ∀ x ∈ (l.drop (2 * k)).take (ckLen n k), ∃ i : Nat, i < n ∧ x = rd l (i : Int) := by
  have hx : ∀ x ∈ (l.drop (2 * k)).take (ckLen n k), ∃ i : Nat, i < n ∧ x = rd l (i : Int) := fun x hx => by
    have h1 := List.mem_of_mem_drop (List.mem_of_mem_take hx)
    obtain ⟨i, hi, rfl⟩ := List.getElem_of_mem h1
    exact ⟨i, by omega, by rw [rd_nat, List.getD_eq_getElem?_getD, List.getElem?_eq_getElem hi]; rfl⟩
  have hlen : ((l.drop (2 * k)).take (ckLen n k)).length = ckLen n k := by rw [List.length_take, List.length_drop]; unfold ckLen; omega
  refine ⟨?_, hlen, hx⟩
  unfold meanAt
  have r0 : rd l ((2 * k : Nat) : Int) = l[2 * k]'(by omega) := by rw [rd_nat, List.getD_eq_getElem?_getD, List.getElem?_eq_getElem (by omega)]; rfl
  by_cases h : 2 * k + 1 < n
  · have r1 : rd l ((2 * k + 1 : Nat) : Int) = l[2 * k + 1]'(by omega) := by rw [rd_nat, List.getD_eq_getElem?_getD, List.getElem?_eq_getElem (by omega)]; rfl
    have e : ckLen n k = 2 := by unfold ckLen; omega
    have s2 : (List.take 2 (List.drop (2 * k) l)).sum = l[2 * k]'(by omega) + l[2 * k + 1]'(by omega) := by
      rw [List.drop_eq_getElem_cons (show 2 * k < l.length by omega), List.drop_eq_getElem_cons (show 2 * k + 1 < l.length by omega), List.take_succ_cons, List.take_succ_cons, List.take_zero, List.sum_cons, List.sum_cons, List.sum_nil, Int.add_zero]
    rw [if_pos h, e, r0, r1, s2]
    rfl
  · have e : ckLen n k = 1 := by unfold ckLen; omega
    have s1 : (List.take 1 (List.drop (2 * k) l)).sum = l[2 * k]'(by omega) := by
      rw [List.drop_eq_getElem_cons (show 2 * k < l.length by omega), List.take_succ_cons, List.take_zero, List.sum_cons, List.sum_nil, Int.add_zero]
    rw [if_neg h, e, r0, s1]
    exact Int.ediv_one _
/-- What is shown of a drawn region outside a round holds in a round, where no operation defers. -/
theorem any_inRound {F : Fence} {n : Nat} {P : Program} {md : Region.Mode} {ops : Array Oper} {Q : Exit → Act → World → Prop} (hro : F.round = none) (l : Nat) (hnd : ∀ (i : Nat) (o : Oper), ops[i]? = some o → ∀ c, o.op ≠ .defer c) :
    ∀ (fuel : Nat) (listed : Array Bool) (a : Act) (w : World), wpAnyIn F n P md ops Q fuel listed a w → wpAnyIn (F.inRound l) n P md ops Q fuel listed a w
  | 0, _, _, _, h => h
  | fuel + 1, listed, a, w, h => by
    refine ⟨h.1, fun i hi => ?_⟩
    have h2 := h.2 i hi
    unfold wpOpIn at h2 ⊢
    cases ho : ops[i]? with
    | none => rw [ho] at h2; exact any_inRound hro l hnd _ _ _ _ h2
    | some o =>
      rw [ho] at h2
      simp only at h2 ⊢
      split at h2
      · rename_i hw
        rw [if_pos hw]
        have h3 := Oper.wpIn_mono (K' := wpAnyIn (F.inRound l) n P md ops Q fuel (listed.setIfInBounds i true)) (fun a w h => any_inRound hro l hnd _ _ _ _ h) h2
        unfold Oper.wpIn at h3 ⊢
        refine ⟨h3.1, ?_⟩
        have h4 := h3.2
        have e : o.semAt (F.inRound l).round a.eval = o.semAt F.round a.eval := by
          rw [Oper.semAt_plain F _ _ (hnd i o ho), Oper.semAt_plain (F.inRound l) _ _ (hnd i o ho)]
        rw [e]
        generalize (o.semAt F.round a.eval).run P w = r at h4 ⊢
        cases r with
        | ok x w' => cases x <;> exact h4
        | halt x w' => cases x <;> exact h4
      · rename_i hw
        rw [if_neg hw]
        exact ⟨h2.1, any_inRound hro l hnd _ _ _ _ h2.2⟩
/-- An append at a step of a drawn region inside a fence. -/
theorem stepIn_append {F : Fence} {n : Nat} {P : Program} (w : World) {ops : Array Oper} {o : Oper} {a : Act} {K : Act → World → Prop} {Q : Exit → Act → World → Prop} {E : Prop}
    (hw : Region.wanted o (yielded ops a.tmps) = true) (s x : Operand) (t : TypeId) (hop : o.op = Op.call { callee := Callee.builtin Builtin.append, args := #[s, x], argTypes := #[t, t] })
    (base : Nat) (e : TypeId) (i : TypeInfo) (z : Value) (size bytes : Nat) (h1 : P.underlying t = some (.slice e)) (h2 : P.info? e = some i) (h3 : i.zero = some z) (h4 : i.size = size) (h5 : i.bytes = bytes) (h6 : z.cells.size = size) (h7 : 0 < size)
    (v : Value) (k : Nat) (xs : List Value) (hs : a.eval s = v) (hown : w.ownsRow base e size v k xs) (ad : Addr) (m c : Nat) (news : List Value) (hx : a.eval x = .slice (some ad) m c) (hn : news.length = m * size)
    (hc : ∀ j u, news[j]? = some u → w.cell? (ad.add j) = some u) (h1c : ∀ u ∈ news, u.oneCell' = true) (b1 : k + m ≤ maxLen) (b2 : (k + m) * bytes ≤ 140737488355328) (b3 : base ≤ w.heap.size)
    (hK : ∀ v' w', w'.ownsRow base e size v' (k + m) (xs ++ news) → w.grownBy w' v.ownBlock → (v'.ownBlock = v.ownBlock ∨ v'.ownBlock = some w.heap.size) → K (a.put o.dst v') w') :
    if Region.wanted o (yielded ops a.tmps) = true then Oper.wpIn F n P o a w K Q else E := by
  rw [if_pos hw]
  obtain ⟨v', w', hrun, r1, r2, r3, r4⟩ := run_append_own_at (P := P) w base t o.type e i z size bytes h1 h2 h3 h4 h5 h6 h7 v k xs hown ad m c news hn hc h1c b1 b2 b3
  unfold Oper.wpIn
  refine ⟨?_, ?_⟩
  · simp [Oper.about, hop, resolve, Target.leads, Sem.run_pure]
  · rw [Oper.semAt_plain F _ _ (by rw [hop]; intro c hc'; cases hc')]
    simp [execOp, hop, resolve, invoke, builtin, hs, hx, hrun, Result.andThen]
    exact hK _ _ r1 r2 r4
theorem nums_concat (l : List Int) (x : Int) : nums .i64 (l ++ [x]) = nums .i64 l ++ [.int .i64 x] := by simp [nums]
theorem meansL_concat (l : List Int) (n : Nat) (pre : List (Ck n)) (x : Ck n) : meansL l n (pre ++ [x]) = meansL l n pre ++ [meanAt l n x.1] := by simp [meansL]
set_option maxRecDepth 100000 in
set_option maxHeartbeats 8000000 in
theorem impl_coarse (ad : Addr) (n c : Nat) (l : List Int) (w : World) (r : RI w (some ad) n l) (hn : 1 ≤ n ∧ n ≤ 64) (hcap : n ≤ c) (hb : ∀ i : Nat, i < n → -4100000000000000000 ≤ rd l (i : Int) ∧ rd l (i : Int) ≤ 4100000000000000000) :
    Calls Try.prog 29 #[.slice (some ad) n c] w fun e w' => ∃ v, e = .returned v ∧ OI w' w.heap.size v ((n + 1) / 2) (meansL l n (ckTo n ((n + 1) / 2))) ∧ Bw w w' := by
  obtain ⟨i0, hi, hz0, hz1, hz2⟩ := info_parts info_int
  have HB := hid hb
  clear hb
  refine (callsIn_wide (n := 9)).1 ?_
  refine callsIn_of_wp_marks Try.func29 rfl trivial ?_ rfl
  simp only [Try.ntmps29, List.size_toArray, List.length_cons, List.length_nil, Nat.reduceAdd, Nat.reduceSub, Array.replicate_succ, Array.replicate_zero, List.push_toArray, List.append_toArray, List.nil_append, List.cons_append]
  gi_wp2
  refine ⟨trivial, (callsIn_wide.2 (Chunk _ _ _ _)).mono ?_⟩
  rintro e w' ⟨rfl, rfl⟩
  gi_wp2
  have bO : Boxed (((w.alloc (.cells #[] 3)).alloc (.cells #[.slice (some ⟨w.heap.size, 0, none⟩) 0 0] 24)).alloc (.cells #[.slice (some ad) n c] 24) |>.alloc (.cells #[.int .i64 2] 3)) (w.heap.size + 1) 24 (.slice (some ⟨w.heap.size, 0, none⟩) 0 0) := by
    have h := Boxed.new (w.alloc (.cells #[] 3)) 24 (.slice (some ⟨w.heap.size, 0, none⟩) 0 0)
    rw [World.size_alloc] at h
    exact (h.alloc _).alloc _
  have b1 : Boxed (((w.alloc (.cells #[] 3)).alloc (.cells #[.slice (some ⟨w.heap.size, 0, none⟩) 0 0] 24)).alloc (.cells #[.slice (some ad) n c] 24) |>.alloc (.cells #[.int .i64 2] 3)) (w.heap.size + 1 + 1) 24 (.slice (some ad) n c) := by
    have h := Boxed.new ((w.alloc (.cells #[] 3)).alloc (.cells #[.slice (some ⟨w.heap.size, 0, none⟩) 0 0] 24)) 24 (.slice (some ad) n c)
    rw [World.size_alloc, World.size_alloc] at h
    exact h.alloc _
  have b2 : Boxed (((w.alloc (.cells #[] 3)).alloc (.cells #[.slice (some ⟨w.heap.size, 0, none⟩) 0 0] 24)).alloc (.cells #[.slice (some ad) n c] 24) |>.alloc (.cells #[.int .i64 2] 3)) (w.heap.size + 1 + 1 + 1) 3 (.int .i64 2) := by
    have h := Boxed.new (((w.alloc (.cells #[] 3)).alloc (.cells #[.slice (some ⟨w.heap.size, 0, none⟩) 0 0] 24)).alloc (.cells #[.slice (some ad) n c] 24)) 3 (.int .i64 2)
    rw [World.size_alloc, World.size_alloc, World.size_alloc] at h
    exact h
  have hB0 : Below w.heap.size w (((w.alloc (.cells #[] 3)).alloc (.cells #[.slice (some ⟨w.heap.size, 0, none⟩) 0 0] 24)).alloc (.cells #[.slice (some ad) n c] 24) |>.alloc (.cells #[.int .i64 2] 3)) := ((((Below.refl _ w).alloc (Nat.le_refl _) _).alloc (by simp) _).alloc (by simp; omega) _).alloc (by simp; omega) _
  have hrow0 : World.ownsRow (((w.alloc (.cells #[] 3)).alloc (.cells #[.slice (some ⟨w.heap.size, 0, none⟩) 0 0] 24)).alloc (.cells #[.slice (some ad) n c] 24) |>.alloc (.cells #[.int .i64 2] 3)) w.heap.size 3 1 (.slice (some ⟨w.heap.size, 0, none⟩) 0 0) 0 [] := (((OI.lit0 w w.heap.size (Nat.le_refl _)).out.alloc _).alloc _).alloc _
  have hsz : (((w.alloc (.cells #[] 3)).alloc (.cells #[.slice (some ⟨w.heap.size, 0, none⟩) 0 0] 24)).alloc (.cells #[.slice (some ad) n c] 24) |>.alloc (.cells #[.int .i64 2] 3)).heap.size = w.heap.size + 4 := by simp
  generalize hW4 : (((w.alloc (.cells #[] 3)).alloc (.cells #[.slice (some ⟨w.heap.size, 0, none⟩) 0 0] 24)).alloc (.cells #[.slice (some ad) n c] 24) |>.alloc (.cells #[.int .i64 2] 3)) = W4 at *
  refine wpIn_rangeFunc_ownF (n := 9) rfl (by omega) (gf := 66) (lb := #[.pointer (some ⟨w.heap.size + 1 + 1, 0, none⟩), .pointer (some ⟨w.heap.size + 1 + 1 + 1, 0, none⟩)]) rfl trivial (enters_of Try.func66 (by kernel_rfl) rfl)
    (ck_stops 8 (by omega) (w.heap.size + 1 + 1) w.heap.size ad n c hcap hn.2 W4 (by omega) b1 b2) CkKeep.trans
    (fun W l_ o o' hl h1 h2 h3 => ⟨belowK_b (w := W4) (by omega) W l_ o o' hl h1 h2 h3, World.putObj_heap_other (by omega), World.putObj_heap_other (by omega)⟩) (Below.refl _ _) (fun _ => rfl)
    (fun pre W => (∃ v, Boxed W (w.heap.size + 1) 24 v ∧ W.ownsRow w.heap.size 3 1 v pre.length (nums .i64 (meansL l n pre)) ∧ (v.ownBlock ≠ some (w.heap.size + 1 + 1) ∧ v.ownBlock ≠ some (w.heap.size + 1 + 1 + 1))) ∧ (Below w.heap.size w W ∧ w.heap.size + 4 ≤ W.heap.size))
    (fun _ _ _ => False)
    (OwnFrom.and (Own.from (holdsRow_own w.heap.size (w.heap.size + 1) 24 3 1 (fun pre => pre.length) (fun pre => nums .i64 (meansL l n pre)) (fun _ v => v.ownBlock ≠ some (w.heap.size + 1 + 1) ∧ v.ownBlock ≠ some (w.heap.size + 1 + 1 + 1))) _) (OwnFrom.and (ownFrom_below (Nat.le_refl _) (by omega)) (fun _ _ _ _ h hg _ => Nat.le_trans h hg.size)))
    (fun _ _ _ _ _ hs _ _ => hs)
    ⟨⟨_, bO, hrow0, by simp [Value.ownBlock]; omega, by simp [Value.ownBlock]; omega⟩, hB0, by omega⟩
    (fun x => { tmps := #[.slice (some ad) n c, undef, .slice none 0 0, .pointer (some ⟨w.heap.size + 1, 0, none⟩), .slice (some (ad.add (2 * x.1))) (ckLen n x.1) (ckLen n x.1), .slice (some ⟨w.heap.size, 0, none⟩) 0 0, .slice (some ad) n c, .func (.func 66) #[] #[.pointer (some ⟨w.heap.size + 1 + 1, 0, none⟩), .pointer (some ⟨w.heap.size + 1 + 1 + 1, 0, none⟩)], .slice (some (ad.add (2 * x.1))) (ckLen n x.1) (ckLen n x.1), undef, undef, undef, undef, undef, undef, undef, undef, undef], defers := [] }) ?assign ?body ?done ?stop
  case assign =>
    intro l x W K hK
    gi_wp2
    exact hK
  case body =>
    rintro l' pre x W ⟨⟨v, hv, hrow, hg1, hg2⟩, hB, hz⟩ hlt
    have hc := hv.cell
    have hmx : Try.prog.follows .mixedOrders = true := by kernel_rfl
    obtain ⟨pm, plen, pin⟩ := part_mean l n x.1 r.out.1 x.2
    have hE : 0 < ckLen n x.1 ∧ 2 * x.1 + ckLen n x.1 ≤ n ∧ ckLen n x.1 ≤ 2 := by have := x.2; unfold ckLen; omega
    have rW : RI W (some (ad.add (2 * x.1))) (ckLen n x.1) ((l.drop (2 * x.1)).take (ckLen n x.1)) := (r.to ⟨hB⟩).part _ _ hE.2.1 hE.1
    have hs : SumOk ((l.drop (2 * x.1)).take (ckLen n x.1)) := sumOk_of _ 4100000000000000000 (by omega) (fun y hy => by obtain ⟨i, hi, rfl⟩ := pin y hy; exact HB.out i hi) (by rw [plen]; omega)
    have hsb := hs.out (ckLen n x.1) (by rw [plen]; exact Nat.le_refl _)
    rw [List.take_of_length_le (by rw [plen]; exact Nat.le_refl _)] at hsb
    have HS := hid hs
    have HE := hid hE
    have PM := hid pm
    have HSB := hid hsb
    clear hs hE pm hsb pin plen
    gi_wp2
    have rD : RI W.drew (some (ad.add (2 * x.1))) (ckLen n x.1) ((l.drop (2 * x.1)).take (ckLen n x.1)) := ⟨rW.out.below (Drawn0.below ⟨1, rfl⟩)⟩
    have hvD : Boxed W.drew (w.heap.size + 1) 24 v := hv
    have hrD : World.ownsRow W.drew w.heap.size 3 1 v pre.length (nums .i64 (meansL l n pre)) := hrow
    have hBD : Below w.heap.size w W.drew := hB.trans ((Below.refl _ _).drew)
    have hcD : W.drew.cell? ⟨w.heap.size + 1, 0, none⟩ = some v := hc
    have hcA : (W.alloc (.cells #[.int .i64 (((l.drop (2 * x.1)).take (ckLen n x.1)).sum / ((ckLen n x.1 : Nat) : Int))] 3)).cell? ⟨w.heap.size + 1, 0, none⟩ = some v := (hv.alloc _).cell
    have DONE : ∀ (tmp : Obj) (w1 : World) (g' cap' : Nat), (W.drew.alloc tmp).grownBy w1 v.ownBlock → (some g' = v.ownBlock ∨ some g' = some (W.drew.alloc tmp).heap.size) →
        w1.ownsRow w.heap.size 3 1 (.slice (some ⟨g', 0, none⟩) (pre.length + 1) cap') (pre.length + 1) (nums .i64 (meansL l n pre) ++ [.int .i64 (((l.drop (2 * x.1)).take (ckLen n x.1)).sum / ((ckLen n x.1 : Nat) : Int))]) →
        KeepsOthers W (w1.setCell ⟨w.heap.size + 1, 0, none⟩ (.slice (some ⟨g', 0, none⟩) (pre.length + 1) cap')) ∧ CkKeep w.heap.size (w.heap.size + 1 + 1) W (w1.setCell ⟨w.heap.size + 1, 0, none⟩ (.slice (some ⟨g', 0, none⟩) (pre.length + 1) cap')) ∧
        ((∃ v, Boxed (w1.setCell ⟨w.heap.size + 1, 0, none⟩ (.slice (some ⟨g', 0, none⟩) (pre.length + 1) cap')) (w.heap.size + 1) 24 v ∧ World.ownsRow (w1.setCell ⟨w.heap.size + 1, 0, none⟩ (.slice (some ⟨g', 0, none⟩) (pre.length + 1) cap')) w.heap.size 3 1 v (pre ++ [x]).length (nums .i64 (meansL l n (pre ++ [x]))) ∧ (v.ownBlock ≠ some (w.heap.size + 1 + 1) ∧ v.ownBlock ≠ some (w.heap.size + 1 + 1 + 1))) ∧ (Below w.heap.size w (w1.setCell ⟨w.heap.size + 1, 0, none⟩ (.slice (some ⟨g', 0, none⟩) (pre.length + 1) cap')) ∧ w.heap.size + 4 ≤ (w1.setCell ⟨w.heap.size + 1, 0, none⟩ (.slice (some ⟨g', 0, none⟩) (pre.length + 1) cap')).heap.size)) := by
      intro tmp w1 g' cap' hgrow hat hown'
      obtain ⟨hv1, hv2, hr2, hk2, hb2⟩ := hvD.appended (by decide) hrD hBD.size (Nat.le_succ _) hown' hgrow
      have hsz1 := hgrow.size
      have hsz2 : (w1.setCell ⟨w.heap.size + 1, 0, none⟩ (.slice (some ⟨g', 0, none⟩) (pre.length + 1) cap')).heap.size = w1.heap.size := by simp [World.setCell]
      have e0 : (W.drew.alloc tmp).heap.size = W.heap.size + 1 := by simp
      have hkeep : ∀ k, k < W.heap.size → some k ≠ v.ownBlock → k ≠ w.heap.size + 1 → (w1.setCell ⟨w.heap.size + 1, 0, none⟩ (.slice (some ⟨g', 0, none⟩) (pre.length + 1) cap')).heap[k]? = W.heap[k]? := fun k hk hne hk1 => by
        rw [Below.heap_setCell _ _ _ k hk1, hgrow.block k (by omega) hne]
        exact Below.heap_alloc W.drew tmp k hk
      have hne : ∀ k, k < W.heap.size → v.ownBlock ≠ some k → (Value.slice (some ⟨g', 0, none⟩) (pre.length + 1) cap').ownBlock ≠ some k := fun k hk h1 h2 => by
        have h3 : some g' = some k := h2
        rcases hat with h | h
        · exact h1 (h.symm.trans h3)
        · rw [e0] at h; injection h with h; injection h3 with h3; omega
      refine ⟨(KeepsOthers.drew W).trans hk2, ⟨((Below.refl _ W).drew).trans hb2, hkeep _ (by omega) (fun e => hg1 e.symm) (by omega), hkeep _ (by omega) (fun e => hg2 e.symm) (by omega)⟩, ⟨_, hv2, ?_, hne _ (by omega) hg1, hne _ (by omega) hg2⟩, hBD.trans hb2, by omega⟩
      have em := PM.out
      rw [meansL_concat, nums_concat, ← em, List.length_append]
      exact hr2
    refine wpIn_region_any hmx ?_
    change wpAnyIn _ _ _ _ _ _ _ _ _ (World.drew _)
    refine any_inRound rfl l' (fun i o ho c => ?_) _ _ _ _ ?_
    · rw [List.getElem?_toArray] at ho
      have hm := List.mem_of_getElem? ho
      simp only [List.mem_cons, List.not_mem_nil, or_false] at hm
      rcases hm with rfl | rfl | rfl | rfl | rfl | rfl | rfl | rfl | rfl <;> simp
    refine wpAnyIn_take (i := 1) (v := ?_) rfl rfl (by kernel_rfl) (by kernel_rfl) (by kernel_rfl) (fun _ _ _ h => h) ⟨Or.inl ⟨by rfl, ?_⟩, fun _ => rfl⟩ ?_
    rotate_left
    · intro w; go_simp; with_reducible rfl
    refine wpAnyIn_take (i := 3) (v := ?_) rfl rfl (by kernel_rfl) (by kernel_rfl) (by kernel_rfl) (fun _ _ _ h => h) ⟨Or.inl ⟨by rfl, ?_⟩, fun _ => rfl⟩ ?_
    rotate_left
    · intro w; go_simp; with_reducible rfl
    refine wpAnyIn_take (i := 4) (v := ?_) rfl rfl (by kernel_rfl) (by kernel_rfl) (by kernel_rfl) (fun _ _ _ h => h) ⟨Or.inl ⟨by rfl, ?_⟩, fun _ => rfl⟩ ?_
    rotate_left
    · intro w; go_simp; with_reducible rfl
    -- WAYS
    refine wpAnyIn_ready (rs := [0, 2]) (by kernel_rfl) (by simp) ?_
    refine AllReadyIn.cons rfl (fun K hK => ?_) ?_
    · go_simp
      refine hK _ _ ?_
      clear hK K
      refine wpAnyIn_ready (rs := [2]) (by kernel_rfl) (by simp) ?_
      refine AllReadyIn.cons rfl (fun K hK => ?_) ?_
      · go_simp
        refine ⟨trivial, (callsIn_wide.2 (impl_sum _ _ _ _ _ rD HS.out)).mono ?_⟩
        rintro e w' ⟨rfl, rfl⟩
        refine hK _ _ ?_
        clear hK K
        refine wpAnyIn_ready (rs := [5]) (by kernel_rfl) (by simp) ?_
        refine AllReadyIn.cons rfl (fun K hK => ?_) ?_
        · go_simp
          refine ⟨trivial, (callsIn_wide.2 (impl_DivFloor _ _ _ (by have := HE.out; omega) HSB.out.1 HSB.out.2)).mono ?_⟩
          rintro e w' ⟨rfl, rfl⟩
          refine hK _ _ ?_
          clear hK K
          refine wpAnyIn_ready (rs := [6]) (by kernel_rfl) (by simp) ?_
          refine AllReadyIn.cons rfl (fun K hK => ?_) ?_
          · go_simp
            refine hK _ _ ?_
            clear hK K
            refine wpAnyIn_ready (rs := [7]) (by kernel_rfl) (by simp) ?_
            refine AllReadyIn.cons rfl (fun K hK => ?_) ?_
            · refine stepIn_append _ (by rfl) _ _ _ (by rfl) w.heap.size 3 i0 _ 1 8 Try.underlying24 hi hz0 hz1 hz2 rfl (by omega) _ _ _ (by rfl) (hrD.alloc _) ⟨W.drew.heap.size, 0, none⟩ 1 1 [.int .i64 (((l.drop (2 * x.1)).take (ckLen n x.1)).sum / ((ckLen n x.1 : Nat) : Int))] (by rfl) (by rfl) (cell_one_new _ _ _) (by simp [Value.oneCell']) (by simp [maxLen]; omega) (by omega) (by have := hB.size; simp; omega) ?_
              intro v' w1 hown' hgrow hat
              obtain ⟨g', cap', rfl⟩ := ownsRow_succ hown'
              obtain ⟨hv1, hv2, hr2, hk2, hb2⟩ := hvD.appended (by decide) hrD hBD.size (Nat.le_succ _) hown' hgrow
              have hc1 := hv1.cell
              have hf1 := hv1.frozen
              refine hK _ _ ?_
              clear hK K
              refine wpAnyIn_ready (rs := [8]) (by kernel_rfl) (by simp) ?_
              refine AllReadyIn.cons rfl (fun K hK => ?_) ?_
              · go_simp
                refine hK _ _ ?_
                clear hK K
                refine wpAnyIn_done (by kernel_rfl) ?_ _
                exact DONE _ _ _ _ hgrow hat hown'
              exact AllReadyIn.nil
            exact AllReadyIn.nil
          exact AllReadyIn.nil
        exact AllReadyIn.nil
      exact AllReadyIn.nil
    refine AllReadyIn.cons rfl (fun K hK => ?_) ?_
    · go_simp
      refine ⟨trivial, (callsIn_wide.2 (impl_sum _ _ _ _ _ rD HS.out)).mono ?_⟩
      rintro e w' ⟨rfl, rfl⟩
      refine hK _ _ ?_
      clear hK K
      refine wpAnyIn_ready (rs := [0, 5]) (by kernel_rfl) (by simp) ?_
      refine AllReadyIn.cons rfl (fun K hK => ?_) ?_
      · go_simp
        refine hK _ _ ?_
        clear hK K
        refine wpAnyIn_ready (rs := [5]) (by kernel_rfl) (by simp) ?_
        refine AllReadyIn.cons rfl (fun K hK => ?_) ?_
        · go_simp
          refine ⟨trivial, (callsIn_wide.2 (impl_DivFloor _ _ _ (by have := HE.out; omega) HSB.out.1 HSB.out.2)).mono ?_⟩
          rintro e w' ⟨rfl, rfl⟩
          refine hK _ _ ?_
          clear hK K
          refine wpAnyIn_ready (rs := [6]) (by kernel_rfl) (by simp) ?_
          refine AllReadyIn.cons rfl (fun K hK => ?_) ?_
          · go_simp
            refine hK _ _ ?_
            clear hK K
            refine wpAnyIn_ready (rs := [7]) (by kernel_rfl) (by simp) ?_
            refine AllReadyIn.cons rfl (fun K hK => ?_) ?_
            · refine stepIn_append _ (by rfl) _ _ _ (by rfl) w.heap.size 3 i0 _ 1 8 Try.underlying24 hi hz0 hz1 hz2 rfl (by omega) _ _ _ (by rfl) (hrD.alloc _) ⟨W.drew.heap.size, 0, none⟩ 1 1 [.int .i64 (((l.drop (2 * x.1)).take (ckLen n x.1)).sum / ((ckLen n x.1 : Nat) : Int))] (by rfl) (by rfl) (cell_one_new _ _ _) (by simp [Value.oneCell']) (by simp [maxLen]; omega) (by omega) (by have := hB.size; simp; omega) ?_
              intro v' w1 hown' hgrow hat
              obtain ⟨g', cap', rfl⟩ := ownsRow_succ hown'
              obtain ⟨hv1, hv2, hr2, hk2, hb2⟩ := hvD.appended (by decide) hrD hBD.size (Nat.le_succ _) hown' hgrow
              have hc1 := hv1.cell
              have hf1 := hv1.frozen
              refine hK _ _ ?_
              clear hK K
              refine wpAnyIn_ready (rs := [8]) (by kernel_rfl) (by simp) ?_
              refine AllReadyIn.cons rfl (fun K hK => ?_) ?_
              · go_simp
                refine hK _ _ ?_
                clear hK K
                refine wpAnyIn_done (by kernel_rfl) ?_ _
                exact DONE _ _ _ _ hgrow hat hown'
              exact AllReadyIn.nil
            exact AllReadyIn.nil
          exact AllReadyIn.nil
        exact AllReadyIn.nil
      refine AllReadyIn.cons rfl (fun K hK => ?_) ?_
      · go_simp
        refine ⟨trivial, (callsIn_wide.2 (impl_DivFloor _ _ _ (by have := HE.out; omega) HSB.out.1 HSB.out.2)).mono ?_⟩
        rintro e w' ⟨rfl, rfl⟩
        refine hK _ _ ?_
        clear hK K
        refine wpAnyIn_ready (rs := [0, 6]) (by kernel_rfl) (by simp) ?_
        refine AllReadyIn.cons rfl (fun K hK => ?_) ?_
        · go_simp
          refine hK _ _ ?_
          clear hK K
          refine wpAnyIn_ready (rs := [6]) (by kernel_rfl) (by simp) ?_
          refine AllReadyIn.cons rfl (fun K hK => ?_) ?_
          · go_simp
            refine hK _ _ ?_
            clear hK K
            refine wpAnyIn_ready (rs := [7]) (by kernel_rfl) (by simp) ?_
            refine AllReadyIn.cons rfl (fun K hK => ?_) ?_
            · refine stepIn_append _ (by rfl) _ _ _ (by rfl) w.heap.size 3 i0 _ 1 8 Try.underlying24 hi hz0 hz1 hz2 rfl (by omega) _ _ _ (by rfl) (hrD.alloc _) ⟨W.drew.heap.size, 0, none⟩ 1 1 [.int .i64 (((l.drop (2 * x.1)).take (ckLen n x.1)).sum / ((ckLen n x.1 : Nat) : Int))] (by rfl) (by rfl) (cell_one_new _ _ _) (by simp [Value.oneCell']) (by simp [maxLen]; omega) (by omega) (by have := hB.size; simp; omega) ?_
              intro v' w1 hown' hgrow hat
              obtain ⟨g', cap', rfl⟩ := ownsRow_succ hown'
              obtain ⟨hv1, hv2, hr2, hk2, hb2⟩ := hvD.appended (by decide) hrD hBD.size (Nat.le_succ _) hown' hgrow
              have hc1 := hv1.cell
              have hf1 := hv1.frozen
              refine hK _ _ ?_
              clear hK K
              refine wpAnyIn_ready (rs := [8]) (by kernel_rfl) (by simp) ?_
              refine AllReadyIn.cons rfl (fun K hK => ?_) ?_
              · go_simp
                refine hK _ _ ?_
                clear hK K
                refine wpAnyIn_done (by kernel_rfl) ?_ _
                exact DONE _ _ _ _ hgrow hat hown'
              exact AllReadyIn.nil
            exact AllReadyIn.nil
          exact AllReadyIn.nil
        refine AllReadyIn.cons rfl (fun K hK => ?_) ?_
        · go_simp
          refine hK _ _ ?_
          clear hK K
          refine wpAnyIn_ready (rs := [0]) (by kernel_rfl) (by simp) ?_
          refine AllReadyIn.cons rfl (fun K hK => ?_) ?_
          · go_simp
            refine hK _ _ ?_
            clear hK K
            refine wpAnyIn_ready (rs := [7]) (by kernel_rfl) (by simp) ?_
            refine AllReadyIn.cons rfl (fun K hK => ?_) ?_
            · refine stepIn_append _ (by rfl) _ _ _ (by rfl) w.heap.size 3 i0 _ 1 8 Try.underlying24 hi hz0 hz1 hz2 rfl (by omega) _ _ _ (by rfl) (hrD.alloc _) ⟨W.drew.heap.size, 0, none⟩ 1 1 [.int .i64 (((l.drop (2 * x.1)).take (ckLen n x.1)).sum / ((ckLen n x.1 : Nat) : Int))] (by rfl) (by rfl) (cell_one_new _ _ _) (by simp [Value.oneCell']) (by simp [maxLen]; omega) (by omega) (by have := hB.size; simp; omega) ?_
              intro v' w1 hown' hgrow hat
              obtain ⟨g', cap', rfl⟩ := ownsRow_succ hown'
              obtain ⟨hv1, hv2, hr2, hk2, hb2⟩ := hvD.appended (by decide) hrD hBD.size (Nat.le_succ _) hown' hgrow
              have hc1 := hv1.cell
              have hf1 := hv1.frozen
              refine hK _ _ ?_
              clear hK K
              refine wpAnyIn_ready (rs := [8]) (by kernel_rfl) (by simp) ?_
              refine AllReadyIn.cons rfl (fun K hK => ?_) ?_
              · go_simp
                refine hK _ _ ?_
                clear hK K
                refine wpAnyIn_done (by kernel_rfl) ?_ _
                exact DONE _ _ _ _ hgrow hat hown'
              exact AllReadyIn.nil
            exact AllReadyIn.nil
          exact AllReadyIn.nil
        exact AllReadyIn.nil
      exact AllReadyIn.nil
    exact AllReadyIn.nil
    -- END OF WAYS
  case done =>
    rintro D ys W hD rfl ⟨⟨v, hv, hrow, _, _⟩, hB, _⟩ hK
    have hc := hv.cell
    gi_wp2
    refine ⟨by simp, .inl ⟨_, _, rfl, run_takeDeferred hK, ?_⟩⟩
    have hl := ckTo_len n ((n + 1) / 2) (by omega)
    rw [hl] at hrow
    exact ⟨_, results_tmp rfl _ _ _, v, rfl, ⟨ownsRow_putObj hrow _ hK rfl⟩, ⟨hB.trans (belowK_b (w := w) (Nat.le_refl _) W D _ _ (by omega) hK rfl rfl)⟩⟩
  case stop =>
    rintro D c pre W _ _ h _
    exact h.elim
end Go.Proofs.Ytpnciejalcdgeaa.U

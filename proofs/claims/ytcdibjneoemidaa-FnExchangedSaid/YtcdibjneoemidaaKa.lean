
/- Packets: rows of them, and the laws' helpers on them. -/
import Derived.Test.YtcdibjneoemidaaG3
import Derived.Test.YtcdibjneoemidaaG1
set_option linter.unusedVariables false
set_option linter.unusedSimpArgs false
namespace Go.Proofs.Ytcdibjneoemidaa.U
open Go.RowKit Go.Lib Go.Proofs.YtcdibjneoemidaaW.PrintWords

open Go.Proofs.YtcdibjneoemidaaW.PrintLast Go.Proofs.YtcdibjneoemidaaW.PrintMore
/-- a packet: number, value -/
structure Pk where
  q : Int
  v : Int
deriving DecidableEq, Repr
def pz : Pk := ⟨0, 0⟩
def gp (l : List Pk) (j : Nat) : Pk := l.getD j pz
theorem gp_at {l : List Pk} {j : Nat} (h : j < l.length) : gp l j = l[j] := by rw [gp, List.getD_eq_getElem?_getD, List.getElem?_eq_getElem h]; rfl
/-- the ints of a list of packets -/
def pkF (l : List Pk) : List Int := l.flatMap fun p => [p.q, p.v]
theorem pkF_cons (x : Pk) (l : List Pk) : pkF (x :: l) = x.q :: x.v :: pkF l := rfl
theorem pkF_append (a b : List Pk) : pkF (a ++ b) = pkF a ++ pkF b := by simp [pkF]
theorem pkF_length (l : List Pk) : (pkF l).length = l.length * 2 := by
  induction l with
  | nil => rfl
  | cons x l ih => rw [pkF_cons, List.length_cons, List.length_cons, List.length_cons, ih]; omega
theorem pkF_rd : ∀ (l : List Pk) (j : Nat), j < l.length → rd (pkF l) ((j * 2 : Nat) : Int) = (gp l j).q ∧ rd (pkF l) ((j * 2 + 1 : Nat) : Int) = (gp l j).v
  | [], j, h => by simp at h
  | x :: l, 0, h => ⟨rfl, rfl⟩
  | x :: l, j + 1, h => by
    have ih := pkF_rd l j (by simpa using h)
    simp only [rd_nat] at ih ⊢
    rw [pkF_cons, show (j + 1) * 2 = j * 2 + 2 by omega, show j * 2 + 2 + 1 = (j * 2 + 1) + 2 by omega]
    simp only [List.getD_cons_succ]
    exact ih
/-- packets that are read -/
structure PkR (w : World) (A : Option Addr) (n : Nat) (l : List Pk) : Prop where mk :: (out : FR w 2 A n (pkF l))
theorem PkR.len {w : World} {A : Option Addr} {n : Nat} {l : List Pk} (h : PkR w A n l) : l.length = n := by have := h.out.len; rw [pkF_length] at this; omega
theorem PkR.max {w : World} {A : Option Addr} {n : Nat} {l : List Pk} (h : PkR w A n l) : n ≤ 9223372036854775807 := h.out.max
theorem PkR.to {w w' : World} {A : Option Addr} {n : Nat} {l : List Pk} (h : PkR w A n l) (b : Bw w w') : PkR w' A n l := ⟨h.out.to b⟩
theorem PkR.at {w : World} {A : Option Addr} {n : Nat} {l : List Pk} (h : PkR w A n l) (j : Nat) (hj : j < n) :
    ∃ ad, A = some ad ∧ w.cell? (ad.add (j * 2)) = some (.int .i64 (gp l j).q) ∧ w.cell? ⟨(ad.add (j * 2)).block, (ad.add (j * 2)).off + 1, none⟩ = some (.int .i64 (gp l j).v) := by
  obtain ⟨ad, e, hc⟩ := h.out.at_ (by omega)
  have hf := pkF_rd l j (by rw [h.len]; exact hj)
  have h0 := hc (j * 2) (by omega)
  have h1 := hc (j * 2 + 1) (by omega)
  rw [hf.1] at h0
  rw [hf.2, add_field _ _ _ (by omega)] at h1
  exact ⟨ad, e, h0, h1⟩
theorem PkR.drop1 {w : World} {A : Option Addr} {n c : Nat} {x : Pk} {l : List Pk} (h : PkR w A n (x :: l)) : ∃ B d, (∀ ad, A = some ad → 1 < c → B = some (ad.add 2)) ∧ d = c - 1 ∧ PkR w B (n - 1) l := by
  have hl := h.len
  rw [List.length_cons] at hl
  obtain ⟨ad, e, hc⟩ := h.out.at_ (by omega)
  refine ⟨some (ad.add 2), c - 1, fun a2 e2 _ => by rw [e] at e2; obtain rfl := Option.some.inj e2; rfl, rfl, ⟨⟨by rw [pkF_length]; omega, by have := h.max; omega, fun hn => ⟨_, rfl, fun j hj => ?_⟩⟩⟩⟩
  have := hc (2 + j) (by omega)
  rw [Addr.add_add, this, rd_nat, rd_nat, pkF_cons, show 2 + j = j + 2 by omega, List.getD_cons_succ, List.getD_cons_succ]
theorem info_pk : (Try.prog.info? 34).map (fun i => (i.zero, i.size, i.bytes)) = some (some (.agg #[.int .i64 0, .int .i64 0]), 2, 16) := by kernel_rfl
/-- a row of packets of the call's own -/
abbrev PkO (w : World) (base : Nat) (v : Value) (n : Nat) (l : List Pk) : Prop := FO w base 34 2 v n (pkF l)
theorem PkO.made (W : World) (base m : Nat) (hb : base ≤ W.heap.size) (hm : m ≤ 9223372036854775807) : PkO (W.alloc (.cells (madeCells #[.int .i64 0, .int .i64 0] (m * 2)) 34)) base (.slice (some ⟨W.heap.size, 0, none⟩) m m) m (List.replicate m pz) := ⟨by
  have h := World.ownsRow_lit (base := base) (e := 34) (size := 2) W (madeCells #[.int .i64 0, .int .i64 0] (m * 2)) m hb (by simpa [maxLen] using hm) (by simp [size_madeCells])
  have hl : (madeCells #[Value.int .i64 0, .int .i64 0] (m * 2)).toList = nums .i64 (pkF (List.replicate m pz)) := by
    have hz : pkF (List.replicate m pz) = List.replicate (m * 2) 0 := by
      clear h hm
      induction m with
      | zero => rfl
      | succ m ih => rw [List.replicate_succ, pkF_cons, ih, show (m + 1) * 2 = m * 2 + 1 + 1 by omega, List.replicate_succ, List.replicate_succ]; rfl
    rw [hz]
    apply List.ext_getElem
    · simp [nums, madeCells]
    · intro i h1 h2
      simp only [nums, List.map_replicate, List.getElem_replicate, madeCells, Array.getElem_toList, Array.getElem_ofFn]
      have : i % 2 = 0 ∨ i % 2 = 1 := by omega
      rcases this with h | h <;> simp [h]
  rwa [hl] at h⟩
theorem pkF_put (l : List Pk) (j : Nat) (x : Pk) (h : j < l.length) : ((pkF l).set (j * 2) x.q).set (j * 2 + 1) x.v = pkF (l.set j x) := by
  obtain ⟨p, y, q, rfl, hp⟩ : ∃ p y q, l = p ++ y :: q ∧ p.length = j := ⟨l.take j, l[j], l.drop (j + 1), by rw [← List.drop_eq_getElem_cons h, List.take_append_drop], by simp; omega⟩
  rw [set_mid p q y x j hp.symm, pkF_append, pkF_append, pkF_cons, pkF_cons]
  rw [set_mid _ _ _ _ _ (by rw [pkF_length]; omega)]
  rw [show pkF p ++ x.q :: y.v :: pkF q = (pkF p ++ [x.q]) ++ y.v :: pkF q by simp, set_mid _ _ _ _ _ (by simp [pkF_length]; omega)]
  simp
theorem two_iota (F : List Int) (a : Int) (k : Nat) (h : k + 1 < F.length) : ((iota k a ++ F.drop k).set k (a + k)).set (k + 1) (a + k + 1) = iota (k + 2) a ++ F.drop (k + 2) := by
  rw [set_iota F a k (by omega), show a + (k : Int) + 1 = a + ((k + 1 : Nat) : Int) by omega, set_iota F a (k + 1) (by omega)]
theorem FR.nat2 {w : World} {A : Option Addr} {n : Nat} {F : List Int} (h : FR w 2 A n F) (j : Nat) (hj : j < n) : ∃ ad, A = some ad ∧ w.cell? (ad.add (j * 2)) = some (.int .i64 (rd F ((j * 2 : Nat) : Int))) ∧ w.cell? ⟨(ad.add (j * 2)).block, (ad.add (j * 2)).off + 1, none⟩ = some (.int .i64 (rd F ((j * 2 + 1 : Nat) : Int))) := by
  obtain ⟨ad, e, hc⟩ := h.at_ (by omega)
  have h1 := hc (j * 2 + 1) (by omega)
  rw [add_field _ _ _ (by omega)] at h1
  exact ⟨ad, e, hc (j * 2) (by omega), h1⟩
theorem toPacket (q v : Int) (w : World) : Calls Try.prog 10 #[.agg #[.int .i64 q, .int .i64 v]] w fun e w' => e = .returned (.agg #[.int .i64 q, .int .i64 v]) ∧ Bw w w' := by
  go_enter Try.func10, Try.ntmps10
  go_wp2
  exact bodyPost_ret (v := .agg #[.int .i64 q, .int .i64 v]) (by simp [results, Try.results10, go_sem]) rfl ⟨rfl, (((Bw.box1 _ _).alloc _).alloc _)⟩
theorem eqPacket_yes (q v : Int) (w : World) : Calls Try.prog 52 #[.agg #[.int .i64 q, .int .i64 v], .agg #[.int .i64 q, .int .i64 v]] w fun e w' => e = .returned (.bool true) ∧ Bw w w' := by
  have t1 : (q != q) = false := by simp
  have t2 : (v != v) = false := by simp
  go_enter Try.func52, Try.ntmps52
  go_wp2
  go_ret
  exact ⟨rfl, (Bw.box1 _ _).alloc _⟩
set_option maxHeartbeats 2000000 in
theorem toPacketS (A : Option Addr) (n c : Nat) (l : List Pk) (w : World) (hR : PkR w A n l) (hn : n ≤ 1048576) :
    Calls Try.prog 32 #[.slice A n c] w fun e w' => ∃ v, e = .returned v ∧ PkO w' w.heap.size v n l ∧ Bw w w' := by
  have hl := hR.len
  have HL := hid hl
  have hmk := make_st (P := Try.prog) 29 34 (.agg #[.int .i64 0, .int .i64 0]) 2 16 Try.underlying29 info_pk n (by omega) (by omega)
  have o0 := PkO.made w w.heap.size n (Nat.le_refl _) (by omega)
  have b0 := Bw.box1 w (.cells (madeCells #[.int .i64 0, .int .i64 0] (n * 2)) 34)
  have HC : Hid (l.take 0 ++ List.replicate (l.length - 0) pz = List.replicate n pz) := hid (by simp [hl])
  clear hl
  go_enter Try.func32, Try.ntmps32
  go_wp2
  clear hmk
  go_loopw [4] (fun v4 wr => ∃ j : Nat, j ≤ n ∧ v4 = .int .i64 j ∧ Hid (PkO wr w.heap.size (.slice (some ⟨w.heap.size, 0, none⟩) n n) n (l.take j ++ List.replicate (l.length - j) pz)) ∧ Hid (Bw w wr)) (fun v4 _ => n - (intOf v4).toNat)
  case atStart => exact ⟨0, by omega, rfl, hid (by rw [HC.out]; exact o0), hid b0⟩
  case round =>
    obtain ⟨j, hj, rfl, hO, hB⟩ := hrel
    by_cases hlt : j < n
    · have t1 : decide ((j : Int) < (n : Int)) = true := decide_eq_true (by omega)
      have hst := hid (copy_step l j pz (gp l j) (by rw [HL.out]; exact hlt) (by rw [List.getElem?_eq_getElem (by rw [HL.out]; exact hlt), gp_at (by rw [HL.out]; exact hlt)]))
      have hlen := hid (show j < (l.take j ++ List.replicate (l.length - j) pz).length by simp; rw [HL.out]; omega)
      obtain ⟨ad, rfl, x0, x1⟩ := (hR.to hB.out).at j hlt
      generalize gp l j = x at *
      obtain ⟨xr, xl⟩ := x
      simp only at x0 x1
      go_wp2_with fail
      refine (toPacket _ _ _).mono ?_
      rintro e w1 ⟨rfl, b1⟩
      have hO1 := hO.out.to b1
      have hB1 := hB.out.trans b1
      obtain ⟨k0, f0⟩ := hO1.cell (j := j * 2) (by omega)
      obtain ⟨k1, f1⟩ := hO1.cell (j := j * 2 + 1) (by omega)
      have hO2 := (hO1.set (j := j * 2) (by omega) xr).set (j := j * 2 + 1) (by omega) xl
      have hp := pkF_put _ j ⟨xr, xl⟩ hlen.out
      simp only at hp
      rw [hp, hst.out] at hO2
      have HO2 := hid hO2
      have HB2 := hid (bw_set (bw_set hB1 (Nat.le_refl _) (j * 2) (.int .i64 xr)) (Nat.le_refl _) (j * 2 + 1) (.int .i64 xl))
      clear hO2 hp hO1 hB1 hst hlen hO hB HC o0
      go_wp2
      go_roundw
      case rel => exact ⟨j + 1, by omega, by go_num, HO2, HB2⟩
      case measure => simp [intOf]; omega
    · obtain rfl : j = n := by omega
      have t1 : decide ((j : Int) < (j : Int)) = false := decide_eq_false (by omega)
      go_wp2
      go_ret
      exact ⟨_, rfl, by have h := hO.out; rwa [HL.out, Nat.sub_self, List.take_of_length_le (by rw [HL.out]; exact Nat.le_refl _), List.replicate_zero, List.append_nil] at h, hB.out⟩
set_option maxHeartbeats 4000000 in
set_option maxRecDepth 100000 in
theorem eqPacketS_yes (A : Option Addr) (n c : Nat) (B : Option Addr) (d : Nat) (l : List Pk) (w : World) (r : PkR w A n l) (q : PkR w B n l) :
    Calls Try.prog 38 #[.slice A n c, .slice B n d] w fun e w' => e = .returned (.bool true) ∧ Bw w w' := by
  have hmax := r.max
  have t0 : ((n : Int) != (n : Int)) = false := by simp
  go_enter Try.func38, Try.ntmps38
  go_wp2
  go_loopw [5] (fun v5 wr => ∃ j : Nat, j ≤ n ∧ v5 = .int .i64 j ∧ Hid (Bw w wr)) (fun v5 _ => n - (intOf v5).toNat)
  case atStart => exact ⟨0, by omega, rfl, hid (Bw.refl _)⟩
  case round =>
    obtain ⟨j, hj, rfl, hB⟩ := hrel
    by_cases hlt : j < n
    · have t1 : decide ((j : Int) < (n : Int)) = true := decide_eq_true (by omega)
      obtain ⟨ad, rfl, x0, x1⟩ := (r.to hB.out).at j hlt
      obtain ⟨ae, rfl, y0, y1⟩ := (q.to hB.out).at j hlt
      generalize gp l j = x at *
      obtain ⟨xr, xl⟩ := x
      simp only at x0 x1 y0 y1
      have i4 : (0 : Int) ≤ (j : Int) := by omega
      have i5 : (j : Int) < (n : Int) := by omega
      go_wp2
      go_region_held3 (fun w' => w'.cell? (ad.add (j * 2)) = some (.int .i64 xr) ∧ w'.cell? ⟨(ad.add (j * 2)).block, (ad.add (j * 2)).off + 1, none⟩ = some (.int .i64 xl) ∧ w'.cell? (ae.add (j * 2)) = some (.int .i64 xr) ∧ w'.cell? ⟨(ae.add (j * 2)).block, (ae.add (j * 2)).off + 1, none⟩ = some (.int .i64 xl)) (first | go_keep | (go_split_ands; exact ⟨pw_cell_below b.out (by assumption), pw_cell_below b.out (by assumption), pw_cell_below b.out (by assumption), pw_cell_below b.out (by assumption)⟩)) ((go_at_call 52; refine (eqPacket_yes xr xl _).mono ?_; rintro e w' ⟨rfl, b⟩))
      go_wp2
      go_roundw
      case rel => exact ⟨j + 1, by omega, by go_num, hid (hB.out.trans ((Bw.drawn ⟨⟨1, rfl⟩⟩).trans b))⟩
      case measure => simp [intOf]; omega
    · obtain rfl : j = n := by omega
      have t1 : decide ((j : Int) < (j : Int)) = false := decide_eq_false (by omega)
      go_wp2
      go_ret
      exact ⟨rfl, hB.out⟩
set_option maxHeartbeats 2000000 in
theorem markPacketS (v : Value) (n : Nat) (F : List Int) (a : Int) (w : World) (base : Nat) (hO : FO w base 34 2 v n F) (hn : n ≤ 1048576) (h0 : 0 ≤ a) (ha : a ≤ 1000000000000) :
    Calls Try.prog 39 #[v, .int .i64 a] w fun e w' => e = .returned (.int .i64 (a + (n * 2 : Nat))) ∧ FO w' base 34 2 v n (iota (n * 2) a) ∧ w.grownBy w' v.ownBlock := by
  have HL := hid hO.len
  obtain ⟨A, c, rfl, _, _⟩ := hO.reads
  have H := hid hO; clear hO
  obtain ⟨row, hrow⟩ : ∃ row, row = (Value.slice A n c).ownBlock := ⟨_, rfl⟩
  have HRW := hid hrow
  rw [← hrow]
  clear hrow
  go_enter Try.func39, Try.ntmps39
  go_wp2
  go_loopw [1, 5] (fun v1 v5 wr => ∃ (k : Nat) (b : Int), k ≤ n ∧ (0 ≤ b ∧ b ≤ 1000004000000) ∧ v1 = .int .i64 b ∧ v5 = .int .i64 k ∧ Hid (b = a + (k * 2 : Nat)) ∧ Hid (FO wr base 34 2 (.slice A n c) n (iota (k * 2) a ++ F.drop (k * 2))) ∧ Hid (w.grownBy wr row)) (fun _ v5 _ => n - (intOf v5).toNat)
  case atStart => exact ⟨0, a, by omega, by omega, rfl, rfl, hid (by simp), hid (by simpa [iota] using H.out), hid (grown_refl _ _)⟩
  case round =>
    obtain ⟨k, b, hk, hb, rfl, rfl, hE, hO, hG⟩ := hrel
    by_cases hlt : k < n
    · have t1 : decide ((k : Int) < (n : Int)) = true := decide_eq_true (by omega)
      obtain ⟨g, rfl, hgb, hgl, _⟩ := hO.out.form (by omega)
      obtain ⟨k0, f0⟩ := hO.out.cell (j := k * 2) (by omega)
      obtain ⟨k1, f1⟩ := hO.out.cell (j := k * 2 + 1) (by omega)
      obtain rfl : row = some g := HRW.out
      have hO2 := (hO.out.set (j := k * 2) (by omega) b).set (j := k * 2 + 1) (by omega) (b + 1)
      have hth := two_iota F a (k * 2) (by rw [HL.out]; omega)
      rw [← hE.out] at hth
      rw [hth] at hO2
      have HO2 := hid hO2
      have HG2 := hid (grown_set (grown_set hG.out (k * 2) (.int .i64 b)) (k * 2 + 1) (.int .i64 (b + 1)))
      have HE2 : Hid (b + 1 + 1 = a + ((k + 1) * 2 : Nat)) := hid (by rw [hE.out]; omega)
      have hb2 : 0 ≤ b + 1 + 1 ∧ b + 1 + 1 ≤ 1000004000000 := by have := hE.out; omega
      clear hO2 hth hO hG hE
      generalize rd (iota (k * 2) a ++ List.drop (k * 2) F) ((k * 2 : Nat) : Int) = z0 at *
      generalize rd (iota (k * 2) a ++ List.drop (k * 2) F) ((k * 2 + 1 : Nat) : Int) = z1 at *
      go_wp2
      go_roundw
      case rel => exact ⟨k + 1, _, by omega, hb2, rfl, by go_num, HE2, by rw [show (k + 1) * 2 = k * 2 + 2 by omega]; exact HO2, HG2⟩
      case measure => simp [intOf]; omega
    · obtain rfl : k = n := by omega
      have t1 : decide ((k : Int) < (k : Int)) = false := decide_eq_false (by omega)
      go_wp2
      go_ret
      have ho := hO.out
      rw [List.drop_of_length_le (by rw [HL.out]; exact Nat.le_refl _), List.append_nil] at ho
      exact ⟨ret_int hE.out, ho, hG.out⟩
set_option maxHeartbeats 2000000 in
theorem heldPacketS (A : Option Addr) (n c : Nat) (a : Int) (w : World) (hR : FR w 2 A n (iota (n * 2) a)) (hn : n ≤ 1048576) (h0 : 0 ≤ a) (ha : a ≤ 1000000000000) :
    Calls Try.prog 40 #[.slice A n c, .int .i64 a] w fun e w' => e = .returned (.int .i64 (a + (n * 2 : Nat))) ∧ w = w' := by
  go_enter Try.func40, Try.ntmps40
  go_wp2
  go_loopw [1, 5] (fun v1 v5 wr => ∃ (k : Nat) (b : Int), k ≤ n ∧ (0 ≤ b ∧ b ≤ 1000004000000) ∧ v1 = .int .i64 b ∧ v5 = .int .i64 k ∧ Hid (b = a + (k * 2 : Nat)) ∧ w = wr) (fun _ v5 _ => n - (intOf v5).toNat)
  case atStart => exact ⟨0, a, by omega, by omega, rfl, rfl, hid (by simp), rfl⟩
  case round =>
    obtain ⟨k, b, hk, hb, rfl, rfl, hE, rfl⟩ := hrel
    by_cases hlt : k < n
    · have t1 : decide ((k : Int) < (n : Int)) = true := decide_eq_true (by omega)
      obtain ⟨ad, rfl, c0, c1⟩ := hR.nat2 k hlt
      rw [iota_rd _ a _ (by omega)] at c0 c1
      have e0 : a + ((k * 2 : Nat) : Int) = b := hE.out.symm
      have e1 : a + ((k * 2 + 1 : Nat) : Int) = b + 1 := by have := hE.out; omega
      rw [e0] at c0
      rw [e1] at c1
      have HE2 : Hid (b + 1 + 1 = a + ((k + 1) * 2 : Nat)) := hid (by rw [hE.out]; omega)
      have hb2 : 0 ≤ b + 1 + 1 ∧ b + 1 + 1 ≤ 1000004000000 := by have := hE.out; omega
      have n0 : (b != b) = false := by simp
      have n1 : (b + 1 != b + 1) = false := by simp
      clear e0 e1 hE
      go_wp2
      go_roundw
      case rel => exact ⟨k + 1, _, by omega, hb2, rfl, by go_num, HE2, by first | rfl | trivial⟩
      case measure => simp [intOf]; omega
    · obtain rfl : k = n := by omega
      have t1 : decide ((k : Int) < (k : Int)) = false := decide_eq_false (by omega)
      go_wp2
      go_ret
      exact ⟨ret_int hE.out, rfl⟩
theorem szPacketS (A : Option Addr) (n c : Nat) (left : Int) (w : World) (hm : n ≤ 9223372036854775807) (h : 0 ≤ left ∧ left ≤ 1048576) :
    Calls Try.prog 28 #[.slice A n c, .int .i64 left] w fun e w' => e = .returned (.int .i64 (if left - n < 0 then -1 else left - n)) ∧ w = w' := by
  by_cases hd : left - (n : Int) < 0
  · rw [if_pos hd]
    have t1 : decide (left - (n : Int) < 0) = true := decide_eq_true hd
    go_enter Try.func28, Try.ntmps28
    go_wp2
    go_ret
    exact ⟨rfl, rfl⟩
  · rw [if_neg hd]
    have t1 : decide (left - (n : Int) < 0) = false := decide_eq_false hd
    go_enter Try.func28, Try.ntmps28
    go_wp2
    go_ret
    exact ⟨rfl, rfl⟩
end Go.Proofs.Ytcdibjneoemidaa.U

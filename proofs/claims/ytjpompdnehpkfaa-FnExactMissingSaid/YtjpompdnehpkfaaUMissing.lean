/- Missing of the program and of the reference answer the same at every inbox and number, in a list of the call's own. -/
import Derived.Test.YtjpompdnehpkfaaTFnExactMissingx4
import Derived.Test.YtjpompdnehpkfaaPu
set_option linter.unusedVariables false
set_option linter.unusedSimpArgs false
namespace Go.Proofs.Ytjpompdnehpkfaa.UMissing
open Go.RowKit Go.Proofs.Ytjpompdnehpkfaa.PFnExactMissing Go.Proofs.YtjpompdnehpkfaaW.PrintWords Go.Proofs.YtjpompdnehpkfaaW.PrintLast Go.Proofs.YtjpompdnehpkfaaW.PrintMore Go.Proofs.Ytjpompdnehpkfaa.Pu

def cvPacket (x : S38) : S40 := ⟨x.f0, x.f1⟩
theorem toPacketS_ev (l : List S38) (hn : l.length ≤ 1048576) : Ev (fun k => laws_toPacketS.f k l) (l.map cvPacket) := by
  have h := copy_ev (fun k x3 i => laws_toPacketS.l0 k l x3 i) l cvPacket
    (fun x3 hx => Ev.step (f := fun _ => some x3) (fun k => by simp only [laws_toPacketS.l0]; rw [if_neg (by omega)]) (Ev.now _))
    (fun i x3 r h hx e => Ev.step (fun k => by
      simp only [laws_toPacketS.l0]
      rw [if_pos (by omega), if_pos (by omega)]
      simp only [laws_toPacket.f, Option.bind_some]
      rw [if_pos (by omega), w64 (by omega) (by omega), show rd_T38 l (i : Int) = l[i] from getD_at l _ i h]
      rfl) e) (List.replicate l.length z40) (by simp)
  refine Ev.congr (fun k => ?_) h
  unfold laws_toPacketS.f
  rw [if_pos (by omega), if_pos (by omega)]
  rfl
theorem eqPacketS_ev (a : List S40) (hn : a.length ≤ 1048576) : Ev (fun k => laws_eqPacketS.f k a a) true := by
  have h := loop_ev (fun k i => laws_eqPacketS.l0 k a a i) a.length true
    (Ev.step (f := fun _ => some true) (fun k => by simp only [laws_eqPacketS.l0]; rw [if_neg (by omega)]) (Ev.now _))
    (fun i hi e => Ev.step (fun k => by
      simp only [laws_eqPacketS.l0]
      rw [if_pos (by omega), if_pos (by omega), if_pos (by omega)]
      simp only [laws_eqPacket.f, if_true, Option.bind_some]
      rw [w64 (by omega) (by omega)]
      rfl) e) a.length 0 (by omega)
  refine Ev.congr (fun k => ?_) h
  unfold laws_eqPacketS.f
  rw [if_pos rfl]
  rfl

theorem toIntS_ev (l : List Int) (hn : l.length ≤ 1048576) : Ev (fun k => laws_toIntS.f k l) l := by
  have h := copy_ev (fun k x3 i => laws_toIntS.l0 k l x3 i) l id
    (fun x3 hx => Ev.step (f := fun _ => some x3) (fun k => by simp only [laws_toIntS.l0]; rw [if_neg (by omega)]) (Ev.now _))
    (fun i x3 r h hx e => Ev.step (fun k => by
      simp only [laws_toIntS.l0]
      rw [if_pos (by omega), if_pos (by omega), if_pos (by omega), w64 (by omega) (by omega), rd_at l i h]
      rfl) e) (List.replicate l.length 0) (by simp)
  rw [List.map_id] at h
  refine Ev.congr (fun k => ?_) h
  unfold laws_toIntS.f
  rw [if_pos (by omega), if_pos (by omega)]
  rfl

theorem eqIntS_ev (a : List Int) (hn : a.length ≤ 1048576) : Ev (fun k => laws_eqIntS.f k a a) true := by
  have h := loop_ev (fun k i => laws_eqIntS.l0 k a a i) a.length true
    (Ev.step (f := fun _ => some true) (fun k => by simp only [laws_eqIntS.l0]; rw [if_neg (by omega)]) (Ev.now _))
    (fun i hi e => Ev.step (fun k => by
      simp only [laws_eqIntS.l0]
      rw [if_pos (by omega), if_pos (by omega), if_pos (by omega), if_pos (show True from trivial), w64 (by omega) (by omega)]
      rfl) e) a.length 0 (by omega)
  refine Ev.congr (fun k => ?_) h
  unfold laws_eqIntS.f
  rw [if_pos rfl]
  rfl
def iota : Nat → Int → List Int
  | 0, _ => []
  | n + 1, a => a :: iota n (a + 1)
theorem iota_length : ∀ (n : Nat) (a : Int), (iota n a).length = n
  | 0, _ => rfl
  | n + 1, a => by simp [iota, iota_length n]
theorem iota_get : ∀ (n : Nat) (a : Int) (i : Nat), i < n → (iota n a)[i]? = some (a + i)
  | n + 1, a, 0, _ => by simp [iota]
  | n + 1, a, i + 1, h => by simp only [iota, List.getElem?_cons_succ]; rw [iota_get n (a + 1) i (by omega)]; congr 1; push_cast; omega
theorem markIntS_l0 (n : Nat) (a : Int) (ha : 0 ≤ a) (hb : a + n ≤ 1000000000000) : ∀ (d i : Nat), i + d = n → ∀ x : List Int, x.length = n → (∀ j, j < i → x[j]? = some (a + j)) → Ev (fun k => laws_markIntS.l0 k x (a + i) (i : Int)) (a + n, iota n a) := by
  intro d
  induction d with
  | zero =>
    intro i hi x hl he
    refine Ev.step (f := fun _ => some (a + (i : Int), x)) (fun k => ?_) ?_
    · simp only [laws_markIntS.l0]; rw [if_neg (by omega)]
    · have : x = iota n a := by
        apply List.ext_getElem?
        intro j
        by_cases hj : j < i
        · rw [he j hj, iota_get n a j (by omega)]
        · rw [List.getElem?_eq_none (by omega), List.getElem?_eq_none (by rw [iota_length]; omega)]
      rw [this, show i = n by omega]
      exact Ev.now _
  | succ d ih =>
    intro i hi x hl he
    refine Ev.step (f := fun k => laws_markIntS.l0 k (x.set i (a + i)) (a + ((i + 1 : Nat) : Int)) ((i + 1 : Nat) : Int)) (fun k => ?_) (ih (i + 1) (by omega) _ (by simpa using hl) ?_)
    · simp only [laws_markIntS.l0]
      rw [if_pos (by omega), if_pos (by omega), w64 (x := (i : Int) + 1) (by omega) (by omega), w64 (by omega) (by omega), Int.add_assoc]
      rfl
    · intro j hj
      rw [List.getElem?_set]
      by_cases hji : i = j
      · subst hji
        rw [if_pos rfl, if_pos (by omega)]
      · rw [if_neg hji]
        exact he j (by omega)
theorem markIntS_ev (l : List Int) (a : Int) (ha : 0 ≤ a) (hb : a + l.length ≤ 1000000000000) : Ev (fun k => laws_markIntS.f k l a) (a + l.length, iota l.length a) := by
  have h := markIntS_l0 l.length a ha hb l.length 0 (by omega) l rfl (fun j hj => absurd hj (by omega))
  refine Ev.congr (g := fun k => laws_markIntS.f k l a) (fun k => ?_) h
  unfold laws_markIntS.f
  simp
theorem heldIntS_l0 (n : Nat) (a : Int) (ha : 0 ≤ a) (hb : a + n ≤ 1000000000000) : ∀ (d i : Nat), i + d = n → Ev (fun k => laws_heldIntS.l0 k (iota n a) (a + i) (i : Int)) (a + n) := by
  intro d
  induction d with
  | zero =>
    intro i hi
    refine Ev.step (f := fun _ => some (a + (i : Int))) (fun k => ?_) ?_
    · simp only [laws_heldIntS.l0]; rw [if_neg (by rw [iota_length]; omega)]
    · rw [show i = n by omega]
      exact Ev.now _
  | succ d ih =>
    intro i hi
    refine Ev.step (f := fun k => laws_heldIntS.l0 k (iota n a) (a + ((i + 1 : Nat) : Int)) ((i + 1 : Nat) : Int)) (fun k => ?_) (ih (i + 1) (by omega))
    have hg : rd (iota n a) (i : Int) = a + i := by
      unfold rd
      rw [List.getD_eq_getElem?_getD, Int.toNat_natCast, iota_get n a i (by omega)]
      rfl
    simp only [laws_heldIntS.l0]
    rw [if_pos (by rw [iota_length]; omega), if_pos (by omega), if_pos hg, w64 (x := (i : Int) + 1) (by omega) (by omega), w64 (by omega) (by omega), Int.add_assoc]
    rfl
theorem heldIntS_ev (n : Nat) (a : Int) (ha : 0 ≤ a) (hb : a + n ≤ 1000000000000) : Ev (fun k => laws_heldIntS.f k (iota n a) a) (a + n) := by
  refine Ev.congr (g := fun k => laws_heldIntS.f k (iota n a) a) (fun k => ?_) (heldIntS_l0 n a ha hb n 0 (by omega))
  unfold laws_heldIntS.f
  simp

theorem markPacketS_l0 (n : Nat) (a : Int) (ha : 0 ≤ a) (hb : a + 2 * n ≤ 1000000000000) : ∀ (d i : Nat), i + d = n → ∀ x : List S40, x.length = n → ∃ l', Ev (fun k => laws_markPacketS.l0 k x (a + 2 * i) (i : Int)) (a + 2 * n, l')
  | 0, i, h, x, hx => ⟨x, Ev.step (f := fun _ => some (a + 2 * (n : Int), x)) (fun k => by simp only [laws_markPacketS.l0]; rw [if_neg (by omega), show i = n by omega]) (Ev.now _)⟩
  | d + 1, i, h, x, hx => by
    obtain ⟨X, hX, hl⟩ : ∃ X : List S40, X.length = n ∧ ∀ k, laws_markPacketS.l0 (k + 1) x (a + 2 * (i : Int)) (i : Int) = laws_markPacketS.l0 k X (a + 2 * ((i + 1 : Nat) : Int)) ((i + 1 : Nat) : Int) := by
      refine ⟨?X, ?len, fun k => ?st⟩
      case st =>
        simp only [laws_markPacketS.l0, Option.bind_some]
        rw [if_pos (by omega), if_pos (by omega), w64 (x := a + 2 * (i : Int) + 1) (by omega) (by omega), w64 (x := a + 2 * (i : Int) + 1 + 1) (by omega) (by omega), w64 (x := (i : Int) + 1) (by omega) (by omega), show a + 2 * (i : Int) + 1 + 1 = a + 2 * ((i + 1 : Nat) : Int) by omega]
        rfl
      case len => simp [hx]
    obtain ⟨l', e⟩ := markPacketS_l0 n a ha hb d (i + 1) (by omega) X hX
    exact ⟨l', Ev.step hl e⟩
theorem markPacketS_ev (l : List S40) (a : Int) (ha : 0 ≤ a) (hb : a + 2 * l.length ≤ 1000000000000) : ∃ l', Ev (fun k => laws_markPacketS.f k l a) (a + 2 * l.length, l') := by
  obtain ⟨l', e⟩ := markPacketS_l0 l.length a ha hb l.length 0 (by omega) l rfl
  refine ⟨l', Ev.congr (fun k => ?_) e⟩
  unfold laws_markPacketS.f
  simp
theorem toInbox_ev (g : List Int) (p : List S38) (hg : g.length ≤ 1048576) (hp : p.length ≤ 1048576) : Ev (fun k => laws_toInbox.f k g p) (g, p.map cvPacket) := by
  unfold laws_toInbox.f
  exact Ev.bind (toIntS_ev g hg) (Ev.bind (toPacketS_ev p hp) (Ev.now _))
theorem eqInbox_ev (g : List Int) (p : List S40) (hg : g.length ≤ 1048576) (hp : p.length ≤ 1048576) : Ev (fun k => laws_eqInbox.f k g p g p) true := by
  unfold laws_eqInbox.f
  refine Ev.bind (eqIntS_ev g hg) (Ev.congr (fun k => if_pos rfl) (Ev.bind (eqPacketS_ev p hp) (Ev.congr (fun k => if_pos rfl) (Ev.now _))))
theorem szInbox_eq (g : List Int) (p : List S38) (hg : g.length ≤ 9223372036854775807) (hp : p.length ≤ 9223372036854775807) : ∃ t, laws_szInbox.f g p 1048576 = some t ∧ (¬ t < 0 → g.length ≤ 1048576 ∧ p.length ≤ 1048576) := by
  unfold laws_szInbox.f laws_szIntS.f laws_szPacketS.f
  rw [w64 (x := 1048576 - (g.length : Int)) (by omega) (by omega)]
  by_cases h1 : 1048576 - (g.length : Int) < 0
  · rw [if_pos h1]
    exact ⟨-1, rfl, by omega⟩
  · rw [if_neg h1]
    simp only [Option.bind_some]
    rw [if_neg h1, w64 (x := 1048576 - (g.length : Int) - (p.length : Int)) (by omega) (by omega)]
    by_cases h2 : 1048576 - (g.length : Int) - (p.length : Int) < 0
    · rw [if_pos h2]
      exact ⟨-1, rfl, by omega⟩
    · rw [if_neg h2]
      simp only [Option.bind_some]
      rw [if_neg h2]
      exact ⟨_, rfl, by omega⟩
/-- the numbers of the early packets ascend -/
def chain (p : List S40) : Nat → Nat → Int → Bool
  | 0, _, _ => true
  | d + 1, i, x => if (rd_T40 p (i : Int)).f0 ≤ x then false else chain p d (i + 1) (rd_T40 p (i : Int)).f0
theorem spec_l0 (g : List Int) (p : List S40) (hp : p.length ≤ 1048576) : ∀ (d i : Nat) (x : Int), i + d = p.length → Ev (fun k => spec_InboxOk.l0 k x (i : Int) g p) (chain p d i x)
  | 0, i, x, h => Ev.step (f := fun _ => some true) (fun k => by simp only [spec_InboxOk.l0]; rw [if_neg (by omega)]) (Ev.now _)
  | d + 1, i, x, h => by
    rw [chain]
    by_cases hc : (rd_T40 p (i : Int)).f0 ≤ x
    · rw [if_pos hc]
      exact Ev.step (f := fun _ => some false) (fun k => by simp only [spec_InboxOk.l0]; rw [if_pos (by omega), if_pos (by omega), if_pos hc]) (Ev.now _)
    · rw [if_neg hc]
      exact Ev.step (fun k => by simp only [spec_InboxOk.l0]; rw [if_pos (by omega), if_pos (by omega), if_neg hc, w64 (by omega) (by omega)]; rfl) (spec_l0 g p hp d (i + 1) _ (by omega))
theorem impl_l0 (g : List Int) (p : List S40) (hp : p.length ≤ 1048576) : ∀ (d i : Nat) (x : Int), i + d = p.length → Ev (fun k => impl_InboxOk.l0 k x p (p.length : Int) (i : Int) g p) (chain p d i x && decide ((g.length : Int) ≤ 1000) && decide ((p.length : Int) ≤ 16))
  | 0, i, x, h => by
    rw [chain]
    by_cases hg : (g.length : Int) ≤ 1000
    · refine Ev.step (f := fun _ => some (decide ((p.length : Int) ≤ 16))) (fun k => by simp only [impl_InboxOk.l0]; rw [if_neg (by omega), if_pos hg]) ?_
      simp only [hg, decide_true, Bool.and_true, Bool.true_and]
      exact Ev.now _
    · refine Ev.step (f := fun _ => some false) (fun k => by simp only [impl_InboxOk.l0]; rw [if_neg (by omega), if_neg hg]) ?_
      simp only [hg, decide_false, Bool.and_false, Bool.false_and]
      exact Ev.now _
  | d + 1, i, x, h => by
    rw [chain]
    by_cases hc : (rd_T40 p (i : Int)).f0 ≤ x
    · rw [if_pos hc, Bool.false_and, Bool.false_and]
      exact Ev.step (f := fun _ => some false) (fun k => by simp only [impl_InboxOk.l0]; rw [if_pos (by omega), if_pos (by omega), if_pos (by omega), if_pos hc]) (Ev.now _)
    · rw [if_neg hc]
      exact Ev.step (fun k => by simp only [impl_InboxOk.l0]; rw [if_pos (by omega), if_pos (by omega), if_pos (by omega), if_neg hc, w64 (by omega) (by omega)]; rfl) (impl_l0 g p hp d (i + 1) _ (by omega))
def okB (g : List Int) (p : List S40) : Bool := chain p p.length 0 (g.length : Int) && decide ((g.length : Int) ≤ 1000) && decide ((p.length : Int) ≤ 16)
theorem impl_ev (g : List Int) (p : List S40) (hp : p.length ≤ 1048576) : Ev (fun k => impl_InboxOk.f k g p) (okB g p) := by
  unfold impl_InboxOk.f
  exact impl_l0 g p hp p.length 0 _ (by omega)
theorem spec_ev (g : List Int) (p : List S40) (hp : p.length ≤ 1048576) : Ev (fun k => spec_InboxOk.f k g p) (okB g p) := by
  unfold okB
  by_cases hg : (g.length : Int) > 1000
  · refine Ev.congr (fun k => by unfold spec_InboxOk.f; rw [if_pos hg]) (Ev.step (f := fun _ => some false) (fun k => by simp only [spec_InboxOk.j0]; rw [if_pos trivial]) ?_)
    rw [decide_eq_false (by omega), Bool.and_false, Bool.false_and]
    exact Ev.now _
  · by_cases hp2 : (p.length : Int) > 16
    · refine Ev.congr (fun k => by unfold spec_InboxOk.f; rw [if_neg hg, decide_eq_true hp2]) (Ev.step (f := fun _ => some false) (fun k => by simp only [spec_InboxOk.j0]; rw [if_pos trivial]) ?_)
      rw [decide_eq_false (p := (p.length : Int) ≤ 16) (by omega), Bool.and_false]
      exact Ev.now _
    · refine Ev.congr (f := fun k => spec_InboxOk.j0 k false g p) (fun k => by unfold spec_InboxOk.f; rw [if_neg hg, decide_eq_false hp2]) (Ev.step (f := fun k => spec_InboxOk.l0 k (g.length : Int) 0 g p) (fun k => by simp only [spec_InboxOk.j0]; rw [if_neg (by decide)]) ?_)
      rw [decide_eq_true (p := (p.length : Int) ≤ 16) (by omega), decide_eq_true (p := (g.length : Int) ≤ 1000) (by omega), Bool.and_true, Bool.and_true]
      exact spec_l0 g p hp p.length 0 _ (by omega)

theorem markInbox_ev (g : List Int) (p : List S40) (hg : g.length ≤ 1048576) (hp : p.length ≤ 1048576) : ∃ l', Ev (fun k => laws_markInbox.f k g p 1) (1 + (g.length : Int) + 2 * (p.length : Int), l') := by
  have e := markIntS_ev g 1 (by omega) (by omega)
  obtain ⟨l', em⟩ := markPacketS_ev p (1 + (g.length : Int)) (by omega) (by omega)
  unfold laws_markInbox.f
  exact ⟨_, Ev.bind e (Ev.bind em (Ev.now _))⟩
/-- the numbers ascend, and lie above x -/
theorem chain_asc (p : List S40) : ∀ (d i : Nat) (x : Int), chain p d i x = true → ∀ j, i ≤ j → j < i + d → x < (rd_T40 p (j : Int)).f0 ∧ ∀ j', j < j' → j' < i + d → (rd_T40 p (j : Int)).f0 < (rd_T40 p (j' : Int)).f0
  | 0, i, x, h, j, h1, h2 => by omega
  | d + 1, i, x, h, j, h1, h2 => by
    rw [chain] at h
    by_cases hc : (rd_T40 p (i : Int)).f0 ≤ x
    · rw [if_pos hc] at h
      cases h
    · rw [if_neg hc] at h
      have ih := chain_asc p d (i + 1) _ h
      by_cases e : j = i
      · subst e
        refine ⟨by omega, fun j' h3 h4 => ?_⟩
        exact (ih j' (by omega) (by omega)).1
      · have h5 := ih j (by omega) (by omega)
        exact ⟨by omega, fun j' h3 h4 => h5.2 j' h3 (by omega)⟩
theorem miss_l0 (until_ : Int) (hu : until_ ≤ 2000) (g : List Int) (p : List S40) (hp : p.length ≤ 16) (hasc : ∀ j j' : Nat, j < j' → j' < p.length → (rd_T40 p (j : Int)).f0 < (rd_T40 p (j' : Int)).f0) :
    ∀ (d n q : Nat) (o : List Int), (n : Int) + d = until_ ∨ (d = 0 ∧ until_ ≤ n) → q ≤ p.length → (∀ j : Nat, j < q → (rd_T40 p (j : Int)).f0 < n) → (∀ j : Nat, q ≤ j → j < p.length → (n : Int) ≤ (rd_T40 p (j : Int)).f0) → o.length ≤ n → n ≤ 1000000 →
      ∃ r : List Int, r.length ≤ 1000000 ∧ Ev (fun k => spec_Missing.l0 k until_ o (q : Int) (n : Int) g p) r ∧ Ev (fun k => impl_Inbox_missing.l0 k until_ o (n : Int) g p) r
  | 0, n, q, o, hd, hq, hb, ha, ho, hn => ⟨o, by omega, Ev.step (f := fun _ => some o) (fun k => by simp only [spec_Missing.l0]; rw [if_neg (by omega)]) (Ev.now _), Ev.step (f := fun _ => some o) (fun k => by simp only [impl_Inbox_missing.l0]; rw [if_neg (by omega)]) (Ev.now _)⟩
  | d + 1, n, q, o, hd, hq, hb, ha, ho, hn => by
    have hlt : (n : Int) < until_ := by omega
    have hnn : n + 1 ≤ 1000000 := by omega
    have w1 : wrap64 ((n : Int) + 1) = ((n + 1 : Nat) : Int) := by rw [w64 (by omega) (by omega)]; omega
    have hbs : U.bsW (fun i => (rd_T40 p (i : Int)).f0) (n : Int) 0 p.length = q := U.bsW_split (n := p.length) (fun j hj => hb j hj) (fun j h1 h2 => by have := ha j h1 h2; omega) p.length 0 p.length (by omega) (by omega) hq (by omega)
    have he : impl_Inbox_early.f g p (n : Int) = some ((q : Int), (decide (q < p.length) && ((rd_T40 p (q : Int)).f0 == (n : Int)))) := by
      unfold impl_Inbox_early.f impl_Packet_int.f
      rw [hbs]
      rfl
    by_cases hf : q < p.length ∧ (rd_T40 p (q : Int)).f0 = (n : Int)
    · obtain ⟨r, hr, e1, e2⟩ := miss_l0 until_ hu g p hp hasc d (n + 1) (q + 1) o (by omega) (by omega) (fun j hj => by
          by_cases e : j = q
          · rw [e]; omega
          · have := hb j (by omega); omega) (fun j h1 h2 => by have := hasc q j (by omega) h2; omega) (by omega) hnn
      have hfb : (decide (q < p.length) && ((rd_T40 p (q : Int)).f0 == (n : Int))) = true := by rw [decide_eq_true hf.1, beq_iff_eq.2 hf.2]; rfl
      refine ⟨r, hr, Ev.step (fun k => ?_) e1, Ev.step (fun k => ?_) e2⟩
      · simp only [spec_Missing.l0]
        rw [if_pos hlt, if_pos (by omega), if_pos (by omega), if_pos hf.2, w64 (x := (q : Int) + 1) (by omega) (by omega), w1]
        rfl
      · simp only [impl_Inbox_missing.l0]
        rw [if_pos hlt, he, Option.bind_some, hfb, if_pos rfl, w1]
    · obtain ⟨r, hr, e1, e2⟩ := miss_l0 until_ hu g p hp hasc d (n + 1) q (o ++ [(n : Int)]) (by omega) hq (fun j hj => by have := hb j hj; omega) (fun j h1 h2 => by
          have h3 := ha j h1 h2
          by_cases e : j = q
          · subst e
            have : (rd_T40 p (j : Int)).f0 ≠ (n : Int) := fun h4 => hf ⟨h2, h4⟩
            omega
          · have h4 := hasc q j (by omega) h2
            have h5 := ha q (by omega) (by omega)
            omega) (by simp; omega) hnn
      have hfb : (decide (q < p.length) && ((rd_T40 p (q : Int)).f0 == (n : Int))) = false := by
        by_cases h1 : q < p.length
        · rw [decide_eq_true h1, Bool.true_and, beq_eq_false_iff_ne]
          exact fun h2 => hf ⟨h1, h2⟩
        · rw [decide_eq_false h1, Bool.false_and]
      refine ⟨r, hr, Ev.step (fun k => ?_) e1, Ev.step (fun k => ?_) e2⟩
      · simp only [spec_Missing.l0]
        rw [if_pos hlt]
        by_cases h1 : (q : Int) < (p.length : Int)
        · rw [if_pos h1, if_pos (by omega), if_neg (fun h2 => hf ⟨by omega, h2⟩), if_pos (by omega), w1]
        · rw [if_neg h1, if_pos (by omega), w1]
      · simp only [impl_Inbox_missing.l0]
        rw [if_pos hlt, he, Option.bind_some, hfb, if_neg Bool.false_ne_true, if_pos (by omega), w1]
theorem same (g : List Int) (p : List S40) (u : Int) (hp : p.length ≤ 1048576) : ∃ r : List Int, r.length ≤ 1000000 ∧ Ev (fun k => spec_Missing.f k g p u) r ∧ Ev (fun k => impl_Missing.f k g p u) r := by
  have s := spec_ev g p hp
  have t := impl_ev g p hp
  have bad : ∀ b : Bool, b = true → Ev (fun k => spec_Missing.j0 k u [] b g p) [] := fun b hb => by
    subst hb
    exact Ev.step (f := fun _ => some []) (fun k => by simp only [spec_Missing.j0]; rw [if_pos trivial]) (Ev.now _)
  have hS : ∀ k, spec_Missing.f k g p u = (spec_InboxOk.f k g p).bind fun t111 => (if t111 = true then (spec_Missing.j0 k u [] (decide (u > 2000)) g p) else (spec_Missing.j0 k u [] true g p)) := fun k => rfl
  cases ho : okB g p with
  | false =>
    rw [ho] at s t
    refine ⟨[], by simp, Ev.congr hS (Ev.bind s (Ev.congr (fun k => if_neg (by decide)) (bad true rfl))), ?_⟩
    unfold impl_Missing.f
    exact Ev.bind t (Ev.congr (fun k => if_neg (by decide)) (Ev.now _))
  | true =>
    have ho2 := ho
    rw [ho] at s t
    unfold okB at ho2
    rw [Bool.and_eq_true, Bool.and_eq_true, decide_eq_true_eq, decide_eq_true_eq] at ho2
    obtain ⟨⟨hch, hgl⟩, hpl⟩ := ho2
    by_cases hu : u > 2000
    · refine ⟨[], by simp, Ev.congr hS (Ev.bind s (Ev.congr (fun k => if_pos rfl) (bad _ (decide_eq_true hu)))), ?_⟩
      unfold impl_Missing.f
      exact Ev.bind t (Ev.congr (fun k => if_pos rfl) (Ev.congr (fun k => if_pos hu) (Ev.now _)))
    · have hc := chain_asc p p.length 0 _ hch
      obtain ⟨r, hr, e1, e2⟩ := miss_l0 u (by omega) g p (by omega) (fun j j' h1 h2 => (hc j (by omega) (by omega)).2 j' h1 (by omega)) (u - (g.length : Int)).toNat g.length 0 [] (by omega) (by omega) (fun j hj => by omega) (fun j _ h2 => by have := (hc j (by omega) (by omega)).1; omega) (by simp) (by omega)
      refine ⟨r, hr, Ev.congr hS (Ev.bind s (Ev.congr (fun k => if_pos rfl) ?_)), ?_⟩
      · rw [decide_eq_false hu]
        exact Ev.step (fun k => by simp only [spec_Missing.j0]; rw [if_neg (by decide)]; rfl) e1
      · unfold impl_Missing.f
        refine Ev.bind t (Ev.congr (fun k => if_pos rfl) (Ev.congr (fun k => if_neg hu) (Ev.bind (a := r) ?_ (Ev.now _))))
        unfold impl_Inbox_missing.f
        exact e2
theorem law_ev (g : List Int) (p : List S38) (u : Int) (hg : g.length ≤ 9223372036854775807) (hp : p.length ≤ 9223372036854775807) : ∃ k, laws_FnExactMissing.f k g p u = some true := by
  obtain ⟨t, ht, hs⟩ := szInbox_eq g p hg hp
  refine Ev.rounds (g := fun k => laws_FnExactMissing.f k g p u) ?_
  unfold laws_FnExactMissing.f
  by_cases h0 : t < 0
  · exact Ev.congr (fun k => by rw [ht, Option.bind_some, if_pos h0]) (Ev.now _)
  · obtain ⟨h1, h2⟩ := hs h0
    have h3 : (p.map cvPacket).length ≤ 1048576 := by rw [List.length_map]; exact h2
    obtain ⟨w, hw, e1, e2⟩ := same g (p.map cvPacket) u h3
    obtain ⟨l', em⟩ := markInbox_ev g (p.map cvPacket) h1 h3
    have tm := toInbox_ev g p h1 h2
    have qm := eqInbox_ev g (p.map cvPacket) h1 h3
    have qw := eqIntS_ev w (by omega)
    have hm := markIntS_ev w 1 (by omega) (by omega)
    have hh := heldIntS_ev w.length 1 (by omega) (by omega)
    have hneg : ¬ ((1 : Int) + (g.length : Int) + 2 * ((p.map cvPacket).length : Int) < 0) := by omega
    have hneg' : ¬ ((1 : Int) + (w.length : Int) < 0) := by omega
    refine Ev.congr (fun k => by rw [ht, Option.bind_some, if_neg h0]) ?_
    refine Ev.bind tm (Ev.bind e1 (Ev.bind tm (Ev.bind e2 (Ev.bind qw ?_))))
    simp only [if_true]
    refine Ev.bind tm (Ev.bind qm ?_)
    simp only [if_true]
    refine Ev.bind em ?_
    simp only [hneg, if_false]
    refine Ev.bind qw ?_
    refine Ev.step (f := fun k => (laws_markIntS.f k w 1).bind fun bt => ((laws_heldIntS.f k bt.2 1).bind fun t1 => (if t1 < 0 then (some false) else (if t1 = bt.1 then ((laws_toInbox.f k g p).bind fun bt2 => ((impl_Missing.f k bt2.1 bt2.2 u).bind fun t2 => ((laws_eqIntS.f k t2 w).bind fun t3 => (if t3 = true then ((laws_heldIntS.f k bt.2 1).bind fun t4 => (if t4 < 0 then (some false) else (if t4 = bt.1 then (some true) else (some false)))) else (some false))))) else (some false))))) (fun k => ?_) ?_
    · simp only [laws_FnExactMissing.j0]; rw [if_neg (by decide)]
    refine Ev.bind hm (Ev.bind hh ?_)
    simp only [hneg', if_false, if_true]
    refine Ev.bind tm (Ev.bind e2 (Ev.bind qw ?_))
    simp only [if_true]
    refine Ev.bind hh ?_
    simp only [hneg', if_false, if_true]
    exact Ev.now _

end Go.Proofs.Ytjpompdnehpkfaa.UMissing

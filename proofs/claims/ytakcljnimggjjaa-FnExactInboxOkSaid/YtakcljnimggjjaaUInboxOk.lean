/- InboxOk of the program and of the reference answer the same at every inbox. -/
import Derived.Test.YtakcljnimggjjaaPFnExactInboxOkx3
import Derived.Test.YtakcljnimggjjaaPu
set_option linter.unusedVariables false
set_option linter.unusedSimpArgs false
namespace Go.Proofs.Ytakcljnimggjjaa.UInboxOk
open Go.RowKit Go.Proofs.Ytakcljnimggjjaa.PFnExactInboxOk Go.Proofs.YtakcljnimggjjaaW.PrintWords Go.Proofs.YtakcljnimggjjaaW.PrintLast Go.Proofs.YtakcljnimggjjaaW.PrintMore Go.Proofs.Ytakcljnimggjjaa.Pu

abbrev LP := S102
abbrev IP := S80
def cv (x : LP) : IP := ⟨x.f0, x.f1⟩
theorem toIntS_ev (l : List Int) (hn : l.length ≤ 1048576) : Ev (fun k => laws_toIntS.f k l) l := by
  have h := copy_ev (fun k x3 i => laws_toIntS.l0 k l x3 i) l id
    (fun x3 hx => Ev.step (f := fun _ => some x3) (fun k => by simp only [laws_toIntS.l0]; rw [if_neg (by omega)]) (Ev.now _))
    (fun i x3 r h hx e => Ev.step (fun k => by
      simp only [laws_toIntS.l0]
      rw [if_pos (by omega), if_pos (by omega), if_pos (by omega), w64 (by omega) (by omega), rd_at l i h]
      rfl) e) (List.replicate l.length 0) (by simp)
  rw [List.map_id] at h
  refine Ev.congr (fun k => ?_) h
  unfold laws_toIntS.f
  rw [if_pos (by omega), if_pos (by omega)]
  rfl
theorem toPacketS_ev (l : List LP) (hn : l.length ≤ 1048576) : Ev (fun k => laws_toPacketS.f k l) (l.map cv) := by
  have h := copy_ev (fun k x3 i => laws_toPacketS.l0 k l x3 i) l cv
    (fun x3 hx => Ev.step (f := fun _ => some x3) (fun k => by simp only [laws_toPacketS.l0]; rw [if_neg (by omega)]) (Ev.now _))
    (fun i x3 r h hx e => Ev.step (fun k => by
      simp only [laws_toPacketS.l0]
      rw [if_pos (by omega), if_pos (by omega)]
      simp only [laws_toPacket.f, Option.bind_some]
      rw [if_pos (by omega), w64 (by omega) (by omega), show rd_T102 l (i : Int) = l[i] from getD_at l _ i h]
      rfl) e) (List.replicate l.length z80) (by simp)
  refine Ev.congr (fun k => ?_) h
  unfold laws_toPacketS.f
  rw [if_pos (by omega), if_pos (by omega)]
  rfl
theorem eqIntS_ev (a : List Int) (hn : a.length ≤ 1048576) : Ev (fun k => laws_eqIntS.f k a a) true := by
  have h := loop_ev (fun k i => laws_eqIntS.l0 k a a i) a.length true
    (Ev.step (f := fun _ => some true) (fun k => by simp only [laws_eqIntS.l0]; rw [if_neg (by omega)]) (Ev.now _))
    (fun i hi e => Ev.step (fun k => by
      simp only [laws_eqIntS.l0]
      rw [if_pos (by omega), if_pos (by omega), if_pos (by omega), if_pos (show True from trivial), w64 (by omega) (by omega)]
      rfl) e) a.length 0 (by omega)
  refine Ev.congr (fun k => ?_) h
  unfold laws_eqIntS.f
  rw [if_pos rfl]
  rfl
theorem eqPacketS_ev (a : List IP) (hn : a.length ≤ 1048576) : Ev (fun k => laws_eqPacketS.f k a a) true := by
  have h := loop_ev (fun k i => laws_eqPacketS.l0 k a a i) a.length true
    (Ev.step (f := fun _ => some true) (fun k => by simp only [laws_eqPacketS.l0]; rw [if_neg (by omega)]) (Ev.now _))
    (fun i hi e => Ev.step (fun k => by
      simp only [laws_eqPacketS.l0]
      rw [if_pos (by omega), if_pos (by omega), if_pos (by omega)]
      simp only [laws_eqPacket.f, if_true, Option.bind_some]
      rw [w64 (by omega) (by omega)]
      rfl) e) a.length 0 (by omega)
  refine Ev.congr (fun k => ?_) h
  unfold laws_eqPacketS.f
  rw [if_pos rfl]
  rfl
theorem toInbox_ev (g : List Int) (p : List LP) (hg : g.length ≤ 1048576) (hp : p.length ≤ 1048576) : Ev (fun k => laws_toInbox.f k g p) (g, p.map cv) := by
  unfold laws_toInbox.f
  exact Ev.bind (toIntS_ev g hg) (Ev.bind (toPacketS_ev p hp) (Ev.now _))
theorem eqInbox_ev (g : List Int) (p : List IP) (hg : g.length ≤ 1048576) (hp : p.length ≤ 1048576) : Ev (fun k => laws_eqInbox.f k g p g p) true := by
  unfold laws_eqInbox.f
  refine Ev.bind (eqIntS_ev g hg) (Ev.congr (fun k => if_pos rfl) (Ev.bind (eqPacketS_ev p hp) (Ev.congr (fun k => if_pos rfl) (Ev.now _))))
theorem szInbox_eq (g : List Int) (p : List LP) (hg : g.length ≤ 9223372036854775807) (hp : p.length ≤ 9223372036854775807) : ∃ t, laws_szInbox.f g p 1048576 = some t ∧ (¬ t < 0 → g.length ≤ 1048576 ∧ p.length ≤ 1048576) := by
  unfold laws_szInbox.f laws_szIntS.f laws_szPacketS.f
  rw [w64 (x := 1048576 - (g.length : Int)) (by omega) (by omega)]
  by_cases h1 : 1048576 - (g.length : Int) < 0
  · rw [if_pos h1]
    exact ⟨-1, rfl, by omega⟩
  · rw [if_neg h1]
    simp only [Option.bind_some]
    rw [if_neg h1, w64 (x := 1048576 - (g.length : Int) - (p.length : Int)) (by omega) (by omega)]
    by_cases h2 : 1048576 - (g.length : Int) - (p.length : Int) < 0
    · rw [if_pos h2]
      exact ⟨-1, rfl, by omega⟩
    · rw [if_neg h2]
      simp only [Option.bind_some]
      rw [if_neg h2]
      exact ⟨_, rfl, by omega⟩
/-- the numbers of the early packets ascend -/
def chain (p : List IP) : Nat → Nat → Int → Bool
  | 0, _, _ => true
  | d + 1, i, x => if (rd_T80 p (i : Int)).f0 ≤ x then false else chain p d (i + 1) (rd_T80 p (i : Int)).f0
theorem spec_l0 (g : List Int) (p : List IP) (hp : p.length ≤ 1048576) : ∀ (d i : Nat) (x : Int), i + d = p.length → Ev (fun k => spec_InboxOk.l0 k x (i : Int) g p) (chain p d i x)
  | 0, i, x, h => Ev.step (f := fun _ => some true) (fun k => by simp only [spec_InboxOk.l0]; rw [if_neg (by omega)]) (Ev.now _)
  | d + 1, i, x, h => by
    rw [chain]
    by_cases hc : (rd_T80 p (i : Int)).f0 ≤ x
    · rw [if_pos hc]
      exact Ev.step (f := fun _ => some false) (fun k => by simp only [spec_InboxOk.l0]; rw [if_pos (by omega), if_pos (by omega), if_pos hc]) (Ev.now _)
    · rw [if_neg hc]
      exact Ev.step (fun k => by simp only [spec_InboxOk.l0]; rw [if_pos (by omega), if_pos (by omega), if_neg hc, w64 (by omega) (by omega)]; rfl) (spec_l0 g p hp d (i + 1) _ (by omega))
theorem impl_l0 (g : List Int) (p : List IP) (hp : p.length ≤ 1048576) : ∀ (d i : Nat) (x : Int), i + d = p.length → Ev (fun k => impl_InboxOk.l0 k x p (p.length : Int) (i : Int) g p) (chain p d i x && decide ((g.length : Int) ≤ 1000) && decide ((p.length : Int) ≤ 16))
  | 0, i, x, h => by
    rw [chain]
    by_cases hg : (g.length : Int) ≤ 1000
    · refine Ev.step (f := fun _ => some (decide ((p.length : Int) ≤ 16))) (fun k => by simp only [impl_InboxOk.l0]; rw [if_neg (by omega), if_pos hg]) ?_
      simp only [hg, decide_true, Bool.and_true, Bool.true_and]
      exact Ev.now _
    · refine Ev.step (f := fun _ => some false) (fun k => by simp only [impl_InboxOk.l0]; rw [if_neg (by omega), if_neg hg]) ?_
      simp only [hg, decide_false, Bool.and_false, Bool.false_and]
      exact Ev.now _
  | d + 1, i, x, h => by
    rw [chain]
    by_cases hc : (rd_T80 p (i : Int)).f0 ≤ x
    · rw [if_pos hc, Bool.false_and, Bool.false_and]
      exact Ev.step (f := fun _ => some false) (fun k => by simp only [impl_InboxOk.l0]; rw [if_pos (by omega), if_pos (by omega), if_pos (by omega), if_pos hc]) (Ev.now _)
    · rw [if_neg hc]
      exact Ev.step (fun k => by simp only [impl_InboxOk.l0]; rw [if_pos (by omega), if_pos (by omega), if_pos (by omega), if_neg hc, w64 (by omega) (by omega)]; rfl) (impl_l0 g p hp d (i + 1) _ (by omega))
def okB (g : List Int) (p : List IP) : Bool := chain p p.length 0 (g.length : Int) && decide ((g.length : Int) ≤ 1000) && decide ((p.length : Int) ≤ 16)
theorem impl_ev (g : List Int) (p : List IP) (hp : p.length ≤ 1048576) : Ev (fun k => impl_InboxOk.f k g p) (okB g p) := by
  unfold impl_InboxOk.f
  exact impl_l0 g p hp p.length 0 _ (by omega)
theorem spec_ev (g : List Int) (p : List IP) (hp : p.length ≤ 1048576) : Ev (fun k => spec_InboxOk.f k g p) (okB g p) := by
  unfold okB
  by_cases hg : (g.length : Int) > 1000
  · refine Ev.congr (fun k => by unfold spec_InboxOk.f; rw [if_pos hg]) (Ev.step (f := fun _ => some false) (fun k => by simp only [spec_InboxOk.j0]; rw [if_pos trivial]) ?_)
    rw [decide_eq_false (by omega), Bool.and_false, Bool.false_and]
    exact Ev.now _
  · by_cases hp2 : (p.length : Int) > 16
    · refine Ev.congr (fun k => by unfold spec_InboxOk.f; rw [if_neg hg, decide_eq_true hp2]) (Ev.step (f := fun _ => some false) (fun k => by simp only [spec_InboxOk.j0]; rw [if_pos trivial]) ?_)
      rw [decide_eq_false (p := (p.length : Int) ≤ 16) (by omega), Bool.and_false]
      exact Ev.now _
    · refine Ev.congr (f := fun k => spec_InboxOk.j0 k false g p) (fun k => by unfold spec_InboxOk.f; rw [if_neg hg, decide_eq_false hp2]) (Ev.step (f := fun k => spec_InboxOk.l0 k (g.length : Int) 0 g p) (fun k => by simp only [spec_InboxOk.j0]; rw [if_neg (by decide)]) ?_)
      rw [decide_eq_true (p := (p.length : Int) ≤ 16) (by omega), decide_eq_true (p := (g.length : Int) ≤ 1000) (by omega), Bool.and_true, Bool.and_true]
      exact spec_l0 g p hp p.length 0 _ (by omega)
theorem law_ev (g : List Int) (p : List LP) (hg : g.length ≤ 9223372036854775807) (hp : p.length ≤ 9223372036854775807) : ∃ k, laws_FnExactInboxOk.f k g p = some true := by
  obtain ⟨t, ht, hs⟩ := szInbox_eq g p hg hp
  refine Ev.rounds (g := fun k => laws_FnExactInboxOk.f k g p) ?_
  unfold laws_FnExactInboxOk.f
  by_cases h0 : t < 0
  · exact Ev.congr (fun k => by rw [ht, Option.bind_some, if_pos h0]) (Ev.now _)
  · obtain ⟨h1, h2⟩ := hs h0
    have h3 : (p.map cv).length ≤ 1048576 := by rw [List.length_map]; exact h2
    refine Ev.congr (fun k => by rw [ht, Option.bind_some, if_neg h0]) ?_
    refine Ev.bind (toInbox_ev g p h1 h2) (Ev.bind (spec_ev g (p.map cv) h3) (Ev.bind (toInbox_ev g p h1 h2) (Ev.bind (impl_ev g (p.map cv) h3) ?_)))
    refine Ev.congr (fun k => by rw [if_neg (by simp)]) (Ev.bind (toInbox_ev g p h1 h2) (Ev.bind (eqInbox_ev g (p.map cv) h1 h3) (Ev.congr (fun k => if_pos rfl) (Ev.now _))))
end Go.Proofs.Ytakcljnimggjjaa.UInboxOk

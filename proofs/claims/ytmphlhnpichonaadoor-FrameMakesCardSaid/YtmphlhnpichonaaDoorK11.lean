/- How the blocks of a call's own go on: new ones, writes, what is protected. -/
import Derived.Test.YtmphlhnpichonaaDoorK10
set_option maxHeartbeats 400000
set_option linter.unusedVariables false
set_option linter.unusedSimpArgs false
namespace Go.Proofs.YtmphlhnpichonaaDoor.K
open Go Go.RowKit

def upd (m : Nat → Value) (id : Nat) (v : Value) : Nat → Value := fun j => if j = id then v else m j

theorem upd_same (m : Nat → Value) (id : Nat) (v : Value) : upd m id v id = v := by simp [upd]
theorem upd_ne {m : Nat → Value} {id j : Nat} {v : Value} (h : j ≠ id) : upd m id v j = m j := by simp [upd, h]

structure Goes (B : Nat) (X : Nat → Bool) (m : Nat → Value) (L : Heap) (w : World) (S : Nat → Nat → Prop) (m' : Nat → Value) (L' : Heap) (w' : World) (S' : Nat → Nat → Prop) : Prop where
  inv : Inv B m' L' w' S'
  safe : Safe S S' w w'
  below : Below B w w'
  ext : Ext X m L m' L'
  new : ∀ b o, S' b o → S b o ∨ B ≤ b

/-- Old blocks are as they were. -/
structure Grows (w w' : World) : Prop where
  os : w'.os = w.os
  tape : w'.tape = w.tape
  output : w'.output = w.output
  size : w.heap.size ≤ w'.heap.size
  block : ∀ k, k < w.heap.size → w'.heap[k]? = w.heap[k]?

section
variable {C : Cfg} {B : Nat} {m : Nat → Value} {L : Heap} {w w' : World} {S S' : Nat → Nat → Prop}

theorem Grows.refl (w : World) : Grows w w := ⟨rfl, rfl, rfl, Nat.le_refl _, fun _ _ => rfl⟩
theorem Grows.alloc (w : World) (o : Obj) : Grows w (w.alloc o) := ⟨rfl, rfl, rfl, by simp, fun k hk => Below.heap_alloc _ _ _ hk⟩
theorem Grows.below (h : Grows w w') (hB : B ≤ w.heap.size) : Below B w w' := ⟨h.os, h.tape, h.output, h.size, fun k hk => h.block k (by omega)⟩
theorem Grows.of_below (h : Below w.heap.size w w') : Grows w w' := ⟨h.os, h.tape, h.output, h.size, h.block⟩

theorem Grows.cell (h : Grows w w') {b o : Nat} (hb : b < w.heap.size) : w'.cell? ⟨b, o, none⟩ = w.cell? ⟨b, o, none⟩ := World.cell?_of_block (a := ⟨b, o, none⟩) (h.block b hb)

theorem Grows.safe (hI : Inv B m L w S) (h : Grows w w') : Safe S S w w' := ⟨fun _ _ h => h, fun b o hs => h.cell (hI.prot b o hs).1⟩

theorem blk_of_row {t : TypeId} {sz n : Nat} {v : Value} {cs : List Value} (h : w.ownsRow B t sz v n cs) : ∀ b, blk v = some b → B ≤ b ∧ b < w.heap.size := by
  intro b hb
  rcases h.2 with ⟨rfl, _⟩ | ⟨g, cap, cur, rfl, hg, hh, _⟩
  · simp [blk] at hb
  · simp [blk] at hb
    subst hb
    exact ⟨hg, (Array.getElem?_eq_some_iff.1 hh).1⟩

theorem blk_own {t : TypeId} {sz n : Nat} {v : Value} {cs : List Value} (h : w.ownsRow B t sz v n cs) : v.ownBlock = blk v := by
  rcases h.2 with ⟨rfl, _⟩ | ⟨g, cap, cur, rfl, _⟩ <;> rfl

theorem Inv.lt (hI : Inv B m L w S) {i : Nat} {s : Slot} (hs : L[i]? = some s) (hl : s.live = true) {b : Nat} (hb : blk (m i) = some b) : B ≤ b ∧ b < w.heap.size := by
  cases s with
  | box T x ro =>
    obtain ⟨b', cs, el, fr, hm, h1, h2, _⟩ := hI.box i T x ro hs
    rw [hm] at hb
    simp [blk] at hb
    subst hb
    exact ⟨h1, (Array.getElem?_eq_some_iff.1 h2).1⟩
  | row t e xs ro =>
    obtain ⟨cs, h1, _⟩ := hI.row i t e xs ro hs
    exact blk_of_row h1 b hb
  | gone => simp [Slot.live] at hl
  | resv => simp [Slot.live] at hl

theorem row_grows {t : TypeId} {sz n : Nat} {v : Value} {cs : List Value} (hg : Grows w w') (h : w.ownsRow B t sz v n cs) : w'.ownsRow B t sz v n cs := by
  refine ⟨h.1, h.2.imp id ?_⟩
  rintro ⟨g, cap, cur, hv, hb, hh, r⟩
  exact ⟨g, cap, cur, hv, hb, by rw [hg.block g (Array.getElem?_eq_some_iff.1 hh).1]; exact hh, r⟩

/-- Memory grows: all that was known is known. -/
theorem Inv.grows (hI : Inv B m L w S) (hg : Grows w w') : Inv B m L w' S := by
  have hs := hg.safe hI
  refine ⟨Nat.le_trans hI.base hg.size, ?_, ?_, hI.apart, ?_⟩
  · intro id T x ro h
    obtain ⟨b, cs, el, fr, hm, h1, h2, h3, h4⟩ := hI.box id T x ro h
    exact ⟨b, cs, el, fr, hm, h1, by rw [hg.block b (Array.getElem?_eq_some_iff.1 h2).1]; exact h2, h3, h4.safe hs⟩
  · intro id t e xs ro h
    obtain ⟨cs, h1, h2⟩ := hI.row id t e xs ro h
    exact ⟨cs, row_grows hg h1, RepL.mono (fun x c h => h.safe hs) h2⟩
  · intro b o h
    obtain ⟨h1, h2⟩ := hI.prot b o h
    exact ⟨Nat.lt_of_lt_of_le h1 hg.size, h2⟩

theorem Goes.grows (hI : Inv B m L w S) (hg : Grows w w') (X : Nat → Bool) : Goes B X m L w S m L w' S :=
  ⟨hI.grows hg, hg.safe hI, hg.below hI.base, Ext.refl X m L, fun _ _ h => .inl h⟩

theorem Goes.trans {X : Nat → Bool} {m1 m2 : Nat → Value} {L1 L2 : Heap} {w1 w2 : World} {S1 S2 : Nat → Nat → Prop} (h : Goes B X m L w S m1 L1 w1 S1) (k : Goes B X m1 L1 w1 S1 m2 L2 w2 S2) : Goes B X m L w S m2 L2 w2 S2 :=
  ⟨k.inv, h.safe.trans k.safe, h.below.trans k.below, h.ext.trans k.ext, fun b o hs => (k.new b o hs).elim (h.new b o) .inr⟩

theorem get_set {id : Nat} {s : Slot} (h : ∃ r, L[id]? = some r) (j : Nat) : (L.set id s)[j]? = if j = id then some s else L[j]? := by
  obtain ⟨r, h⟩ := h
  have hlt : id < L.length := by
    rcases Nat.lt_or_ge id L.length with h' | h'
    · exact h'
    · rw [List.getElem?_eq_none h'] at h; cases h
  by_cases e : j = id
  · subst e; simp [hlt]
  · rw [List.getElem?_set_ne (Ne.symm e), if_neg e]

/-- A reserved place becomes a block. -/
theorem Goes.fresh (hI : Inv B m L w S) (hg : Grows w w') {id : Nat} (hid : L[id]? = some .resv) {s : Slot} {v : Value} (hv : ∀ b, blk v = some b → w.heap.size ≤ b)
    (hbox : ∀ T x ro, s = .box T x ro → ∃ b cs el fr, v = .pointer (some ⟨b, 0, none⟩) ∧ B ≤ b ∧ w'.heap[b]? = some (.cells cs.toArray el fr) ∧ (∀ o, o < cs.length → ¬ (fr.1 ≤ o ∧ o < fr.2)) ∧ RepC w' S T x cs)
    (hrow : ∀ t e (xs : List e.I) ro, s = .row t e xs ro → ∃ cs, w'.ownsRow B t e.size v xs.length cs ∧ RepL (RepC w' S e) xs cs) (X : Nat → Bool) :
    Goes B X m L w S (upd m id v) (L.set id s) w' S := by
  have hI' := hI.grows hg
  have gs := get_set (s := s) ⟨_, hid⟩
  refine ⟨⟨hI'.base, ?_, ?_, ?_, ?_⟩, hg.safe hI, hg.below hI.base, ⟨?_⟩, fun _ _ h => .inl h⟩
  · intro j T x ro h
    rw [gs] at h
    split at h
    · rename_i e; subst e; cases h; rw [upd_same]; exact hbox T x ro rfl
    · rename_i e; rw [upd_ne e]; exact hI'.box j T x ro h
  · intro j t e xs ro h
    rw [gs] at h
    split at h
    · rename_i e'; subst e'; cases h; rw [upd_same]; exact hrow t e xs ro rfl
    · rename_i e'; rw [upd_ne e']; exact hI'.row j t e xs ro h
  · intro i j s1 s2 hne h1 h2 l1 l2
    rw [gs] at h1 h2
    have old : ∀ k r, k ≠ id → L[k]? = some r → r.live = true → blk v = none ∨ blk v ≠ blk (m k) := by
      intro k r hk hr hl
      cases hb : blk v with
      | none => exact .inl rfl
      | some b =>
        right
        intro e
        have := hI.lt hr hl e.symm
        have := hv b hb
        omega
    split at h1
    · rename_i e; subst e
      split at h2
      · rename_i e; exact absurd e.symm hne
      · rename_i e; rw [upd_same, upd_ne e]; exact old j s2 e h2 l2
    · rename_i e
      split at h2
      · rename_i e2; subst e2
        rw [upd_same, upd_ne e]
        rcases old i s1 e h1 l1 with h | h
        · cases hb : blk (m i) with
          | none => exact .inl rfl
          | some b => right; rw [h]; simp
        · exact .inr (Ne.symm h)
      · rename_i e2; rw [upd_ne e, upd_ne e2]; exact hI.apart i j s1 s2 hne h1 h2 l1 l2
  · intro b o hs
    obtain ⟨p1, p2⟩ := hI'.prot b o hs
    refine ⟨p1, fun i r hr hl hb => ?_⟩
    rw [gs] at hr
    split at hr
    · rename_i e; subst e
      rw [upd_same] at hb
      have := hv b hb
      have := (hI.prot b o hs).1
      omega
    · rename_i e; rw [upd_ne e] at hb; exact p2 i r hr hl hb
  · intro j r hr hne
    have hj : j ≠ id := fun e => by subst e; rw [hid] at hr; cases hr; exact hne rfl
    refine ⟨r, by rw [gs, if_neg hj]; exact hr, hne, fun T x ro e => ⟨upd_ne hj, x, ro, e⟩, fun t e xs ro _ h => ⟨upd_ne hj, xs, ro, h, Nat.le_refl _⟩⟩

def Slot.mark : Slot → Slot
  | .box T x _ => .box T x true
  | .row t e xs _ => .row t e xs true
  | s => s

theorem Slot.mark_live (s : Slot) : s.mark.live = s.live := by cases s <;> rfl
theorem Slot.mark_cells (s : Slot) : s.mark.cells = s.cells := by cases s <;> rfl
theorem Slot.mark_ro (s : Slot) (h : s.live = true) : s.mark.ro = true := by cases s <;> first | rfl | simp [Slot.live] at h
theorem Slot.mark_resv {s : Slot} : s.mark = .resv ↔ s = .resv := by cases s <;> simp [Slot.mark]

/-- The cells of one's own block, protected. -/
def addS (S : Nat → Nat → Prop) (m : Nat → Value) (L : Heap) (id : Nat) : Nat → Nat → Prop :=
  fun b o => S b o ∨ ∃ s, L[id]? = some s ∧ s.live = true ∧ blk (m id) = some b ∧ o < s.cells

/-- One's own block may be read from now on, and not be written. -/
theorem Goes.mark (hI : Inv B m L w S) {id : Nat} {s : Slot} (hid : L[id]? = some s) (X : Nat → Bool) : Goes B X m L w S m (L.set id s.mark) w (addS S m L id) := by
  have gs := get_set (s := s.mark) ⟨_, hid⟩
  have hs : Safe S (addS S m L id) w w := ⟨fun _ _ h => .inl h, fun _ _ _ => rfl⟩
  have back : ∀ j r, (L.set id s.mark)[j]? = some r → ∃ r', L[j]? = some r' ∧ r'.live = r.live ∧ r'.cells = r.cells ∧ (r'.ro = true → r.ro = true) ∧ (j = id → r.live = true → r.ro = true) ∧ (j ≠ id → r' = r) := by
    intro j r hr
    rw [gs] at hr
    split at hr
    · rename_i e; subst e; cases hr
      exact ⟨s, hid, (Slot.mark_live s).symm, (Slot.mark_cells s).symm, fun h => by cases s <;> first | rfl | simp [Slot.ro] at h, fun _ hl => Slot.mark_ro s (by rwa [Slot.mark_live] at hl), fun h => absurd rfl h⟩
    · rename_i e; exact ⟨r, hr, rfl, rfl, fun h => h, fun h => absurd h e, fun _ => rfl⟩
  refine ⟨⟨hI.base, ?_, ?_, ?_, ?_⟩, hs, Below.refl _ _, ⟨?_⟩, ?_⟩
  · intro j T x ro h
    rw [gs] at h
    have : ∃ ro', L[j]? = some (.box T x ro') := by
      split at h
      · rename_i e; subst e
        cases s <;> simp [Slot.mark] at h
        obtain ⟨rfl, h, _⟩ := h
        cases h
        exact ⟨_, hid⟩
      · exact ⟨_, h⟩
    obtain ⟨ro', h'⟩ := this
    obtain ⟨b, cs, el, fr, h1, h2, h3, h4, h5⟩ := hI.box j T x ro' h'
    exact ⟨b, cs, el, fr, h1, h2, h3, h4, h5.safe hs⟩
  · intro j t e xs ro h
    rw [gs] at h
    have : ∃ ro', L[j]? = some (.row t e xs ro') := by
      split at h
      · rename_i e'; subst e'
        cases s <;> simp [Slot.mark] at h
        obtain ⟨rfl, rfl, h, _⟩ := h
        cases h
        exact ⟨_, hid⟩
      · exact ⟨_, h⟩
    obtain ⟨ro', h'⟩ := this
    obtain ⟨cs, h1, h2⟩ := hI.row j t e xs ro' h'
    exact ⟨cs, h1, RepL.mono (fun x c h => h.safe hs) h2⟩
  · intro i j s1 s2 hne h1 h2 l1 l2
    obtain ⟨r1, e1, e1l, _⟩ := back i s1 h1
    obtain ⟨r2, e2, e2l, _⟩ := back j s2 h2
    exact hI.apart i j r1 r2 hne e1 e2 (by rw [e1l]; exact l1) (by rw [e2l]; exact l2)
  · intro b o hb
    rcases hb with hb | ⟨s', e', hl, hbk, ho⟩
    · obtain ⟨p1, p2⟩ := hI.prot b o hb
      refine ⟨p1, fun i r hr hl hbi => ?_⟩
      obtain ⟨r', e1, e2, e3, e4, _⟩ := back i r hr
      obtain ⟨q1, q2⟩ := p2 i r' e1 (by rw [e2]; exact hl) hbi
      exact ⟨e4 q1, by rw [← e3]; exact q2⟩
    · rw [hid] at e'; cases e'
      have hlt := hI.lt hid hl hbk
      refine ⟨hlt.2, fun i r hr hlr hbi => ?_⟩
      obtain ⟨r', e1, e2, e3, e4, e5, e6⟩ := back i r hr
      by_cases hi : i = id
      · subst hi
        rw [hid] at e1; cases e1
        exact ⟨e5 rfl hlr, by rw [← e3]; exact ho⟩
      · rcases hI.apart i id r' s hi e1 hid (by rw [e2]; exact hlr) hl with h | h
        · rw [h] at hbi; cases hbi
        · exact absurd (hbi.trans hbk.symm) h
  · intro j r hr hne
    by_cases e : j = id
    · subst e
      rw [hid] at hr; cases hr
      refine ⟨s.mark, by rw [gs, if_pos rfl], fun h => hne (Slot.mark_resv.1 h), ?_, ?_⟩
      · intro T x ro h
        cases s <;> simp [Slot.mark] at h
        obtain ⟨rfl, h, _⟩ := h
        exact ⟨rfl, _, _, rfl⟩
      · intro t e xs ro _ h
        cases s <;> simp [Slot.mark] at h
        obtain ⟨rfl, rfl, h, _⟩ := h
        cases h
        exact ⟨rfl, _, _, rfl, Nat.le_refl _⟩
    · exact ⟨r, by rw [gs, if_neg e]; exact hr, hne, fun T x ro h => ⟨rfl, x, ro, h⟩, fun t e xs ro _ h => ⟨rfl, xs, ro, h, Nat.le_refl _⟩⟩
  · intro b o hb
    rcases hb with hb | ⟨s', e', hl, hbk, ho⟩
    · exact .inl hb
    · rw [hid] at e'; cases e'
      exact .inr (hI.lt hid hl hbk).1
end
end Go.Proofs.YtmphlhnpichonaaDoor.K

/- Writes into one's own blocks; data made of what one's own blocks hold. -/
import Derived.Test.YtmphlhnpichonaaDoorK11
set_option maxHeartbeats 400000
set_option linter.unusedVariables false
set_option linter.unusedSimpArgs false
namespace Go.Proofs.YtmphlhnpichonaaDoor.K
open Go Go.RowKit

/-- The datum of an abstract value, of a type. -/
def liftA (L : Heap) (τ : ETy) : AV → Option τ.I
  | .v σ x => castI σ τ x
  | .cst (.slice none 0 0) => match τ with | .slice e => some [] | _ => none
  | .rs id => match L[id]? with | some (.row _ e xs _) => castI (.slice e) τ xs | _ => none
  | .ls id p lo n => match L[id]? with
    | some (.box T x _) => (getP T x p).bind fun d => match d with | ⟨.arr N e, xs⟩ => castI (.slice e) τ ((List.drop lo xs).take n) | _ => none
    | _ => none
  | .fn f [] => castI (.raw .func) τ (Value.func (.func f) #[] #[])
  | _ => none

def markA : AV → Option Nat
  | .rs id => some id
  | .ls id _ _ _ => some id
  | _ => none

def mark1 (L : Heap) (id : Nat) : Heap := match L[id]? with | some s => L.set id s.mark | none => L
def markL (L : Heap) : List AV → Heap
  | [] => L
  | a :: l => match markA a with | some id => markL (mark1 L id) l | none => markL L l

section
variable {C : Cfg} {B : Nat} {m : Nat → Value} {L : Heap} {w w' : World} {S S' : Nat → Nat → Prop}

/-- What of one's own block may be read is protected. -/
def Kept (m : Nat → Value) (L : Heap) (S : Nat → Nat → Prop) (id : Nat) : Prop := ∀ s b o, L[id]? = some s → s.live = true → blk (m id) = some b → o < s.cells → S b o

theorem lift_rep (hI : Inv B m L w S) {τ : ETy} {x : τ.I} {a : AV} {u : Value} (hx : RepA m L w S a u) (hk : ∀ id, markA a = some id → Kept m L S id) (hl : liftA L τ a = some x) : RepV w S τ x u := by
  unfold liftA at hl
  split at hl
  · obtain ⟨rfl, rfl⟩ := castI_eq hl
    rwa [rep_v] at hx
  · simp only [RepA] at hx
    subst hx
    split at hl
    · cases hl
      exact ⟨[.slice none 0 0], ⟨none, 0, rfl, Nat.le_refl _, .inl rfl⟩, rfl⟩
    · cases hl
  · rename_i id
    split at hl
    · rename_i t e xs ro hL
      obtain ⟨rfl, rfl⟩ := castI_eq hl
      simp only [RepA] at hx
      obtain ⟨s, h1, h2, h3⟩ := hx
      rw [hL] at h1; cases h1
      obtain rfl := h3 t e _ ro rfl
      obtain ⟨cs, ho, hr⟩ := hI.row id t e _ ro hL
      have hk := hk id rfl
      have hcl := RepL.length (fun x c h => RepC.length h) hr
      rcases ho.2 with ⟨hv, hn⟩ | ⟨g, cap, cur, hv, hg, hh, hle, _⟩
      · refine ⟨[m id], ?_, rfl⟩
        refine ⟨none, 0, by rw [hv, hn], by omega, .inl (List.eq_nil_of_length_eq_zero hn)⟩
      · refine ⟨[m id], ?_, rfl⟩
        refine ⟨some ⟨g, 0, none⟩, cap, by rw [hv], hle, .inr ⟨g, 0, cs, rfl, hr, fun j hj => ⟨?_, ?_⟩⟩⟩
        · have := row_cells ho hv j hj
          exact this
        · exact hk _ g (0 + j) hL rfl (by rw [hv]; rfl) (by simp only [Slot.cells]; omega)
    · cases hl
  · rename_i id p lo n
    split at hl
    · rename_i T y ro hL
      cases hg : getP T y p with
      | none => rw [hg] at hl; cases hl
      | some d =>
        rw [hg] at hl
        simp only [Option.bind_some] at hl
        split at hl
        · rename_i N e xs
          obtain ⟨rfl, rfl⟩ := castI_eq hl
          simp only [RepA] at hx
          obtain ⟨s, h1, h2, h3⟩ := hx
          rw [hL] at h1; cases h1
          obtain ⟨h0, hn, b, A, cap, hcap, hm, rfl, hA⟩ := h3 T y ro rfl N e (getP_ty hg)
          obtain ⟨b', cs, el, fr, hm', hB, hb, hfr, hr⟩ := hI.box id T y ro hL
          rw [hm] at hm'; cases hm'
          obtain ⟨pre, mid, post, rfl, e2, e3, _⟩ := getP_rep h0 hr hg
          obtain ⟨hxl, hxr⟩ := e3
          have hxl : List.length xs = N := hxl
          have hlen : ((List.drop lo xs).take n).length = n := by simp; omega
          have hml := RepL.length (fun x c h => RepC.length h) hxr
          refine ⟨[.slice A n cap], ⟨A, cap, by rw [hlen], by rw [hlen]; exact hcap, ?_⟩, rfl⟩
          rcases hA with rfl | rfl
          · left; simp
          · right
            have t1 := (RepL.take (s := e.size) (fun x c h => RepC.length h) lo hxr).2
            have t2 := (RepL.take (s := e.size) (fun x c h => RepC.length h) n t1).1
            refine ⟨_, _, _, rfl, t2, fun j hj => ?_⟩
            simp only [List.length_take, List.length_drop] at hj
            have hcell := cellsAt_mid (cellsAt_block hb) (lo * e.size + j) (by omega)
            rw [Nat.zero_add, e2] at hcell
            have hsz := hr.length
            refine ⟨?_, hk id rfl _ b _ hL rfl (by rw [hm]; rfl) ?_⟩
            · rw [Nat.add_assoc]
              simpa using hcell
            · simp only [Slot.cells, ← hsz]
              simp only [List.length_append]
              omega
        · cases hl
    · cases hl
  · obtain ⟨rfl, rfl⟩ := castI_eq hl
    simp only [RepA, RepAs] at hx
    obtain ⟨vs, rfl, rfl⟩ := hx
    exact ⟨[_], ⟨rfl, rfl⟩, rfl⟩
  · cases hl

theorem mark1_goes (hI : Inv B m L w S) (id : Nat) (X : Nat → Bool) : ∃ S', Goes B X m L w S m (mark1 L id) w S' ∧ Kept m (mark1 L id) S' id := by
  unfold mark1
  cases h : L[id]? with
  | none => exact ⟨S, ⟨hI, Safe.refl _ _, Below.refl _ _, Ext.refl X m L, fun _ _ h => .inl h⟩, fun s b o hs => by simp only [h] at hs; cases hs⟩
  | some s =>
    refine ⟨addS S m L id, Goes.mark hI h X, fun r b o hr hl hb ho => ?_⟩
    rw [get_set ⟨_, h⟩, if_pos rfl] at hr
    cases hr
    rw [Slot.mark_live] at hl
    rw [Slot.mark_cells] at ho
    exact .inr ⟨s, h, hl, hb, ho⟩

theorem mark1_kept {id j : Nat} {S' : Nat → Nat → Prop} (hS : ∀ b o, S b o → S' b o) (h : Kept m L S j) : Kept m (mark1 L id) S' j := by
  intro s b o hs hl hb ho
  unfold mark1 at hs
  cases hid : L[id]? with
  | none => simp only [hid] at hs; exact hS _ _ (h s b o hs hl hb ho)
  | some r =>
    simp only [hid] at hs
    rw [get_set ⟨_, hid⟩] at hs
    split at hs
    · rename_i e; subst e; cases hs
      rw [Slot.mark_live] at hl
      rw [Slot.mark_cells] at ho
      exact hS _ _ (h r b o hid hl hb ho)
    · exact hS _ _ (h s b o hs hl hb ho)

theorem markL_goes (X : Nat → Bool) : ∀ (l : List AV) {L : Heap} {S : Nat → Nat → Prop} (hI : Inv B m L w S), ∃ S', Goes B X m L w S m (markL L l) w S' ∧ (∀ j, Kept m L S j → Kept m (markL L l) S' j) ∧ ∀ a ∈ l, ∀ id, markA a = some id → Kept m (markL L l) S' id
  | [], L, S, hI => ⟨S, ⟨hI, Safe.refl _ _, Below.refl _ _, Ext.refl X m L, fun _ _ h => .inl h⟩, fun _ h => h, fun a ha => by simp at ha⟩
  | a :: l, L, S, hI => by
    unfold markL
    split
    · rename_i id ha
      obtain ⟨S1, g1, k1⟩ := mark1_goes hI id X
      obtain ⟨S2, g2, k2, k3⟩ := markL_goes X l g1.inv
      refine ⟨S2, g1.trans g2, fun j hj => k2 j (mark1_kept g1.safe.sub hj), fun b hb i hi => ?_⟩
      rcases List.mem_cons.1 hb with rfl | hb
      · rw [ha] at hi; cases hi; exact k2 _ k1
      · exact k3 b hb i hi
    · rename_i ha
      obtain ⟨S2, g2, k2, k3⟩ := markL_goes X l hI
      refine ⟨S2, g2, k2, fun b hb i hi => ?_⟩
      rcases List.mem_cons.1 hb with rfl | hb
      · rw [ha] at hi; cases hi
      · exact k3 b hb i hi

/-- A write into one's own block that may be written. -/
theorem Goes.wrote (hI : Inv B m L w S) {id b : Nat} {s s' : Slot} (hid : L[id]? = some s) (hl : s.live = true) (hro : s.ro = false) (hb : blk (m id) = some b) {cs : List Value} {el : TypeId} {fr : Nat × Nat} (hw : Wrote b cs el fr w w')
    (hs' : s'.live = true ∧ s'.cells = s.cells)
    (hbox : ∀ T x ro, s' = .box T x ro → (∃ y, s = .box T y ro) ∧ (∀ o, o < cs.length → ¬ (fr.1 ≤ o ∧ o < fr.2)) ∧ RepC w S T x cs)
    (hrow : ∀ t e (xs : List e.I) ro, s' = .row t e xs ro → (∃ ys, s = .row t e ys ro ∧ ys.length = xs.length) ∧ ∃ ds, w'.ownsRow B t e.size (m id) xs.length ds ∧ RepL (RepC w S e) xs ds) (X : Nat → Bool) :
    Goes B X m L w S m (L.set id s') w' S := by
  have gs := get_set (s := s') ⟨_, hid⟩
  have hnS : ∀ o, ¬ S b o := fun o h => by
    have := ((hI.prot b o h).2 id s hid hl hb).1
    rw [hro] at this; cases this
  have hsafe : Safe S S w w' := ⟨fun _ _ h => h, fun b' o h => World.cell?_of_block (a := ⟨b', o, none⟩) (hw.there b' (fun e => by subst e; exact hnS o h))⟩
  have hlt := hI.lt hid hl hb
  have hother : ∀ j r, j ≠ id → L[j]? = some r → r.live = true → ∀ b', blk (m j) = some b' → b' ≠ b := by
    intro j r hj hr hrl b' hb' e
    subst e
    rcases hI.apart j id r s hj hr hid hrl hl with h | h
    · rw [h] at hb'; cases hb'
    · exact h (hb'.trans hb.symm)
  refine ⟨⟨by rw [hw.size]; exact hI.base, ?_, ?_, ?_, ?_⟩, hsafe, ⟨hw.os, hw.tape, hw.output, by rw [hw.size]; exact Nat.le_refl _, fun k hk => hw.there k (by omega)⟩, ⟨?_⟩, fun _ _ h => .inl h⟩
  · intro j T x ro h
    rw [gs] at h
    split at h
    · rename_i e; subst e; cases h
      obtain ⟨⟨y, rfl⟩, h2, h3⟩ := hbox T x ro rfl
      obtain ⟨b', cs', el', fr', hm, h4, h5, h6, h7⟩ := hI.box j T y ro hid
      have hbb : b' = b := by rw [hm] at hb; simpa [blk] using hb
      subst hbb
      exact ⟨b', cs, el, fr, hm, h4, hw.here, h2, h3.safe hsafe⟩
    · rename_i e
      obtain ⟨b', cs', el', fr', hm, h4, h5, h6, h7⟩ := hI.box j T x ro h
      refine ⟨b', cs', el', fr', hm, h4, ?_, h6, h7.safe hsafe⟩
      rw [hw.there b' (hother j _ e h rfl b' (by rw [hm]; rfl))]
      exact h5
  · intro j t e xs ro h
    rw [gs] at h
    split at h
    · rename_i e'; subst e'; cases h
      obtain ⟨_, ds, h1, h2⟩ := hrow t e xs ro rfl
      exact ⟨ds, h1, RepL.mono (fun x c h => h.safe hsafe) h2⟩
    · rename_i e'
      obtain ⟨ds, h1, h2⟩ := hI.row j t e xs ro h
      refine ⟨ds, ⟨h1.1, h1.2.imp (fun h => h) ?_⟩, RepL.mono (fun x c h => h.safe hsafe) h2⟩
      rintro ⟨g, cap, cur, hv, hg, hh, r⟩
      refine ⟨g, cap, cur, hv, hg, ?_, r⟩
      rw [hw.there g (hother j _ e' h rfl g (by rw [hv]; rfl))]
      exact hh
  · intro i j s1 s2 hne h1 h2 l1 l2
    rw [gs] at h1 h2
    have f : ∀ i s1, (if i = id then some s' else L[i]?) = some s1 → s1.live = true → ∃ r, L[i]? = some r ∧ r.live = true := by
      intro i s1 h l
      split at h
      · rename_i e; subst e; exact ⟨s, hid, hl⟩
      · exact ⟨s1, h, l⟩
    obtain ⟨r1, e1, e2⟩ := f i s1 h1 l1
    obtain ⟨r2, e3, e4⟩ := f j s2 h2 l2
    exact hI.apart i j r1 r2 hne e1 e3 e2 e4
  · intro b' o h
    obtain ⟨p1, p2⟩ := hI.prot b' o h
    refine ⟨by rw [hw.size]; exact p1, fun i r hr hrl hbi => ?_⟩
    rw [gs] at hr
    split at hr
    · rename_i e; subst e
      rw [hb] at hbi; cases hbi
      exact absurd h (hnS o)
    · exact p2 i r hr hrl hbi
  · intro j r hr hne
    by_cases e : j = id
    · subst e
      rw [hid] at hr; cases hr
      refine ⟨s', by rw [gs, if_pos rfl], fun h => by rw [h] at hs'; simp [Slot.live] at hs', ?_, ?_⟩
      · intro T x ro h
        obtain ⟨⟨y, h1⟩, _⟩ := hbox T x ro h
        exact ⟨rfl, y, ro, h1⟩
      · intro t e xs ro _ h
        obtain ⟨⟨ys, h1, h2⟩, _⟩ := hrow t e xs ro h
        exact ⟨rfl, ys, ro, h1, by omega⟩
    · exact ⟨r, by rw [gs, if_neg e]; exact hr, hne, fun T x ro h => ⟨rfl, x, ro, h⟩, fun t e xs ro _ h => ⟨rfl, xs, ro, h, Nat.le_refl _⟩⟩
end
end Go.Proofs.YtmphlhnpichonaaDoor.K

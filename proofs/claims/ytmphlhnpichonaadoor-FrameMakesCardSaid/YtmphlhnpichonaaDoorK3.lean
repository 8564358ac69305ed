/- Abstract values, the blocks of a call's own, and how a world holds them. -/
import Derived.Test.YtmphlhnpichonaaDoorK2
set_option linter.unusedVariables false
set_option linter.unusedSimpArgs false
namespace Go.Proofs.YtmphlhnpichonaaDoor.K
open Go Go.RowKit

/-- Abstract values. -/
inductive AV where
  | v (τ : ETy) (x : τ.I)
  | cst (c : Value)
  | vp (T : ETy) (x : T.I) (p : List PStep)
  | ref (id : Nat) (p : List PStep)
  | rref (id i : Nat) (p : List PStep)
  | ls (id : Nat) (p : List PStep) (lo n : Nat)
  | rs (id : Nat)
  | fn (f : FuncId) (caps : List AV)
  | tup (l : List AV)
  | dead

/-- A block of the call's own. -/
inductive Slot where
  | box (T : ETy) (x : T.I) (ro : Bool)
  | row (t : TypeId) (e : ETy) (xs : List e.I) (ro : Bool)
  | gone
  | resv

abbrev Heap := List Slot

def Slot.live : Slot → Bool
  | .box .. => true
  | .row .. => true
  | _ => false

def Slot.ro : Slot → Bool
  | .box _ _ r => r
  | .row _ _ _ r => r
  | _ => false

/-- How many cells of it may be read. -/
def Slot.cells : Slot → Nat
  | .box T _ _ => T.size
  | .row _ e xs _ => xs.length * e.size
  | _ => 0

def blk : Value → Option Nat
  | .pointer (some a) => some a.block
  | .slice (some a) _ _ => some a.block
  | _ => none

/-- The world holds the blocks. -/
structure Inv (B : Nat) (m : Nat → Value) (L : Heap) (w : World) (S : Nat → Nat → Prop) : Prop where
  base : B ≤ w.heap.size
  box : ∀ (id : Nat) (T : ETy) (x : T.I) (ro : Bool), L[id]? = some (.box T x ro) → ∃ b cs el fr, m id = .pointer (some ⟨b, 0, none⟩) ∧ B ≤ b ∧ w.heap[b]? = some (.cells cs.toArray el fr) ∧ (∀ o, o < cs.length → ¬ (fr.1 ≤ o ∧ o < fr.2)) ∧ RepC w S T x cs
  row : ∀ (id : Nat) (t : TypeId) (e : ETy) (xs : List e.I) (ro : Bool), L[id]? = some (.row t e xs ro) → ∃ cs, w.ownsRow B t e.size (m id) xs.length cs ∧ RepL (RepC w S e) xs cs
  apart : ∀ (i j : Nat) (s r : Slot), i ≠ j → L[i]? = some s → L[j]? = some r → s.live = true → r.live = true → blk (m i) = none ∨ blk (m i) ≠ blk (m j)
  prot : ∀ b o, S b o → b < w.heap.size ∧ ∀ (i : Nat) (s : Slot), L[i]? = some s → s.live = true → blk (m i) = some b → s.ro = true ∧ o < s.cells

mutual
/-- A value is as an abstract value says. -/
def RepA (m : Nat → Value) (L : Heap) (w : World) (S : Nat → Nat → Prop) : AV → Value → Prop
  | .v τ x, u => RepV w S τ x u
  | .cst c, u => u = c
  | .vp T x p, u => okP T p ∧ ∃ b o cs, u = .pointer (some ⟨b, o + off T p, none⟩) ∧ RepC w S T x cs ∧ (∀ j (h : j < cs.length), w.cell? ⟨b, o + j, none⟩ = some cs[j] ∧ S b (o + j))
  | .ref id p, u => ∃ s, L[id]? = some s ∧ s ≠ .resv ∧ ∀ (T : ETy) (x : T.I) (ro : Bool), s = .box T x ro → okP T p ∧ ∃ b, m id = .pointer (some ⟨b, 0, none⟩) ∧ u = .pointer (some ⟨b, off T p, none⟩)
  | .rref id i p, u => ∃ s, L[id]? = some s ∧ s ≠ .resv ∧ ∀ (t : TypeId) (e : ETy) (xs : List e.I) (ro : Bool), s = .row t e xs ro → i < xs.length ∧ okP e p ∧ ∃ b n c, m id = .slice (some ⟨b, 0, none⟩) n c ∧ u = .pointer (some ⟨b, i * e.size + off e p, none⟩)
  | .ls id p lo n, u => ∃ s, L[id]? = some s ∧ s ≠ .resv ∧ ∀ (T : ETy) (x : T.I) (ro : Bool), s = .box T x ro → ∀ (N : Nat) (e : ETy), tyP T p = some (.arr N e) → okP T p ∧ lo + n ≤ N ∧ ∃ b A c, n ≤ c ∧ m id = .pointer (some ⟨b, 0, none⟩) ∧ u = .slice A n c ∧ (n = 0 ∨ A = some ⟨b, off T p + lo * e.size, none⟩)
  | .rs id, u => ∃ s, L[id]? = some s ∧ s ≠ .resv ∧ ∀ (t : TypeId) (e : ETy) (xs : List e.I) (ro : Bool), s = .row t e xs ro → u = m id
  | .fn f caps, u => ∃ vs : List Value, u = .func (.func f) #[] vs.toArray ∧ RepAs m L w S caps vs
  | .tup l, u => ∃ vs : List Value, u = .tuple vs.toArray ∧ RepAs m L w S l vs
  | .dead, _ => True
def RepAs (m : Nat → Value) (L : Heap) (w : World) (S : Nat → Nat → Prop) : List AV → List Value → Prop
  | [], us => us = []
  | x :: xs, us => ∃ u r, us = u :: r ∧ RepA m L w S x u ∧ RepAs m L w S xs r
end

mutual
/-- Does all that an abstract value leads to fit? (first: is it a row?) -/
def AV.ids (f : Bool → Nat → Bool) : AV → Bool
  | .ref id _ => f false id
  | .ls id _ _ _ => f false id
  | .rref id _ _ => f true id
  | .rs id => f true id
  | .fn _ l => AV.idsL f l
  | .tup l => AV.idsL f l
  | _ => true
def AV.idsL (f : Bool → Nat → Bool) : List AV → Bool
  | [] => true
  | a :: l => a.ids f && AV.idsL f l
end

/-- The blocks go on: none becomes another kind, a row only grows; but for rows of X, what is there lies where it lay. -/
structure Ext (X : Nat → Bool) (m : Nat → Value) (L : Heap) (m' : Nat → Value) (L' : Heap) : Prop where
  ext : ∀ (id : Nat) (s : Slot), L[id]? = some s → s ≠ .resv → ∃ s', L'[id]? = some s' ∧ s' ≠ .resv ∧
    (∀ (T : ETy) (x' : T.I) (ro' : Bool), s' = .box T x' ro' → m' id = m id ∧ ∃ x ro, s = .box T x ro) ∧
    (∀ (t : TypeId) (e : ETy) (xs' : List e.I) (ro' : Bool), X id = false → s' = .row t e xs' ro' → m' id = m id ∧ ∃ xs ro, s = .row t e xs ro ∧ xs.length ≤ xs'.length)

theorem Ext.refl (X : Nat → Bool) (m : Nat → Value) (L : Heap) : Ext X m L m L :=
  ⟨fun id s h hs => ⟨s, h, hs, fun T x ro e => ⟨rfl, x, ro, e⟩, fun t e xs ro _ h => ⟨rfl, xs, ro, h, Nat.le_refl _⟩⟩⟩

theorem Ext.trans {X : Nat → Bool} {m m1 m2 : Nat → Value} {L L1 L2 : Heap} (h : Ext X m L m1 L1) (k : Ext X m1 L1 m2 L2) : Ext X m L m2 L2 := by
  refine ⟨fun id s hs hr => ?_⟩
  obtain ⟨s1, e1, r1, b1, w1⟩ := h.ext id s hs hr
  obtain ⟨s2, e2, r2, b2, w2⟩ := k.ext id s1 e1 r1
  refine ⟨s2, e2, r2, ?_, ?_⟩
  · intro T x ro e
    obtain ⟨q, y, ro1, rfl⟩ := b2 T x ro e
    obtain ⟨q', z, ro2, hz⟩ := b1 T y ro1 rfl
    exact ⟨q.trans q', z, ro2, hz⟩
  · intro t e xs ro hx h
    obtain ⟨q, ys, ro1, rfl, l1⟩ := w2 t e xs ro hx h
    obtain ⟨q', zs, ro2, hz, l2⟩ := w1 t e ys ro1 hx rfl
    exact ⟨q.trans q', zs, ro2, hz, by omega⟩

def noX (X : Nat → Bool) : Bool → Nat → Bool := fun r id => !(r && X id)

section
variable {B : Nat} {m m' : Nat → Value} {L L' : Heap} {w w' : World} {S S' : Nat → Nat → Prop}

theorem RepV.safe (hs : Safe S S' w w') {τ : ETy} {x : τ.I} {u : Value} (h : RepV w S τ x u) : RepV w' S' τ x u := by
  obtain ⟨cs, h1, h2⟩ := h
  exact ⟨cs, h1.safe hs, h2⟩

mutual
theorem RepA.go {X : Nat → Bool} (hs : Safe S S' w w') (he : Ext X m L m' L') : ∀ {a : AV} {u : Value}, a.ids (noX X) = true → RepA m L w S a u → RepA m' L' w' S' a u
  | .v τ x, u, _, h => by simp only [RepA] at h ⊢; exact h.safe hs
  | .cst c, u, _, h => by simp only [RepA] at h ⊢; exact h
  | .vp T x p, u, _, h => by
    simp only [RepA] at h ⊢
    obtain ⟨h0, b, o, cs, rfl, h1, h2⟩ := h
    exact ⟨h0, b, o, cs, rfl, h1.safe hs, fun j hj => ⟨(hs.cell _ _ (h2 j hj).2).trans (h2 j hj).1, hs.sub _ _ (h2 j hj).2⟩⟩
  | .ref id p, u, _, h => by
    simp only [RepA] at h ⊢
    obtain ⟨s, h0, h1, h2⟩ := h
    obtain ⟨s', e0, e1, e2, e3⟩ := he.ext id s h0 h1
    refine ⟨s', e0, e1, fun T x ro hb => ?_⟩
    obtain ⟨q, y, ro1, hy⟩ := e2 T x ro hb
    rw [q]
    exact h2 T y ro1 hy
  | .rref id i p, u, hx, h => by
    simp only [RepA] at h ⊢
    simp [AV.ids, noX] at hx
    obtain ⟨s, h0, h1, h2⟩ := h
    obtain ⟨s', e0, e1, e2, e3⟩ := he.ext id s h0 h1
    refine ⟨s', e0, e1, fun t e xs ro hb => ?_⟩
    obtain ⟨q, ys, ro1, hy, l1⟩ := e3 t e xs ro hx hb
    obtain ⟨k1, k2, k3⟩ := h2 t e ys ro1 hy
    rw [q]
    exact ⟨by omega, k2, k3⟩
  | .ls id p lo n, u, _, h => by
    simp only [RepA] at h ⊢
    obtain ⟨s, h0, h1, h2⟩ := h
    obtain ⟨s', e0, e1, e2, e3⟩ := he.ext id s h0 h1
    refine ⟨s', e0, e1, fun T x ro hb => ?_⟩
    obtain ⟨q, y, ro1, hy⟩ := e2 T x ro hb
    rw [q]
    exact h2 T y ro1 hy
  | .rs id, u, hx, h => by
    simp only [RepA] at h ⊢
    simp [AV.ids, noX] at hx
    obtain ⟨s, h0, h1, h2⟩ := h
    obtain ⟨s', e0, e1, e2, e3⟩ := he.ext id s h0 h1
    refine ⟨s', e0, e1, fun t e xs ro hb => ?_⟩
    obtain ⟨q, ys, ro1, hy, l1⟩ := e3 t e xs ro hx hb
    rw [q]
    exact h2 t e ys ro1 hy
  | .fn f caps, u, hx, h => by
    simp only [RepA] at h ⊢
    obtain ⟨vs, h0, h1⟩ := h
    exact ⟨vs, h0, RepAs.go hs he (by simpa [AV.ids] using hx) h1⟩
  | .tup l, u, hx, h => by
    simp only [RepA] at h ⊢
    obtain ⟨vs, h0, h1⟩ := h
    exact ⟨vs, h0, RepAs.go hs he (by simpa [AV.ids] using hx) h1⟩
  | .dead, u, _, h => by simp only [RepA]
theorem RepAs.go {X : Nat → Bool} (hs : Safe S S' w w') (he : Ext X m L m' L') : ∀ {a : List AV} {u : List Value}, AV.idsL (noX X) a = true → RepAs m L w S a u → RepAs m' L' w' S' a u
  | [], u, _, h => by simp only [RepAs] at h ⊢; exact h
  | x :: xs, u, hx, h => by
    simp only [RepAs] at h ⊢
    obtain ⟨y, r, rfl, h1, h2⟩ := h
    simp only [AV.idsL, Bool.and_eq_true] at hx
    exact ⟨y, r, rfl, RepA.go hs he hx.1 h1, RepAs.go hs he hx.2 h2⟩
end
end
end Go.Proofs.YtmphlhnpichonaaDoor.K

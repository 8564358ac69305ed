/- All operations that only read, by their form in the program. -/
import Derived.Test.YtmphlhnpichonaaDoorK9
set_option maxHeartbeats 400000
set_option linter.unusedVariables false
set_option linter.unusedSimpArgs false
namespace Go.Proofs.YtmphlhnpichonaaDoor.K
open Go Go.RowKit

def maxA : List AV → AV → R
  | [], a => ok1 a
  | .v (.int k') y :: r, .v (.int k) x => maxA r (.v (.int k) (if (y : Int) > x then y else x))
  | _, _ => none
def minA : List AV → AV → R
  | [], a => ok1 a
  | .v (.int k') y :: r, .v (.int k) x => minA r (.v (.int k) (if (y : Int) < x then y else x))
  | _, _ => none
def foldA (f : List AV → AV → R) : List AV → R
  | a :: r => f r a
  | [] => none

def nilA (L : Heap) : AV → R
  | .ref id p => match L[id]? with | some (.box T x ro) => ok1 (.ref id p) | _ => none
  | .rref id i p => match L[id]? with | some (.row t e xs ro) => ok1 (.rref id i p) | _ => none
  | .vp T x p => ok1 (.vp T x p)
  | _ => none

def builtinA (C : Cfg) (L : Heap) (b : Builtin) (ts : List TypeId) (as : List AV) : R :=
  match b with
  | .len => match ts, as with | t :: _, a :: _ => lenA C t L a | _, _ => none
  | .max => foldA maxA as
  | .min => foldA minA as
  | _ => none

def rop (C : Cfg) (ρ : Operand → AV) (L : Heap) : Op → R
  | .move x => ok1 (ρ x)
  | .assign x => ok1 (ρ x)
  | .pick c a b => match ρ c with | .v .bool cb => ok1 (pickA cb (ρ a) (ρ b)) | _ => none
  | .binOp op t x y _ => binA C op t (ρ x) (ρ y)
  | .unOp op _ x => unA op (ρ x)
  | .convert s d x => convA C s d (ρ x)
  | .extract t i => extractA i (ρ t)
  | .field t x f => fieldA C t f (ρ x)
  | .index t x i => indexA C t (ρ x) (ρ i)
  | .fieldAddr t x f => fieldAddrA C t L f (ρ x)
  | .indexAddr t x i => indexAddrA C t L (ρ x) (ρ i)
  | .load t a => loadA C t L (ρ a)
  | .slice t x lo hi none => sliceA C t L (ρ x) (lo.map ρ) (hi.map ρ)
  | .nilCheck x => nilA L (ρ x)
  | .makeFunc (.func f) first caps => if first.size = 0 then ok1 (.fn f (caps.toList.map ρ)) else none
  | .call ⟨.builtin b, args, ts⟩ => builtinA C L b ts.toList (args.toList.map ρ)
  | _ => none

section
variable {C : Cfg} {B : Nat} {m : Nat → Value} {L : Heap} {w : World} {S : Nat → Nat → Prop}

theorem repAs_map {ρ : Operand → AV} {σ : Operand → Value} (h : ∀ x, RepA m L w S (ρ x) (σ x)) : ∀ l : List Operand, RepAs m L w S (l.map ρ) (l.map σ)
  | [] => by simp [RepAs]
  | x :: l => by simp only [List.map_cons, RepAs]; exact ⟨_, _, rfl, h x, repAs_map h l⟩

theorem repO_map {ρ : Operand → AV} {σ : Operand → Value} (h : ∀ x, RepA m L w S (ρ x) (σ x)) (o : Option Operand) : RepO m L w S (o.map ρ) (o.map σ) := by
  cases o with
  | none => trivial
  | some x => exact h x

theorem gives_max {l : List AV} {vs : List Value} {a : AV} {u : Value} (hl : RepAs m L w S l vs) (ha : RepA m L w S a u) : Gives C m L w S (vs.foldlM Builtin.max2 u) (maxA l a) := by
  induction l generalizing vs a u with
  | nil => simp only [RepAs] at hl; subst hl; cases a <;> exact gives_ok1 rfl ha
  | cons b l ih =>
    simp only [RepAs] at hl
    obtain ⟨v, r, rfl, h1, h2⟩ := hl
    unfold maxA
    split
    · rename_i h; cases h
    · rename_i k' y r' k x h
      cases h
      rw [rep_int] at h1 ha
      subst h1; subst ha
      intro z hz
      obtain ⟨u, q1, q2⟩ := ih h2 (rep_int.2 rfl) z hz
      exact ⟨u, by simp only [List.foldlM_cons, Sem.run_bind, Builtin.max2, Sem.run_pure, Result.andThen_ok]; exact q1, q2⟩
    · exact gives_none

theorem gives_min {l : List AV} {vs : List Value} {a : AV} {u : Value} (hl : RepAs m L w S l vs) (ha : RepA m L w S a u) : Gives C m L w S (vs.foldlM Builtin.min2 u) (minA l a) := by
  induction l generalizing vs a u with
  | nil => simp only [RepAs] at hl; subst hl; cases a <;> exact gives_ok1 rfl ha
  | cons b l ih =>
    simp only [RepAs] at hl
    obtain ⟨v, r, rfl, h1, h2⟩ := hl
    unfold minA
    split
    · rename_i h; cases h
    · rename_i k' y r' k x h
      cases h
      rw [rep_int] at h1 ha
      subst h1; subst ha
      intro z hz
      obtain ⟨u, q1, q2⟩ := ih h2 (rep_int.2 rfl) z hz
      exact ⟨u, by simp only [List.foldlM_cons, Sem.run_bind, Builtin.min2, Sem.run_pure, Result.andThen_ok]; exact q1, q2⟩
    · exact gives_none

/-- 'The operation gives a value of this kind, and turns nothing', of an operation. -/
def GivesN (C : Cfg) (m : Nat → Value) (L : Heap) (w : World) (S : Nat → Nat → Prop) (s : Sem Next) (r : R) : Prop :=
  ∀ a, r = some (true, a) → ∃ u, s.run C.P w = .ok (.value u) w ∧ RepA m L w S a u

theorem givesN_of {s : Sem Value} {r : R} (h : Gives C m L w S s r) : GivesN C m L w S (do pure (.value (← s))) r := by
  intro a ha
  obtain ⟨u, h1, h2⟩ := h a ha
  exact ⟨u, by simp only [Sem.run_bind, h1, Result.andThen_ok, Sem.run_pure], h2⟩

theorem givesN_none {s : Sem Next} : GivesN C m L w S s none := fun a h => by simp at h

theorem nil_rep {a z : AV} {u : Value} (hx : RepA m L w S a u) (hz : nilA L a = some (true, z)) : z = a ∧ ∃ ad, u = .pointer (some ad) := by
  unfold nilA at hz
  split at hz
  · rename_i id p
    split at hz
    · rename_i T x ro hL
      simp only [ok1, Option.some.injEq, Prod.mk.injEq, true_and] at hz
      subst hz
      simp only [RepA] at hx
      obtain ⟨s, h1, h2, h3⟩ := hx
      rw [hL] at h1; cases h1
      obtain ⟨h0, b, hm, rfl⟩ := h3 T x ro rfl
      exact ⟨rfl, _, rfl⟩
    · cases hz
  · rename_i id i p
    split at hz
    · rename_i t e xs ro hL
      simp only [ok1, Option.some.injEq, Prod.mk.injEq, true_and] at hz
      subst hz
      simp only [RepA] at hx
      obtain ⟨s, h1, h2, h3⟩ := hx
      rw [hL] at h1; cases h1
      obtain ⟨hi, h0, b, n, c, hm, rfl⟩ := h3 t e xs ro rfl
      exact ⟨rfl, _, rfl⟩
    · cases hz
  · rename_i T x p
    simp only [ok1, Option.some.injEq, Prod.mk.injEq, true_and] at hz
    subst hz
    simp only [RepA] at hx
    obtain ⟨h0, b, o, cs, rfl, h1, h2⟩ := hx
    exact ⟨rfl, _, rfl⟩
  · cases hz

theorem rop_gives (hC : C.OK) (hI : Inv B m L w S) {ρ : Operand → AV} {σ : Operand → Value} (h : ∀ x, RepA m L w S (ρ x) (σ x)) (o : Oper) : GivesN C m L w S (execOp σ o) (rop C ρ L o.op) := by
  unfold rop
  split <;> rename_i ho <;> (first | (refine givesN_none; done) | (unfold execOp; rw [ho]; dsimp only))
  · intro a ha
    simp only [ok1, Option.some.injEq, Prod.mk.injEq, true_and] at ha
    subst ha
    exact ⟨_, rfl, h _⟩
  · intro a ha
    simp only [ok1, Option.some.injEq, Prod.mk.injEq, true_and] at ha
    subst ha
    exact ⟨_, rfl, h _⟩
  · rename_i c a b
    split
    · rename_i cb hcb
      have hc := h c
      rw [hcb, rep_bool] at hc
      intro z hz
      simp only [ok1, Option.some.injEq, Prod.mk.injEq, true_and] at hz
      subst hz
      refine ⟨_, ?_, pick_rep (h a) (h b)⟩
      simp only [hc, asBool, Sem.run_bind, Sem.run_pure, Result.andThen_ok]
    · exact givesN_none
  · exact givesN_of (gives_bin (h _) (h _))
  · exact givesN_of (gives_un (h _))
  · exact givesN_of (gives_conv hC (h _))
  · exact givesN_of (gives_extract (h _))
  · exact givesN_of (gives_field hC (h _))
  · exact givesN_of (gives_index hC (h _) (h _))
  · exact givesN_of (gives_fieldAddr hC (h _))
  · exact givesN_of (gives_indexAddr hC hI (h _) (h _))
  · exact givesN_of (gives_load hC hI (h _))
  · exact givesN_of (gives_slice hC (h _) (repO_map h _) (repO_map h _))
  · rename_i x
    intro z hz
    obtain ⟨rfl, ad, hu⟩ := nil_rep (h x) hz
    have hx := h x
    rw [hu] at hx ⊢
    exact ⟨_, rfl, hx⟩
  · rename_i f first caps
    split
    · rename_i hf
      intro z hz
      simp only [ok1, Option.some.injEq, Prod.mk.injEq, true_and] at hz
      subst hz
      have hfirst : first = #[] := Array.eq_empty_of_size_eq_zero hf
      have hmap : Array.map σ caps = (caps.toList.map σ).toArray := by rw [← Array.toList_map]
      refine ⟨.func (.func f) #[] (caps.toList.map σ).toArray, by subst hfirst; rw [hmap]; simp [Instr.makeFunc, Sem.run_pure], ?_⟩
      simp only [RepA]
      refine ⟨caps.toList.map σ, rfl, repAs_map h _⟩
    · exact givesN_none
  · rename_i b args ts
    have hr : (resolve σ ⟨.builtin b, args, ts⟩ o.type) = (pure { target := .builtin b ts o.type (args.map fun | .const _ => true | _ => false), args := args.map σ } : Sem Deferred) := rfl
    have hrun : ∀ s, builtin b ts o.type (args.map fun | .const _ => true | _ => false) (args.map σ) = s → 
        ((do let d ← resolve σ ⟨.builtin b, args, ts⟩ o.type; invoke d.target d.args : Sem Next)).run C.P w = s.run C.P w := by
      intro s hs
      rw [hr]
      simp only [Sem.run_bind, Sem.run_pure, Result.andThen_ok, invoke, hs]
    intro z hz
    rw [hrun _ rfl]
    revert z hz
    unfold builtinA
    split
    · split
      · rename_i t ts' a as' e1 e2
        have hts : ts[0]? = some t := by
          have := congrArg (·[0]?) e1
          simpa using this
        cases hargs : args.toList with
        | nil => rw [hargs] at e2; cases e2
        | cons x xs =>
          rw [hargs] at e2
          simp only [List.map_cons, List.cons.injEq] at e2
          obtain ⟨rfl, rfl⟩ := e2
          have hus : (args.map σ)[0]? = some (σ x) := by
            have : args = (x :: xs).toArray := by rw [← hargs]
            subst this; simp
          exact givesN_of (gives_len hC hI hts hus (h x))
      · exact givesN_none
    · unfold foldA
      split
      · rename_i a r e
        cases hargs : args.toList with
        | nil => rw [hargs] at e; cases e
        | cons x xs =>
          rw [hargs] at e
          simp only [List.map_cons, List.cons.injEq] at e
          obtain ⟨rfl, rfl⟩ := e
          have := gives_max (C := C) (repAs_map h xs) (h x)
          refine givesN_of ?_
          have e : Builtin.max_ ts o.type (args.map σ) = (xs.map σ).foldlM Builtin.max2 (σ x) := by
            have : args = (x :: xs).toArray := by rw [← hargs]
            subst this
            simp [Builtin.max_]
          rw [e]; exact this
      · exact givesN_none
    · unfold foldA
      split
      · rename_i a r e
        cases hargs : args.toList with
        | nil => rw [hargs] at e; cases e
        | cons x xs =>
          rw [hargs] at e
          simp only [List.map_cons, List.cons.injEq] at e
          obtain ⟨rfl, rfl⟩ := e
          have := gives_min (C := C) (repAs_map h xs) (h x)
          refine givesN_of ?_
          have e : Builtin.min_ ts o.type (args.map σ) = (xs.map σ).foldlM Builtin.min2 (σ x) := by
            have : args = (x :: xs).toArray := by rw [← hargs]
            subst this
            simp [Builtin.min_]
          rw [e]; exact this
      · exact givesN_none
    · exact givesN_none
end
end Go.Proofs.YtmphlhnpichonaaDoor.K

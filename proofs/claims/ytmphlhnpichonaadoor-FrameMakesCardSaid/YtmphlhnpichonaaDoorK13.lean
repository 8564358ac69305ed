/- Operations that make memory. -/
import Derived.Test.YtmphlhnpichonaaDoorK12
import Derived.Maps.AppendAt
set_option maxHeartbeats 400000
set_option linter.unusedVariables false
set_option linter.unusedSimpArgs false
namespace Go.Proofs.YtmphlhnpichonaaDoor.K
open Go Go.RowKit

abbrev A3 := Option (Bool × AV × Heap)

/-- A datum, its parts set one by one. -/
def setParts (T : ETy) (st : Nat → PStep) (L : Heap) : T.I → List (Nat × AV) → Option T.I
  | x, [] => some x
  | x, (i, a) :: r => (tyP T [st i]).bind fun σ => (liftA L σ a).bind fun y => (setP T x [st i] ⟨σ, y⟩).bind fun x' => setParts T st L x' r

def okSt (T : ETy) (st : Nat → PStep) : List (Nat × AV) → Bool
  | [] => true
  | (i, _) :: r => (match T, st i with | .arr n _, .idx j => decide (j < n) | _, _ => true) && okSt T st r

def buildA (C : Cfg) (L : Heap) (t : TypeId) (parts : List (Nat × AV)) : A3 :=
  (C.Ty t).bind fun τ =>
    let L1 := markL L (parts.map (·.2))
    match τ with
    | .pair a b => (setParts (.pair a b) .fld L1 (ETy.pair a b).z parts).map fun x => (true, .v (.pair a b) x, L1)
    | .arr n e => if okSt (.arr n e) .idx parts then (setParts (.arr n e) .idx L1 (ETy.arr n e).z parts).map fun x => (true, .v (.arr n e) x, L1) else none
    | _ => none

def elId (C : Cfg) (t : TypeId) : Option TypeId := match C.P.underlying t with | some (.slice e) => some e | _ => none

def buildSliceA (C : Cfg) (L : Heap) (id : Nat) (t : TypeId) (len : Nat) (parts : List (Nat × AV)) : A3 :=
  (C.Ty t).bind fun τ => (elId C t).bind fun te =>
    let L1 := markL L (parts.map (·.2))
    match τ with
    | .slice e => if okSt (.arr len e) .idx parts && decide (C.Ty te = some e) && !(e.size == 0) && decide (len * e.size ≤ 16777216) then (setParts (.arr len e) .idx L1 (ETy.arr len e).z parts).map fun x => (true, .rs id, L1.set id (.row te e x false)) else none
    | _ => none

def allocA (C : Cfg) (L : Heap) (id : Nat) (t : TypeId) : A3 := (C.Ty t).map fun τ => (true, .ref id [], L.set id (.box τ τ.z false))

def boxA (C : Cfg) (L : Heap) (id : Nat) (t : TypeId) (a : AV) : A3 :=
  (C.Ty t).bind fun τ =>
    let L1 := mark1' L a
    (liftA L1 τ a).map fun x => (true, .ref id [], L1.set id (.box τ x false))
where mark1' (L : Heap) (a : AV) : Heap := markL L [a]

/-- A nil slice in a variable: a row of its own, empty. -/
def nilRowA (C : Cfg) (L : Heap) (id : Nat) (t : TypeId) : A3 :=
  match C.Ty t, elId C t with
  | some (.slice e), some te => some (true, .rs id, L.set id (.row te e [] false))
  | _, _ => none

def storeA (C : Cfg) (L : Heap) (t : TypeId) (p a : AV) : A3 :=
  (C.Ty t).bind fun τ =>
    let L1 := markL L [a]
    (liftA L1 τ a).bind fun y =>
      match p with
      | .ref id q => match L1[id]? with
        | some (.box T x false) => (setP T x q ⟨τ, y⟩).map fun x' => (true, .dead, L1.set id (.box T x' false))
        | _ => none
      | .rref id i q => match L1[id]? with
        | some (.row te e xs false) => (setP e (xs.getD i e.z) q ⟨τ, y⟩).map fun x' => (true, .dead, L1.set id (.row te e (xs.set i x') false))
        | _ => none
      | _ => none

def All2 {α β : Type} (R : α → β → Prop) : List α → List β → Prop
  | [], [] => True
  | x :: xs, y :: ys => R x y ∧ All2 R xs ys
  | _, _ => False

theorem getP_some : ∀ {T : ETy} {x : T.I} {s : PStep} {σ : ETy}, tyP T [s] = some σ → ∃ d, getP T x [s] = some d
  | .pair a b, x, .fld 0, σ, h => ⟨_, by simp only [getP]; rfl⟩
  | .pair a b, x, .fld (k + 1), σ, h => by simp only [tyP] at h; simp only [getP]; exact getP_some h
  | .arr n e, x, .idx i, σ, h => ⟨_, by simp only [getP]; rfl⟩
  | .int _, _, .fld _, _, h | .int _, _, .idx _, _, h | .bool, _, .fld _, _, h | .bool, _, .idx _, _, h
  | .str, _, .fld _, _, h | .str, _, .idx _, _, h | .raw _, _, .fld _, _, h | .raw _, _, .idx _, _, h
  | .unit, _, .fld _, _, h | .unit, _, .idx _, _, h | .slice _, _, .fld _, _, h | .slice _, _, .idx _, _, h
  | .pair _ _, _, .idx _, _, h | .arr _ _, _, .fld _, _, h => by simp [tyP] at h

theorem getP_of_set : ∀ {T : ETy} {x y : T.I} {p : List PStep} {e : Dat}, setP T x p e = some y → ∃ d, getP T x p = some d
  | T, x, y, [], e, h => ⟨_, by simp only [getP]; rfl⟩
  | .pair a b, x, y, .fld 0 :: p, e, h => by
    simp only [setP, Option.map_eq_some_iff] at h
    obtain ⟨z, hz, _⟩ := h
    simp only [getP]
    exact getP_of_set hz
  | .pair a b, x, y, .fld (k + 1) :: p, e, h => by
    simp only [setP, Option.map_eq_some_iff] at h
    obtain ⟨z, hz, _⟩ := h
    simp only [getP]
    exact getP_of_set hz
  | .arr n c, x, y, .idx i :: p, e, h => by
    simp only [setP, Option.map_eq_some_iff] at h
    obtain ⟨z, hz, _⟩ := h
    simp only [getP]
    exact getP_of_set hz
  | .int _, _, _, .fld _ :: _, _, h | .int _, _, _, .idx _ :: _, _, h | .bool, _, _, .fld _ :: _, _, h | .bool, _, _, .idx _ :: _, _, h
  | .str, _, _, .fld _ :: _, _, h | .str, _, _, .idx _ :: _, _, h | .raw _, _, _, .fld _ :: _, _, h | .raw _, _, _, .idx _ :: _, _, h
  | .unit, _, _, .fld _ :: _, _, h | .unit, _, _, .idx _ :: _, _, h | .slice _, _, _, .fld _ :: _, _, h | .slice _, _, _, .idx _ :: _, _, h
  | .pair _ _, _, _, .idx _ :: _, _, h | .arr _ _, _, _, .fld _ :: _, _, h => by simp [setP] at h

section
variable {C : Cfg} {B : Nat} {m : Nat → Value} {L : Heap} {w w' : World} {S S' : Nat → Nat → Prop}

theorem fold_set : ∀ (ms pre mid post : List Value) (o k : Nat), pre.length = o + k → mid.length = ms.length →
    (ms.zipIdx k).foldl (fun cs (c, j) => cs.setIfInBounds (o + j) c) (pre ++ mid ++ post).toArray = (pre ++ ms ++ post).toArray
  | [], pre, mid, post, o, k, h1, h2 => by
    obtain rfl : mid = [] := List.length_eq_zero_iff.1 (by simpa using h2)
    simp
  | c :: ms, pre, [], post, o, k, h1, h2 => by simp at h2
  | c :: ms, pre, d :: mid, post, o, k, h1, h2 => by
    have ih := fold_set ms (pre ++ [c]) mid post o (k + 1) (by simp [h1]; omega) (by simpa using h2)
    simp only [List.zipIdx_cons, List.foldl_cons] at ih ⊢
    have e : ((pre ++ d :: mid ++ post).toArray.setIfInBounds (o + k) c) = (pre ++ [c] ++ mid ++ post).toArray := by
      rw [← h1]
      simp
    rw [e, ih]
    simp

/-- Parts set one by one: the model's 'fill' and the datum's go together. -/
theorem fill_rep {T : ETy} {st : Nat → PStep} {place : Nat → Option (Nat × Nat)} (hp : ∀ i σ, tyP T [st i] = some σ → (match T, st i with | .arr n _, .idx j => decide (j < n) | _, _ => true) = true → place i = some (off T [st i], σ.size) ∧ okP T [st i]) :
    ∀ {parts : List (Nat × AV)} {vs : List (Nat × Value)} {x x' : T.I} {cs : List Value}, okSt T st parts = true → RepC w S T x cs →
      (All2 (fun (p : Nat × AV) (q : Nat × Value) => p.1 = q.1 ∧ ∀ σ y, liftA L σ p.2 = some y → RepV w S σ y q.2) parts vs) → setParts T st L x parts = some x' →
      ∃ cs', Instr.fill place cs.toArray vs = some cs'.toArray ∧ RepC w S T x' cs'
  | [], [], x, x', cs, ho, hr, hv, hs => by
    simp only [setParts, Option.some.injEq] at hs
    subst hs
    exact ⟨cs, rfl, hr⟩
  | (i, a) :: parts, (j, v) :: vs, x, x', cs, ho, hr, hv, hs => by
    obtain ⟨⟨rfl, h1⟩, h2⟩ := hv
    simp only [setParts] at hs
    cases hσ : tyP T [st i] with
    | none => rw [hσ] at hs; cases hs
    | some σ =>
      rw [hσ] at hs
      simp only [Option.bind_some] at hs
      cases hy : liftA L σ a with
      | none => rw [hy] at hs; cases hs
      | some y =>
        rw [hy] at hs
        simp only [Option.bind_some] at hs
        cases hx : setP T x [st i] ⟨σ, y⟩ with
        | none => rw [hx] at hs; cases hs
        | some x1 =>
          rw [hx] at hs
          simp only [Option.bind_some] at hs
          simp only [okSt, Bool.and_eq_true] at ho
          obtain ⟨p1, p2⟩ := hp i σ hσ ho.1
          obtain ⟨ms, hm, rfl⟩ := h1 σ y hy
          have hg : ∃ d, getP T x [st i] = some d := getP_some hσ
          obtain ⟨d, hd⟩ := hg
          have hdτ : d.τ = σ := by have := getP_ty hd; rw [hσ] at this; cases this; rfl
          obtain ⟨pre, mid, post, rfl, e1, e2, e3⟩ := getP_rep p2 hr hd
          obtain ⟨_, e4⟩ := e3 ⟨σ, y⟩ x1 ms hm hx
          obtain ⟨cs', f1, f2⟩ := fill_rep hp ho.2 e4 h2 hs
          refine ⟨cs', ?_, f2⟩
          rw [Instr.fill, p1]
          simp only
          rw [cells_valOf hm]
          have hml := hm.length
          have hmid := e2.length
          rw [hdτ] at hmid
          rw [if_neg (by simp [hml]; omega)]
          rw [← e1]
          have := fold_set ms pre mid post pre.length 0 (by simp) (by omega)
          rw [← Array.foldl_toList, Array.toList_zipIdx, this]
          exact f1
  | [], _ :: _, x, x', cs, ho, hr, hv, hs => by cases hv
  | _ :: _, [], x, x', cs, ho, hr, hv, hs => by cases hv
end
end Go.Proofs.YtmphlhnpichonaaDoor.K

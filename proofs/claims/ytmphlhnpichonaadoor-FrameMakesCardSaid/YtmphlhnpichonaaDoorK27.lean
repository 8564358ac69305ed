/- Code: the evaluator, what it comes to, and that the model comes to the same. -/
import Derived.Test.YtmphlhnpichonaaDoorK26
import Derived.LoopN
import Derived.Scope
set_option maxHeartbeats 400000
set_option linter.unusedVariables false
set_option linter.unusedSimpArgs false
namespace Go.Proofs.YtmphlhnpichonaaDoor.K
open Go Go.RowKit

inductive Ex where
  | normal | exit (id : Nat) | ret

def Ex.to : Ex → Exit
  | .normal => .normal
  | .exit id => .exit id
  | .ret => .ret

def isDead : AV → Bool
  | .dead => true
  | .cst (.tuple _) => true
  | _ => false

/-- At a round's end: what was not there when the loop began is forgotten. -/
def forget (h0 : Nat) : List Bool → List AV → List AV
  | _, [] => []
  | false :: ms, a :: as => (bif a.ids (fun _ id => decide (id < h0)) then a else .dead) :: forget h0 ms as
  | _ :: ms, _ :: as => .dead :: forget h0 ms as
  | [], _ :: as => .dead :: forget h0 [] as

/-- How many rounds a loop is given; and what a loop (told by its first region) may forget. -/
structure Fuel where
  n : Nat
  drop : Nat → List Nat

def firstReg : Code → Nat
  | .region id _ _ => id
  | .seq x _ => firstReg x
  | .block _ c => firstReg c
  | .cond _ x _ => firstReg x
  | .loop c => firstReg c
  | .scope c => firstReg c
  | _ => 0

def maskOf (drop : List Nat) : Nat → List AV → List Bool
  | _, [] => []
  | i, a :: as => (isDead a || drop.elem i) :: maskOf drop (i + 1) as

abbrev Kont (Ω : Type) := Ex → List AV → Heap → Option Ω

def seqK {Ω : Type} (f : List AV → Heap → Option Ω) (k : Kont Ω) : Kont Ω
  | .normal, env, L => f env L
  | .exit id, env, L => k (.exit id) env L
  | .ret, env, L => k .ret env L

def blockK {Ω : Type} (id : Nat) (k : Kont Ω) : Kont Ω
  | .normal, env, L => k .normal env L
  | .exit i, env, L => bif i == id then k .normal env L else k (.exit i) env L
  | .ret, env, L => k .ret env L

def loopC {Ω : Type} (R : List AV → Heap → Option Ω) (mask : List Bool) (h0 : Nat) (k : Kont Ω) : Kont Ω
  | .normal, env, L => R (forget h0 mask env) (L.take h0)
  | .exit id, env, L => k (.exit id) env L
  | .ret, env, L => k .ret env L

def loopK {Ω : Type} (body : List AV → Heap → Kont Ω → Option Ω) (mask : List Bool) (h0 : Nat) (k : Kont Ω) : Nat → List AV → Heap → Option Ω
  | 0, _, _ => none
  | n + 1, env, L => body env L (loopC (loopK body mask h0 k n) mask h0 k)

def iter {Ω σ : Type} (B : (σ → Option Ω) → σ → Option Ω) : Nat → σ → Option Ω
  | 0, _ => none
  | n + 1, s => B (iter B n) s

/-- A loop whose state is a datum. -/
theorem loopK_iter {Ω σ : Type} {body : List AV → Heap → Kont Ω → Option Ω} {mask : List Bool} {h0 : Nat} {k : Kont Ω} {envOf : σ → List AV} {LOf : σ → Heap} {B : (σ → Option Ω) → σ → Option Ω}
    (step : ∀ R s, body (envOf s) (LOf s) (loopC R mask h0 k) = B (fun s' => R (envOf s') (LOf s')) s) : ∀ n, (fun s => loopK body mask h0 k n (envOf s) (LOf s)) = iter B n
  | 0 => rfl
  | n + 1 => by
    funext s
    show body (envOf s) (LOf s) (loopC (loopK body mask h0 k n) mask h0 k) = B (iter B n) s
    rw [step, loopK_iter step n]

/-- Parts of a code. -/
def cl : Code → Code
  | .seq x _ => x
  | .cond _ x _ => x
  | .block _ c => c
  | .loop c => c
  | .scope c => c
  | c => c
def cr : Code → Code
  | .seq _ y => y
  | .cond _ _ y => y
  | c => c

def condEnv (env : List AV) : Operand → Bool → List AV
  | .tmp t, b => env.set t (.v .bool b)
  | _, _ => env

def evCode {Ω : Type} (C : Cfg) (spec : Spec) (fuel : Fuel) : Code → List AV → Heap → Kont Ω → Option Ω
  | .skip, env, L, k => k .normal env L
  | .label _, env, L, k => k .normal env L
  | .region _ ops draw, env, L, k => evRegion C spec ops draw env L (k .normal)
  | .seq x y, env, L, k => evCode C spec fuel x env L (seqK (fun env L => evCode C spec fuel y env L k) k)
  | .cond c x y, env, L, k => match evA C env c with
    | .v .bool b => bif b then evCode C spec fuel x (condEnv env c true) L k else evCode C spec fuel y (condEnv env c false) L k
    | _ => none
  | .block id c, env, L, k => evCode C spec fuel c env L (blockK id k)
  | .loop c, env, L, k => loopK (fun env L k => evCode C spec fuel c env L k) (maskOf (fuel.drop (firstReg c)) 0 env) L.length k fuel.n (forget L.length (maskOf (fuel.drop (firstReg c)) 0 env) env) L
  | .exit id, env, L, k => k (.exit id) env L
  | .ret, env, L, k => k .ret env L
  | .scope c, env, L, k => evCode C spec fuel c env L k
  | _, _, _, _ => none

def RegRel (C : Cfg) (ops : Array Oper) (draw : Bool) (env : List AV) (L : Heap) (env' : List AV) (L' : Heap) : Prop :=
  if draw then ∃ fs, drawOK ops [] (items ops.toList fs 0 L.length) = true ∧ RunD C ops (items ops.toList fs 0 L.length) env (L ++ List.replicate (cntIds ops.toList) .resv) env' L'
  else RunRel C ops (withIds ops.toList L.length) env (L ++ List.replicate (cntIds ops.toList) .resv) env' L'

mutual
inductive CodeRel (C : Cfg) : Code → List AV → Heap → Ex → List AV → Heap → Prop
  | skip {env L} : CodeRel C .skip env L .normal env L
  | label {l env L} : CodeRel C (.label l) env L .normal env L
  | exit {id env L} : CodeRel C (.exit id) env L (.exit id) env L
  | ret {env L} : CodeRel C .ret env L .ret env L
  | region {id ops draw env L env' L'} (h : RegRel C ops draw env L env' L') : CodeRel C (.region id ops draw) env L .normal env' L'
  | seqN {x y env L env1 L1 e env2 L2} (h : CodeRel C x env L .normal env1 L1) (k : CodeRel C y env1 L1 e env2 L2) : CodeRel C (.seq x y) env L e env2 L2
  | seqX {x y env L e env1 L1} (h : CodeRel C x env L e env1 L1) (he : e ≠ .normal) : CodeRel C (.seq x y) env L e env1 L1
  | cond {c x y env L b e env1 L1} (hc : evA C env c = .v .bool b) (h : CodeRel C (if b then x else y) env L e env1 L1) : CodeRel C (.cond c x y) env L e env1 L1
  | blockHit {id c env L env1 L1} (h : CodeRel C c env L (.exit id) env1 L1) : CodeRel C (.block id c) env L .normal env1 L1
  | blockOut {id c env L e env1 L1} (h : CodeRel C c env L e env1 L1) (he : e ≠ .exit id) : CodeRel C (.block id c) env L e env1 L1
  | scope {c env L e env1 L1} (h : CodeRel C c env L e env1 L1) : CodeRel C (.scope c) env L e env1 L1
  | loop {c mask env L e env1 L1} (h : LoopRel C c mask L.length (forget L.length mask env) L e env1 L1) : CodeRel C (.loop c) env L e env1 L1
inductive LoopRel (C : Cfg) : Code → List Bool → Nat → List AV → Heap → Ex → List AV → Heap → Prop
  | stop {c mask h0 env L e env1 L1} (h : CodeRel C c env L e env1 L1) (he : e ≠ .normal) : LoopRel C c mask h0 env L e env1 L1
  | more {c mask h0 env L env1 L1 e env2 L2} (h : CodeRel C c env L .normal env1 L1) (k : LoopRel C c mask h0 (forget h0 mask env1) (L1.take h0) e env2 L2) : LoopRel C c mask h0 env L e env2 L2
end

section
variable {Ω : Type} {C : Cfg} {B : Nat} {w0 : World} {S0 : Nat → Nat → Prop} {spec : Spec}

theorem evRegion_rel (hS : SpecOK C spec) {ops : Array Oper} {draw : Bool} {env : List AV} {L : Heap} {k : List AV → Heap → Option Ω} {r : Ω} (h : evRegion C spec ops draw env L k = some r) : ∃ env' L', RegRel C ops draw env L env' L' ∧ k env' L' = some r := by
  unfold evRegion at h
  unfold RegRel
  cases draw with
  | false =>
    simp only [cond_false] at h
    obtain ⟨env', L', h1, h2⟩ := evOps_rel hS h
    exact ⟨env', L', by simpa using h1, h2⟩
  | true =>
    simp only [cond_true] at h
    obtain ⟨env', L', fl, h1, _, h3, h2⟩ := evOpsD_run hS h
    exact ⟨env', L', by
      simp only [if_true]
      exact ⟨fl, by simpa using h3, h1⟩, h2⟩

theorem condEnv_same {env : List AV} {c : Operand} {b : Bool} (h : evA C env c = .v .bool b) : condEnv env c b = env := by
  cases c with
  | tmp t => exact set_getD h (by simp)
  | _ => rfl

theorem loopK_rel {body : List AV → Heap → Kont Ω → Option Ω} {c : Code} (hb : ∀ {env L k r}, body env L k = some r → ∃ e env' L', CodeRel C c env L e env' L' ∧ k e env' L' = some r) {mask : List Bool} {h0 : Nat} {k : Ex → List AV → Heap → Option Ω} {r : Ω} :
    ∀ {n : Nat} {env : List AV} {L : Heap}, loopK body mask h0 k n env L = some r → ∃ e env' L', LoopRel C c mask h0 env L e env' L' ∧ k e env' L' = some r
  | 0, env, L, h => by simp [loopK] at h
  | n + 1, env, L, h => by
    simp only [loopK] at h
    obtain ⟨e, env1, L1, h1, h2⟩ := hb h
    cases e with
    | normal =>
      obtain ⟨e, env', L', h3, h4⟩ := loopK_rel hb h2
      exact ⟨e, env', L', .more h1 h3, h4⟩
    | exit id => exact ⟨_, _, _, .stop h1 (by simp), h2⟩
    | ret => exact ⟨_, _, _, .stop h1 (by simp), h2⟩

theorem evCode_rel (hS : SpecOK C spec) {fuel : Fuel} : ∀ {c : Code} {env : List AV} {L : Heap} {k : Ex → List AV → Heap → Option Ω} {r : Ω}, evCode C spec fuel c env L k = some r → ∃ e env' L', CodeRel C c env L e env' L' ∧ k e env' L' = some r
  | .skip, env, L, k, r, h => ⟨_, _, _, .skip, h⟩
  | .label _, env, L, k, r, h => ⟨_, _, _, .label, h⟩
  | .exit _, env, L, k, r, h => ⟨_, _, _, .exit, h⟩
  | .ret, env, L, k, r, h => ⟨_, _, _, .ret, h⟩
  | .region _ ops draw, env, L, k, r, h => by
    simp only [evCode] at h
    obtain ⟨env', L', h1, h2⟩ := evRegion_rel hS h
    exact ⟨_, _, _, .region h1, h2⟩
  | .seq x y, env, L, k, r, h => by
    simp only [evCode] at h
    obtain ⟨e, env1, L1, h1, h2⟩ := evCode_rel hS h
    cases e with
    | normal =>
      obtain ⟨e, env', L', h3, h4⟩ := evCode_rel hS h2
      exact ⟨e, env', L', .seqN h1 h3, h4⟩
    | exit id => exact ⟨_, _, _, .seqX h1 (by simp), h2⟩
    | ret => exact ⟨_, _, _, .seqX h1 (by simp), h2⟩
  | .cond c x y, env, L, k, r, h => by
    simp only [evCode] at h
    split at h
    · rename_i b hb
      cases b with
      | true =>
        rw [condEnv_same hb] at h
        obtain ⟨e, env', L', h1, h2⟩ := evCode_rel hS (c := x) (by simpa using h)
        exact ⟨e, env', L', .cond hb (by simpa using h1), h2⟩
      | false =>
        rw [condEnv_same hb] at h
        obtain ⟨e, env', L', h1, h2⟩ := evCode_rel hS (c := y) (by simpa using h)
        exact ⟨e, env', L', .cond hb (by simpa using h1), h2⟩
    · cases h
  | .block id c, env, L, k, r, h => by
    simp only [evCode] at h
    obtain ⟨e, env1, L1, h1, h2⟩ := evCode_rel hS h
    cases e with
    | normal => exact ⟨_, _, _, .blockOut h1 (by simp), h2⟩
    | exit i =>
      by_cases hi : i = id
      · subst hi
        exact ⟨_, _, _, .blockHit h1, by simpa [blockK] using h2⟩
      · refine ⟨_, _, _, .blockOut h1 (by simpa using hi), ?_⟩
        have : (i == id) = false := by simpa using hi
        simpa [blockK, this] using h2
    | ret => exact ⟨_, _, _, .blockOut h1 (by simp), h2⟩
  | .loop c, env, L, k, r, h => by
    simp only [evCode] at h
    obtain ⟨e, env', L', h1, h2⟩ := loopK_rel (c := c) (fun h => evCode_rel hS h) h
    exact ⟨e, env', L', .loop h1, h2⟩
  | .rangeFunc .., env, L, k, r, h => by simp [evCode] at h
  | .scope c, env, L, k, r, h => by
    simp only [evCode] at h
    obtain ⟨e, env1, L1, h1, h2⟩ := evCode_rel hS h
    exact ⟨_, _, _, .scope h1, h2⟩
  | .goto _, env, L, k, r, h => by simp [evCode] at h
  | .refuse _, env, L, k, r, h => by simp [evCode] at h

theorem reg_wp (hC : C.OK) {rid : Nat} {ops : Array Oper} {draw : Bool} {env env' : List AV} {L L' : Heap} (h : RegRel C ops draw env L env' L') {a : Act} {w : World} (hst : St C B w0 S0 env L a w)
    {Q : Exit → Act → World → Prop} (hQ : ∀ a' w', St C B w0 S0 env' L' a' w' → Q .normal a' w') : (Code.region rid ops draw).wp C.P Q a w := by
  unfold RegRel at h
  have hmore := hst.more (cntIds ops.toList)
  have hres : ∀ i, i < cntIds ops.toList → (L ++ List.replicate (cntIds ops.toList) .resv)[L.length + i]? = some .resv := by
    intro i hi
    rw [List.getElem?_append_right (by omega), List.getElem?_replicate, if_pos (by omega)]
  cases draw with
  | false =>
    simp only [Bool.false_eq_true, if_false] at h
    exact wp_region_list (run_wpList hC hQ ops.toList L.length h hres hmore)
  | true =>
    simp only [if_true] at h
    obtain ⟨fs, hd, h1⟩ := h
    refine wp_region_any hC.mixed (run_wpAny (id0 := L.length) hC hd hQ ops.size (items ops.toList fs 0 L.length) _ ?_ (fun t h => h) ?_ (by simp) (fun i hi => ?_) (left_all _ _) h1 ⟨?_, ?_⟩ hmore.drew)
    · rw [items_len]; simp
    · exact (items_sorted _ _ _ _).imp fun h => h.1
    · have e1 : (Array.replicate ops.size false).getD i true = false := by simp [Array.getD, hi]
      rw [e1]
      simp only [true_iff]
      obtain ⟨t, q1, q2⟩ := items_all ops.toList fs 0 L.length i (by simpa using hi)
      exact ⟨t, List.mem_of_getElem? q1, by omega⟩
    · intro t ht hw
      obtain ⟨_, _, q3, q4⟩ := items_at ht
      have := hres (t.id - L.length) (by have := q4 hw; omega)
      rwa [show L.length + (t.id - L.length) = t.id by omega] at this
    · exact (items_sorted _ _ _ _).imp fun h => h.2

theorem take_get {L : Heap} {h0 i : Nat} {s : Slot} (h : (L.take h0)[i]? = some s) : L[i]? = some s ∧ i < h0 := by
  rw [List.getElem?_take] at h
  split at h
  · rename_i hi; exact ⟨h, hi⟩
  · cases h

mutual
theorem RepA.take {m : Nat → Value} {L : Heap} {w : World} {S : Nat → Nat → Prop} {h0 : Nat} : ∀ {a : AV} {u : Value}, a.ids (fun _ id => decide (id < h0)) = true → RepA m L w S a u → RepA m (L.take h0) w S a u
  | .v τ x, u, _, h => by rw [rep_v] at h ⊢; exact h
  | .cst c, u, _, h => by simp only [RepA] at h ⊢; exact h
  | .vp T x p, u, _, h => by simp only [RepA] at h ⊢; exact h
  | .ref id p, u, hx, h => by
    simp only [AV.ids, decide_eq_true_eq] at hx
    simp only [RepA] at h ⊢
    rw [List.getElem?_take, if_pos hx]; exact h
  | .rref id i p, u, hx, h => by
    simp only [AV.ids, decide_eq_true_eq] at hx
    simp only [RepA] at h ⊢
    rw [List.getElem?_take, if_pos hx]; exact h
  | .ls id p lo n, u, hx, h => by
    simp only [AV.ids, decide_eq_true_eq] at hx
    simp only [RepA] at h ⊢
    rw [List.getElem?_take, if_pos hx]; exact h
  | .rs id, u, hx, h => by
    simp only [AV.ids, decide_eq_true_eq] at hx
    simp only [RepA] at h ⊢
    rw [List.getElem?_take, if_pos hx]; exact h
  | .fn f caps, u, hx, h => by
    simp only [RepA] at h ⊢
    obtain ⟨vs, e, h1⟩ := h
    exact ⟨vs, e, RepAs.take (by simpa [AV.ids] using hx) h1⟩
  | .tup l, u, hx, h => by
    simp only [RepA] at h ⊢
    obtain ⟨vs, e, h1⟩ := h
    exact ⟨vs, e, RepAs.take (by simpa [AV.ids] using hx) h1⟩
  | .dead, u, _, h => by simp only [RepA]
theorem RepAs.take {m : Nat → Value} {L : Heap} {w : World} {S : Nat → Nat → Prop} {h0 : Nat} : ∀ {a : List AV} {u : List Value}, AV.idsL (fun _ id => decide (id < h0)) a = true → RepAs m L w S a u → RepAs m (L.take h0) w S a u
  | [], u, _, h => by simp only [RepAs] at h ⊢; exact h
  | x :: xs, u, hx, h => by
    simp only [AV.idsL, Bool.and_eq_true] at hx
    simp only [RepAs] at h ⊢
    obtain ⟨y, r, rfl, h1, h2⟩ := h
    exact ⟨y, r, rfl, h1.take hx.1, RepAs.take hx.2 h2⟩
end

theorem Inv.take {m : Nat → Value} {L : Heap} {w : World} {S : Nat → Nat → Prop} (h : Inv B m L w S) (h0 : Nat) : Inv B m (L.take h0) w S where
  base := h.base
  box id T x ro e := h.box id T x ro (take_get e).1
  row id t e xs ro q := h.row id t e xs ro (take_get q).1
  apart i j s r hij e1 e2 := h.apart i j s r hij (take_get e1).1 (take_get e2).1
  prot b o hs := ⟨(h.prot b o hs).1, fun i s e => (h.prot b o hs).2 i s (take_get e).1⟩

theorem forget_len {h0 : Nat} : ∀ {mask : List Bool} {env : List AV}, (forget h0 mask env).length = env.length
  | mask, [] => by cases mask with | nil => rfl | cons b _ => cases b <;> rfl
  | [], a :: as => by simp [forget, forget_len]
  | false :: ms, a :: as => by simp [forget, forget_len]
  | true :: ms, a :: as => by simp [forget, forget_len]

theorem forget_at {m : Nat → Value} {L : Heap} {w : World} {S : Nat → Nat → Prop} {h0 : Nat} : ∀ {mask : List Bool} {env : List AV} {t : Nat} {u : Value}, RepA m L w S (env.getD t .dead) u → RepA m (L.take h0) w S ((forget h0 mask env).getD t .dead) u
  | mask, [], t, u, h => by cases mask with | nil => simp [forget, RepA] | cons b _ => cases b <;> simp [forget, RepA]
  | [], a :: as, 0, u, h => by simp [forget, RepA]
  | [], a :: as, t + 1, u, h => by simpa [forget] using forget_at (mask := []) (env := as) (t := t) (by simpa using h)
  | true :: ms, a :: as, 0, u, h => by simp [forget, RepA]
  | true :: ms, a :: as, t + 1, u, h => by simpa [forget] using forget_at (mask := ms) (env := as) (t := t) (by simpa using h)
  | false :: ms, a :: as, t + 1, u, h => by simpa [forget] using forget_at (mask := ms) (env := as) (t := t) (by simpa using h)
  | false :: ms, a :: as, 0, u, h => by
    have h : RepA m L w S a u := by simpa using h
    simp only [forget, List.getD_cons_zero]
    cases hx : a.ids (fun _ id => decide (id < h0)) with
    | true => exact h.take hx
    | false => simp only [cond_false, RepA]

theorem St.forget {env : List AV} {L : Heap} {a : Act} {w : World} (h : St C B w0 S0 env L a w) (h0 : Nat) (mask : List Bool) : St C B w0 S0 (forget h0 mask env) (L.take h0) a w := by
  obtain ⟨m, S, hI, hE, hr⟩ := h
  exact ⟨m, S, hI.take h0, ⟨by rw [forget_len]; exact hE.size, fun t => forget_at (hE.at_ t)⟩, hr⟩

theorem Ex.then_ne {e : Ex} (h : e ≠ .normal) {K : Act → World → Prop} {Q : Exit → Act → World → Prop} {a : Act} {w : World} (hq : Q e.to a w) : Exit.then K Q e.to a w := by
  cases e with
  | normal => exact absurd rfl h
  | exit id => exact hq
  | ret => exact hq

theorem Ex.inBlock_ne {e : Ex} {id : Nat} (h : e ≠ .exit id) {Q : Exit → Act → World → Prop} {a : Act} {w : World} (hq : Q e.to a w) : Exit.inBlock id Q e.to a w := by
  cases e with
  | normal => exact hq
  | exit i =>
    have : i ≠ id := fun e => h (by rw [e])
    simp [Ex.to, Exit.inBlock, this] at hq ⊢
    exact hq
  | ret => exact hq

theorem Ex.noGoto {e : Ex} {Q : Exit → Act → World → Prop} {a : Act} {w : World} (hq : Q e.to a w) : Exit.noGoto Q e.to a w := by
  cases e <;> exact hq

mutual
theorem code_wp (hC : C.OK) {c : Code} {env : List AV} {L : Heap} {e : Ex} {env' : List AV} {L' : Heap} : CodeRel C c env L e env' L' → ∀ (a : Act) (w : World) (Q : Exit → Act → World → Prop), St C B w0 S0 env L a w → (∀ a' w', St C B w0 S0 env' L' a' w' → Q e.to a' w') → c.wp C.P Q a w
  | .skip, a, w, Q, hst, hQ => wp_skip (hQ a w hst)
  | .label, a, w, Q, hst, hQ => wp_label (hQ a w hst)
  | .exit, a, w, Q, hst, hQ => wp_exit (hQ a w hst)
  | .ret, a, w, Q, hst, hQ => wp_ret (hQ a w hst)
  | .region h, a, w, Q, hst, hQ => reg_wp hC h hst hQ
  | .seqN h k, a, w, Q, hst, hQ => wp_seq (code_wp hC h a w _ hst fun a' w' hst' => code_wp hC k a' w' Q hst' hQ)
  | .seqX h he, a, w, Q, hst, hQ => wp_seq (code_wp hC h a w _ hst fun a' w' hst' => Ex.then_ne he (hQ a' w' hst'))
  | .cond (c := c) (b := b) hc h, a, w, Q, hst, hQ => by
    have hst' := hst
    obtain ⟨m, S, hI, hE, hG, _⟩ := hst'
    have hev := hE.eval hG c
    rw [hc, rep_bool] at hev
    exact wp_cond (t := b) hev (code_wp hC h a w Q hst hQ)
  | .blockHit h, a, w, Q, hst, hQ => wp_block (code_wp hC h a w _ hst fun a' w' hst' => by
      have := hQ a' w' hst'
      simpa [Ex.to, Exit.inBlock] using this)
  | .blockOut h he, a, w, Q, hst, hQ => wp_block (code_wp hC h a w _ hst fun a' w' hst' => Ex.inBlock_ne he (hQ a' w' hst'))
  | .scope h, a, w, Q, hst, hQ => wp_scope_straight (code_wp hC h a w _ hst fun a' w' hst' => Ex.noGoto (hQ a' w' hst'))
  | .loop h, a, w, Q, hst, hQ => by
    obtain ⟨n, hn⟩ := loop_wp hC h
    have hst' := hst.forget L.length (by assumption)
    rw [List.take_length] at hst'
    exact wp_loop_rounds n (hn a w Q hst' hQ)
theorem loop_wp (hC : C.OK) {c : Code} {mask : List Bool} {h0 : Nat} {env : List AV} {L : Heap} {e : Ex} {env' : List AV} {L' : Heap} : LoopRel C c mask h0 env L e env' L' → ∃ n, ∀ (a : Act) (w : World) (Q : Exit → Act → World → Prop), St C B w0 S0 env L a w → (∀ a' w', St C B w0 S0 env' L' a' w' → Q e.to a' w') → Code.rounds C.P c Q n a w
  | .stop h he => ⟨1, fun a w Q hst hQ => code_wp hC h a w _ hst fun a' w' hst' => Ex.then_ne he (hQ a' w' hst')⟩
  | .more h k => by
    obtain ⟨n, hn⟩ := loop_wp hC k
    exact ⟨n + 1, fun a w Q hst hQ => code_wp hC h a w _ hst fun a' w' hst' => hn a' w' Q (hst'.forget _ _) hQ⟩
end
end
end Go.Proofs.YtmphlhnpichonaaDoor.K

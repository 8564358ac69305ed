/- Entries in one piece: functions of data and of functions; methods that turn the caller's own blocks. -/
import Derived.Test.YtmmooplcdkmapaaGreatDoorKI
set_option maxHeartbeats 400000
set_option linter.unusedVariables false
set_option linter.unusedSimpArgs false
namespace Go.Proofs.YtmmooplcdkmapaaGreatDoor.K
open Go Go.RowKit

/-- A part of a function's code: from the body on, the left part (0) or the right one (1), the last one told first; a 1 ends it. -/
def pAt : Nat → Nat → Code → Code
  | 0, _, c => c
  | f + 1, n, c => bif n == 1 then c else pAt f (n / 2) (bif n % 2 == 0 then cl c else cr c)
abbrev pCo (n : Nat) (fn : Func) : Code := pAt 100 n (fn.body.getD .skip)
/-- Dead temporaries; masks and lists told by a number's bits. -/
def dZ : Nat → List AV → List AV
  | 0, l => l
  | n + 1, l => .dead :: dZ n l
def mB : Nat → Nat → List Bool
  | 0, _ => []
  | n + 1, b => (b % 2 == 1) :: mB n (b / 2)
def mL : Nat → Nat → Nat → List Nat
  | _, 0, _ => []
  | i, n + 1, b => bif b % 2 == 1 then i :: mL (i + 1) n (b / 2) else mL (i + 1) n (b / 2)
def sqK {Ω : Type} (f : List AV → Heap → Kont Ω → Option Ω) (k : Kont Ω) : Kont Ω := seqK (fun env L => f env L k) k
abbrev Cfg.from (C : Cfg) (n : Nat) : Cfg := { C with Y := fun i => decide (n ≤ i) }
theorem leV {Ω : Type} {X Y Z : Option Ω} (h : Z = Y) (hl : Le X Y) : Le X Z := h ▸ hl

/-- Kinds of arguments: data; a place that is only read; a function, with what it has caught; a place that holds a function; a block of the caller's. -/
inductive AK where
  | ai (τ : ETy) | ap (T : ETy) | af0 (g : FuncId) | af1 (g : FuncId) (T : ETy) | af2 (g : FuncId) (T U : ETy) | aq (g : FuncId) | afq (g h : FuncId) | ar (id : Nat)
@[reducible] def AK.I : AK → Type
  | .ai τ => τ.I
  | .ap T => T.I
  | .af1 _ T => T.I
  | .af2 _ T U => T.I × U.I
  | _ => Unit
def AK.av : (a : AK) → a.I → AV
  | .ai τ, x => .v τ x
  | .ap T, x => .vp T x []
  | .af0 g, _ => .fn g []
  | .af1 g T, x => .fn g [.vp T x []]
  | .af2 g T U, x => .fn g [.vp T x.1 [], .vp U x.2 []]
  | .aq g, _ => .vp (.raw .func) (Value.func (.func g) #[] #[]) []
  | .afq g h, _ => .fn g [.vp (.raw .func) (Value.func (.func h) #[] #[]) []]
  | .ar id, _ => .ref id []
def isNilP : List PStep → Bool
  | [] => true
  | _ => false
def dec0 (g : FuncId) : AV → Option Unit
  | .fn g' [] => bif g' == g then some () else none
  | _ => none
def dec1 (g : FuncId) (T : ETy) : AV → Option T.I
  | .fn g' [a] => bif g' == g then getVP T a else none
  | _ => none
def dec2 (g : FuncId) (T U : ETy) : AV → Option (T.I × U.I)
  | .fn g' [a, b] => bif g' == g then (getVP T a).bind fun x => (getVP U b).bind fun y => some (x, y) else none
  | _ => none
def decQ (g : FuncId) : AV → Option Unit
  | .vp (.raw .func) v [] => bif asFn v == some g then some () else none
  | _ => none
def decFq (g h : FuncId) : AV → Option Unit
  | .fn g' [.vp (.raw .func) v []] => bif g' == g && asFn v == some h then some () else none
  | _ => none
def decR (id : Nat) : AV → Option Unit
  | .ref id' p => bif id' == id && isNilP p then some () else none
  | _ => none
def AK.dec : (a : AK) → AV → Option a.I
  | .ai τ => getI τ
  | .ap T => getVP T
  | .af0 g => dec0 g
  | .af1 g T => dec1 g T
  | .af2 g T U => dec2 g T U
  | .aq g => decQ g
  | .afq g h => decFq g h
  | .ar id => decR id
theorem ite_get {α : Type} {c : Bool} {o : Option α} {x : α} (h : (bif c then o else none) = some x) : c = true ∧ o = some x := by
  cases c with
  | true => exact ⟨rfl, h⟩
  | false => cases h
theorem AK.dec_eq : ∀ {a : AK} {v : AV} {x : a.I}, a.dec v = some x → v = a.av x
  | .ai τ, v, x, h => getI_eq (show getI τ v = some x from h)
  | .ap T, v, x, h => getVP_eq (show getVP T v = some x from h)
  | .af0 g, v, x, h => by
    match v, h with
    | .fn g' [], h =>
      obtain ⟨h1, _⟩ := ite_get (show (bif g' == g then some () else none) = some x from h)
      rw [show g' = g by simpa using h1]; rfl
  | .af1 g T, v, x, h => by
    match v, h with
    | .fn g' [a], h =>
      obtain ⟨h1, h2⟩ := ite_get (show (bif g' == g then getVP T a else none) = some x from h)
      rw [show g' = g by simpa using h1, getVP_eq h2]; rfl
  | .af2 g T U, v, x, h => by
    match v, h with
    | .fn g' [a, b], h =>
      obtain ⟨h1, h2⟩ := ite_get (show (bif g' == g then (getVP T a).bind fun x => (getVP U b).bind fun y => some (x, y) else none) = some x from h)
      obtain ⟨y, h3, h4⟩ := Option.bind_eq_some_iff.1 h2
      obtain ⟨z, h5, h6⟩ := Option.bind_eq_some_iff.1 h4
      cases h6
      rw [show g' = g by simpa using h1, getVP_eq h3, getVP_eq h5]; rfl
  | .aq g, v, x, h => by
    match v, h with
    | .vp (.raw .func) u [], h =>
      obtain ⟨h1, _⟩ := ite_get (show (bif asFn u == some g then some () else none) = some x from h)
      obtain rfl := asFn_eq (show asFn u = some g by simpa using h1)
      rfl
  | .afq g q, v, x, h => by
    match v, h with
    | .fn g' [.vp (.raw .func) u []], h =>
      obtain ⟨h1, _⟩ := ite_get (show (bif g' == g && asFn u == some q then some () else none) = some x from h)
      simp only [Bool.and_eq_true] at h1
      obtain rfl := asFn_eq (show asFn u = some q by simpa using h1.2)
      rw [show g' = g by simpa using h1.1]; rfl
  | .ar id, v, x, h => by
    match v, h with
    | .ref id' p, h =>
      obtain ⟨h1, _⟩ := ite_get (show (bif id' == id && isNilP p then some () else none) = some x from h)
      simp only [Bool.and_eq_true] at h1
      obtain ⟨h1, h2⟩ := h1
      match p, h2 with
      | [], _ => rw [show id' = id by simpa using h1]; rfl
@[reducible] def AIs : List AK → Type
  | [] => Unit
  | a :: r => a.I × AIs r
def encA : (ts : List AK) → AIs ts → List AV
  | [], _ => []
  | a :: r, x => a.av x.1 :: encA r x.2
def decA : (ts : List AK) → List AV → Option (AIs ts)
  | [], [] => some ()
  | a :: r, v :: vs => (a.dec v).bind fun x => (decA r vs).bind fun y => some (x, y)
  | _, _ => none
theorem decA_eq : ∀ {ts : List AK} {vs : List AV} {x : AIs ts}, decA ts vs = some x → vs = encA ts x
  | [], [], x, h => rfl
  | [], _ :: _, x, h => by cases h
  | a :: r, [], x, h => by cases h
  | a :: r, v :: vs, x, h => by
    simp only [decA] at h
    obtain ⟨y, h1, h2⟩ := Option.bind_eq_some_iff.1 h
    obtain ⟨z, h3, h4⟩ := Option.bind_eq_some_iff.1 h2
    cases h4
    rw [AK.dec_eq h1, decA_eq h3]; rfl
/-- Do the functions among the arguments fit? -/
def sigA : List AK → List AV → Bool
  | .af0 g :: r, v :: vs => (match v with | .fn g' [] => g' == g | _ => false) && sigA r vs
  | .af1 g _ :: r, v :: vs => (match v with | .fn g' [_] => g' == g | _ => false) && sigA r vs
  | .af2 g _ _ :: r, v :: vs => (match v with | .fn g' [_, _] => g' == g | _ => false) && sigA r vs
  | .aq g :: r, v :: vs => (match v with | .vp (.raw .func) w [] => asFn w == some g | _ => false) && sigA r vs
  | .afq g h :: r, v :: vs => (match v with | .fn g' [.vp (.raw .func) w []] => g' == g && asFn w == some h | _ => false) && sigA r vs
  | _ :: r, _ :: vs => sigA r vs
  | _, _ => true

/-- What is known of a function. -/
structure En (C : Cfg) where
  g : FuncId
  t : List AV → Bool
  e : Ent
  ok : EntOK C g (fun {_} => e)
/-- What is known of a function that turns the caller's blocks. -/
structure Me (C : Cfg) where
  g : FuncId
  t : List AV → Heap → Bool
  fx : ∀ {Ω : Type}, List AV → Heap → (AV → Heap → Option Ω) → Option Ω
  ok : FxOK C g (fun {_} => fx)
def orT (g0 : FuncId) (t : List AV → Bool) (e : Ent) (rest : Spec) : Spec := ⟨fun g bs k => bif g == g0 && t bs then e bs k else rest.con g bs k, rest.isI, rest.inl⟩
def fxT (g0 : FuncId) (t : List AV → Heap → Bool) (fx : ∀ {Ω : Type}, List AV → Heap → (AV → Heap → Option Ω) → Option Ω) (rest : Spec) : Spec :=
  ⟨rest.con, fun g => g == g0 || rest.isI g, fun g vs L k => bif g == g0 && t vs L then fx vs L k else rest.inl g vs L k⟩
def spM {C : Cfg} : List (Me C) → Spec
  | m :: l => fxT m.g m.t (fun {_} => m.fx) (spM l)
  | [] => noS
def spE {C : Cfg} : List (En C) → List (Me C) → Spec
  | e :: l, m => orT e.g e.t (fun {_} => e.e) (spE l m)
  | [], m => spM m
theorem orT_ok {C : Cfg} {g0 : FuncId} {t : List AV → Bool} {e : Ent} {rest : Spec} (h : EntOK C g0 (fun {_} => e)) (hr : SpecOK C rest) : SpecOK C (orT g0 t (fun {_} => e) rest) := by
  refine ⟨?_, hr.inl⟩
  intro Ω g bs k r hk
  have hk2 : (bif g == g0 && t bs then e bs k else rest.con g bs k) = some r := hk
  cases hb : (g == g0 && t bs) with
  | true =>
    rw [hb, cond_true] at hk2
    simp only [Bool.and_eq_true, beq_iff_eq] at hb
    rw [hb.1]
    exact h bs k r hk2
  | false => rw [hb, cond_false] at hk2; exact hr.con g bs k r hk2
theorem fxT_ok {C : Cfg} {g0 : FuncId} {t : List AV → Heap → Bool} {fx : ∀ {Ω : Type}, List AV → Heap → (AV → Heap → Option Ω) → Option Ω} {rest : Spec} (h : FxOK C g0 (fun {_} => fx)) (hr : SpecOK C rest) : SpecOK C (fxT g0 t (fun {_} => fx) rest) := by
  refine ⟨hr.con, ?_⟩
  intro Ω g vs L k r hk
  have hk2 : (bif g == g0 && t vs L then fx vs L k else rest.inl g vs L k) = some r := hk
  cases hb : (g == g0 && t vs L) with
  | true =>
    rw [hb, cond_true] at hk2
    simp only [Bool.and_eq_true, beq_iff_eq] at hb
    rw [hb.1]
    exact h vs L k r hk2
  | false => rw [hb, cond_false] at hk2; exact hr.inl g vs L k r hk2
theorem spM_ok {C : Cfg} : ∀ (m : List (Me C)), SpecOK C (spM m)
  | m :: l => fxT_ok m.ok (spM_ok l)
  | [] => noS_ok
theorem spE_ok {C : Cfg} : ∀ (l : List (En C)) (m : List (Me C)), SpecOK C (spE l m)
  | e :: l, m => orT_ok e.ok (spE_ok l m)
  | [], m => spM_ok m

section
variable {C : Cfg}
/-- Is that the function's number, and has it a body? -/
def fnOK (C : Cfg) (g : FuncId) (fn : Func) : Prop := C.P.funcs[g]? = some fn
def bodyOK (fn : Func) : Bool := fn.body.isSome && !(fn.name == "runtime.NumGoroutine")

/-- An entry, of what the code comes to at the least. -/
def mkE (hC : C.OK) {es : List (En C)} {ms : List (Me C)} {fuel : Fuel} (g : FuncId) (fn : Func) (ts : List AK) (τ : ETy) (l : List ETy) (W : AIs ts → ∀ {Ω : Type}, (Tup τ l → Option Ω) → Option Ω)
    (h : ∀ (x : AIs ts) (Ω : Type) (k : AV → Option Ω), Le (W x fun r => k (tupAV τ l r)) (evFn C (spE es ms) fuel fn (fn.body.getD .skip) (encA ts x) k)) (hf : C.P.funcs[g]? = some fn) (hb : bodyOK fn = true) : En C where
  g := g
  t := sigA ts
  e := fun vs k => (decA ts vs).bind fun x => (W x some).bind fun r => k (tupAV τ l r)
  ok := by
    intro Ω vs k r hk
    obtain ⟨x, h1, h2⟩ := Option.bind_eq_some_iff.1 hk
    obtain ⟨y, h3, h4⟩ := Option.bind_eq_some_iff.1 h2
    have hb2 : fn.body.isSome = true ∧ (fn.name == "runtime.NumGoroutine") = false := by simpa [bodyOK] using hb
    refine ⟨_, h4, ?_⟩
    rw [decA_eq h1]
    refine contract_u hC (spE_ok es ms) hf hb2.1 hb2.2 (h x _ (dec τ l) y ?_)
    rw [dec_fun]; exact h3
/-- An entry of a function that always gives something. -/
def mkT (hC : C.OK) {es : List (En C)} {ms : List (Me C)} {fuel : Fuel} (g : FuncId) (fn : Func) (ts : List AK) (τ : ETy) (l : List ETy) (W : AIs ts → ∀ {Ω : Type}, (Tup τ l → Option Ω) → Option Ω) (t : AIs ts → Tup τ l)
    (h : ∀ (x : AIs ts) (Ω : Type) (k : AV → Option Ω), evFn C (spE es ms) fuel fn (fn.body.getD .skip) (encA ts x) k = W x fun r => k (tupAV τ l r)) (hv : ∀ (x : AIs ts), W x some = some (t x)) (hf : C.P.funcs[g]? = some fn) (hb : bodyOK fn = true) : En C where
  g := g
  t := sigA ts
  e := fun vs k => (decA ts vs).bind fun x => k (tupAV τ l (t x))
  ok := by
    intro Ω vs k r hk
    obtain ⟨x, h1, h2⟩ := Option.bind_eq_some_iff.1 hk
    have hb2 : fn.body.isSome = true ∧ (fn.name == "runtime.NumGoroutine") = false := by simpa [bodyOK] using hb
    refine ⟨_, h2, ?_⟩
    rw [decA_eq h1]
    refine contract_u hC (spE_ok es ms) hf hb2.1 hb2.2 ((h x _ (dec τ l)).trans ?_)
    rw [dec_fun]; exact hv x
/-- What was known before. -/
def En.of {g : FuncId} {e : Ent} (h : EntOK C g (fun {_} => e)) : En C := ⟨g, fun _ => true, fun {_} => e, h⟩
def Me.of {g : FuncId} {fx : ∀ {Ω : Type}, List AV → Heap → (AV → Heap → Option Ω) → Option Ω} (h : FxOK C g (fun {_} => fx)) : Me C := ⟨g, fun _ _ => true, fun {_} => fx, h⟩
/-- Walked where it is called. -/
def Me.walk (hC : C.OK) (es : List (En C)) (ms : List (Me C)) (g : FuncId) (fn : Func) (hf : C.P.funcs[g]? = some fn) (hb : bodyOK fn = true) : Me C where
  g := g
  t := fun _ _ => true
  fx := fun vs L k => evInl C (spE es ms) ⟨1, fun _ => []⟩ fn (fn.body.getD .skip) vs L k
  ok := by
    intro Ω vs L k r hk
    have hb2 : fn.body.isSome = true ∧ (fn.name == "runtime.NumGoroutine") = false := by simpa [bodyOK] using hb
    obtain ⟨c, hc⟩ := Option.isSome_iff_exists.1 hb2.1
    rw [hc] at hk
    exact inl_does hC (spE_ok es ms) hf hc hb2.2 hk

/-! ### Methods -/
/-- Kinds of a caller's blocks. -/
inductive ST where
  | box (T : ETy) | row (t : TypeId) (e : ETy) (ro : Bool) | gone
@[reducible] def ST.I : ST → Type
  | .box T => T.I
  | .row _ e _ => List e.I
  | .gone => Unit
def ST.enc : (s : ST) → s.I → Slot
  | .box T, x => .box T x false
  | .row t e ro, xs => .row t e xs ro
  | .gone, _ => .gone
def decBox (T : ETy) : Slot → Option T.I
  | .box T' x ro => bif ro then none else castI T' T x
  | _ => none
def decRow (t : TypeId) (e : ETy) (ro : Bool) : Slot → Option (List e.I)
  | .row t' e' xs ro' => bif t' == t && ro' == ro then castI (.slice e') (.slice e) xs else none
  | _ => none
def decGone : Slot → Option Unit
  | .gone => some ()
  | _ => none
def ST.dec : (s : ST) → Slot → Option s.I
  | .box T => decBox T
  | .row t e ro => decRow t e ro
  | .gone => decGone
theorem ST.dec_eq : ∀ {s : ST} {q : Slot} {x : s.I}, s.dec q = some x → q = s.enc x
  | .box T, q, x, h => by
    match q, h with
    | .box T' y ro, h =>
      have h : (bif ro then none else castI T' T y) = some x := h
      match ro, h with
      | false, h =>
        obtain ⟨e1, e2⟩ := castI_eq (show castI T' T y = some x from h)
        subst e1; subst e2; rfl
  | .row t e ro, q, x, h => by
    match q, h with
    | .row t' e' ys ro', h =>
      obtain ⟨h1, h2⟩ := ite_get (show (bif t' == t && ro' == ro then castI (.slice e') (.slice e) ys else none) = some x from h)
      obtain ⟨e1, e2⟩ := castI_eq h2
      cases e1
      simp only [Bool.and_eq_true, beq_iff_eq] at h1
      have e3 : x = ys := e2
      rw [h1.1, h1.2, e3]; rfl
  | .gone, q, x, h => by
    match q, h with
    | .gone, _ => rfl
theorem ST.dec_enc : ∀ (s : ST) (x : s.I), s.dec (s.enc x) = some x
  | .box T, x => castI_self T x
  | .row t e ro, xs => by
    show (bif t == t && ro == ro then castI (.slice e) (.slice e) xs else none) = some xs
    rw [beq_self_eq_true, beq_self_eq_true]; exact castI_self (.slice e) xs
  | .gone, _ => rfl
@[reducible] def HI : List ST → Type
  | [] => Unit
  | s :: r => s.I × HI r
def encH : (hs : List ST) → HI hs → Heap
  | [], _ => []
  | s :: r, x => s.enc x.1 :: encH r x.2
def decH : (hs : List ST) → Heap → Option (HI hs)
  | [], [] => some ()
  | s :: r, q :: L => (s.dec q).bind fun x => (decH r L).bind fun y => some (x, y)
  | _, _ => none
theorem decH_eq : ∀ {hs : List ST} {L : Heap} {x : HI hs}, decH hs L = some x → L = encH hs x
  | [], [], x, h => rfl
  | [], _ :: _, x, h => by cases h
  | a :: r, [], x, h => by cases h
  | a :: r, q :: L, x, h => by
    simp only [decH] at h
    obtain ⟨y, h1, h2⟩ := Option.bind_eq_some_iff.1 h
    obtain ⟨z, h3, h4⟩ := Option.bind_eq_some_iff.1 h2
    cases h4
    rw [ST.dec_eq h1, decH_eq h3]; rfl
theorem decH_enc : ∀ (hs : List ST) (x : HI hs), decH hs (encH hs x) = some x
  | [], _ => rfl
  | s :: r, x => by simp only [encH, decH, ST.dec_enc, decH_enc r, Option.bind_some]
def isSome' {α : Type} : Option α → Bool
  | some _ => true
  | none => false

theorem CallDoes.cut {g : FuncId} {vs : List AV} {L : Heap} {av : AV} {L' : Heap} (h : CallDoes C g vs L av L') (hid : av.ids (fun _ id => decide (id < L.length)) = true) : CallDoes C g vs L av (cutL L.length L') where
  enters := h.enters
  keeps j hj := get_cut (h.keeps j hj) (List.getElem?_eq_some_iff.1 hj).1
  runs B m w S us hI hG hr := by
    refine (h.runs B m w S us hI hG hr).mono ?_
    rintro e w' ⟨u, m', S', he, hg, hrep⟩
    refine ⟨u, m', S', he, ⟨hg.inv.take _, hg.safe, hg.below, ⟨fun id s hs hrs => ?_⟩, hg.new⟩, RepA.take hid hrep⟩
    obtain ⟨s', q1, q2, q3, q4, q5⟩ := hg.ext.ext id s hs hrs
    exact ⟨_, get_cut q1 (List.getElem?_eq_some_iff.1 hs).1, fun e => q2 (keep_resv.1 e), fun T e => q3 T (by rw [← e, keep_bty]), fun o e => q4 o (keep_obj e), fun t e xs ro hX q => q5 t e xs ro hX (keep_row q)⟩

/-! ### Links to rows of the callee's own: at its end these rows are data -/
def okPb : (T : ETy) → List PStep → Bool
  | _, [] => true
  | .pair a _, .fld 0 :: p => okPb a p
  | .pair _ b, .fld (k + 1) :: p => okPb b (.fld k :: p)
  | .arr n e, .idx i :: p => decide (i < n) && okPb e p
  | _, _ => false
theorem okPb_ok : ∀ {T : ETy} {p : List PStep}, okPb T p = true → okP T p
  | T, [], _ => by cases T <;> simp [okP]
  | .pair a _, .fld 0 :: p, h => by
    simp only [okPb] at h
    simp only [okP]
    exact okPb_ok h
  | .pair _ b, .fld (k + 1) :: p, h => by
    simp only [okPb] at h
    simp only [okP]
    exact okPb_ok h
  | .arr n e, .idx i :: p, h => by
    simp only [okPb, Bool.and_eq_true, decide_eq_true_eq] at h
    simp only [okP]
    exact ⟨h.1, okPb_ok h.2⟩
  | .int _, .fld _ :: _, h | .int _, .idx _ :: _, h | .bool, .fld _ :: _, h | .bool, .idx _ :: _, h | .str, .fld _ :: _, h | .str, .idx _ :: _, h | .raw _, .fld _ :: _, h | .raw _, .idx _ :: _, h | .unit, .fld _ :: _, h | .unit, .idx _ :: _, h | .slice _, .fld _ :: _, h | .slice _, .idx _ :: _, h | .pair _ _, .idx _ :: _, h | .arr _ _, .fld _ :: _, h => by simp [okPb] at h
/-- The place of an offset. -/
def findP : (T : ETy) → Nat → List PStep
  | .pair a b, o => bif Nat.blt o a.size then .fld 0 :: findP a o else match findP b (o - a.size) with
    | .fld k :: p => .fld (k + 1) :: p
    | p => p
  | .arr _ e, o => .idx (o / e.size) :: findP e (o % e.size)
  | _, _ => []
def firstH (n : Nat) : List (Nat × Option Nat) → Option (Nat × Nat)
  | [] => none
  | (o, some r) :: l => bif Nat.ble n r then some (o, r) else firstH n l
  | _ :: l => firstH n l
def frz1 (n : Nat) (L : Heap) (i : Nat) : Heap :=
  match L[i]? with
  | some (.lbx T x hs) => match firstH n hs with
    | some (o, rid) => match L[rid]? with
      | some (.row _ e xs _) => bif okPb T (findP T o) && (off T (findP T o) == o && lk hs o == some (some rid)) then
          match setP T x (findP T o) ⟨.slice e, xs⟩ with
          | some x' => (mark1 L rid).set i (boxH T x' (outH hs o 1))
          | none => L
        else L
      | _ => L
    | none => L
  | _ => L
def frzN (n : Nat) (i : Nat) : Nat → Heap → Heap
  | 0, L => L
  | f + 1, L => frzN n i f (frz1 n L i)
def frzH (n : Nat) : Nat → Heap → Heap
  | 0, L => L
  | i + 1, L => frzH n i (frzN n i 6 L)

section
variable {B : Nat} {m : Nat → Value} {L : Heap} {w : World} {S : Nat → Nat → Prop}
theorem row_slice (hI : Inv B m L w S) {rid : Nat} {te : TypeId} {e : ETy} {xs : List e.I} {ro : Bool} (hR : L[rid]? = some (.row te e xs ro)) (hk : Kept m L S rid) : RepC w S (.slice e) xs [m rid] := by
  obtain ⟨cs, ho, hr⟩ := hI.row rid te e _ ro hR
  have hcl := RepL.length (fun x c h => RepC.length h) hr
  rcases ho.2 with ⟨hv, hn⟩ | ⟨g, cap, cur, hv, hg, hh, hle, _⟩
  · exact ⟨none, 0, by rw [hv, hn], by omega, .inl (List.eq_nil_of_length_eq_zero hn)⟩
  · refine ⟨some ⟨g, 0, none⟩, cap, by rw [hv], hle, .inr ⟨g, 0, cs, rfl, hr, fun j hj => ⟨?_, ?_⟩⟩⟩
    · exact row_cells ho hv j hj
    · exact hk _ g (0 + j) hR rfl (by rw [hv]; exact in_slc _ _ _ _) (by simp only [Slot.cells]; omega)
theorem frz1_goes (hI : Inv B m L w S) (n i : Nat) (X : Nat → Bool) : ∃ S', Goes B X m L w S m (frz1 n L i) w S' := by
  have stay : ∃ S', Goes B X m L w S m L w S' := ⟨S, ⟨hI, Safe.refl _ _, Below.refl _ _, Ext.refl X m L, fun _ _ h => .inl h⟩⟩
  unfold frz1
  split
  · rename_i T x hs hL
    split
    · rename_i o rid hf
      split
      · rename_i te e xs ro hR
        cases hc : (okPb T (findP T o) && (off T (findP T o) == o && lk hs o == some (some rid))) with
        | false => exact stay
        | true =>
          rw [cond_true]
          simp only [Bool.and_eq_true, beq_iff_eq] at hc
          obtain ⟨c1, c2, c3⟩ := hc
          split
          · rename_i x' hset
            obtain ⟨S1, g1, k1⟩ := mark1_goes hI rid X
            have hI1 := g1.inv
            have hL1 : (mark1 L rid)[i]? = some (.lbx T x hs) := mark1_lbx hL
            have hne : rid ≠ i := fun e => by subst e; rw [hL] at hR; cases hR
            have hR1 : (mark1 L rid)[rid]? = some (.row te e xs true) := by
              unfold mark1
              rw [hR]
              rw [get_set ⟨_, hR⟩, if_pos rfl]; rfl
            have hrow := row_slice hI1 hR1 k1
            obtain ⟨b, cs, ds, el, fr, hm, hB, hb, hfr, hr, hlen, hone, hn, hl⟩ := hI1.lbx i T x hs hL1
            obtain ⟨d, hd⟩ := getP_of_set hset
            obtain ⟨pre, mid, post, rfl, e2, e3, e4⟩ := getP_rep (okPb_ok c1) hr hd
            obtain ⟨f1, f2⟩ := e4 ⟨.slice e, xs⟩ x' [m rid] hrow hset
            have f1 : ETy.slice e = d.τ := f1
            have hmid : mid.length = 1 := by rw [e3.length, ← f1]; rfl
            have hlk : ∃ u, ds[o]? = some u ∧ LinkOK m (mark1 L rid) rid u := hl o rid c3
            have hdo : ds[o]? = some (m rid) := by
              obtain ⟨u, q1, s, q2, q3, q4⟩ := hlk
              rw [hR1] at q2; cases q2
              rw [q1, q4 te e xs true rfl]
            have ho : pre.length = o := by rw [e2, c2]
            have hs' : ∀ j, lk (outH hs o 1) j = none → ds[j]? = (pre ++ [m rid] ++ post)[j]? := by
              intro j hj
              rcases Nat.lt_trichotomy j o with h | h | h
              · rw [outH_lk (.inl h)] at hj
                have := hn j hj
                rw [this, List.append_assoc, List.getElem?_append_left (by omega), List.append_assoc, List.getElem?_append_left (by omega)]
              · subst h
                rw [hdo, List.append_assoc, List.getElem?_append_right (by omega), ho, Nat.sub_self]; rfl
              · rw [outH_lk (.inr (by omega))] at hj
                have := hn j hj
                rw [this, List.getElem?_append_right (by simp only [List.length_append]; omega), List.getElem?_append_right (by simp only [List.length_append, List.length_singleton]; omega)]
                simp only [List.length_append, List.length_singleton, hmid]
            have hok : LbxOK B m (mark1 L rid) (m i) w S1 T x' (outH hs o 1) := by
              refine ⟨b, pre ++ [m rid] ++ post, ds, el, fr, hm, hB, hb, hfr, f2, by simp only [List.length_append, List.length_singleton] at hlen ⊢; omega, hone, hs', fun j r hj => ?_⟩
              have hout : j < o ∨ o + 1 ≤ j := by
                rcases Nat.lt_or_ge j o with h | h
                · exact .inl h
                · rcases Nat.lt_or_ge j (o + 1) with h' | h'
                  · rw [outH_in h h'] at hj; cases hj
                  · exact .inr h'
              rw [outH_lk hout] at hj
              exact hl j r hj
            have g2 := Goes.relink (w' := w) hI1 hL1 hm (ds := ds) (el := el) (fr := fr) ⟨hb, fun _ _ => rfl, rfl, rfl, rfl, rfl⟩ hok X
            exact ⟨S1, Goes.boxH hL1 (g1.trans g2)⟩
          · exact stay
      · exact stay
    · exact stay
  · exact stay
theorem frzN_goes (n i : Nat) (X : Nat → Bool) : ∀ (f : Nat) {L : Heap} {S : Nat → Nat → Prop}, Inv B m L w S → ∃ S', Goes B X m L w S m (frzN n i f L) w S'
  | 0, L, S, hI => ⟨S, ⟨hI, Safe.refl _ _, Below.refl _ _, Ext.refl X m L, fun _ _ h => .inl h⟩⟩
  | f + 1, L, S, hI => by
    obtain ⟨S1, g1⟩ := frz1_goes hI n i X
    obtain ⟨S2, g2⟩ := frzN_goes n i X f g1.inv
    exact ⟨S2, g1.trans g2⟩
theorem frzH_goes (n : Nat) (X : Nat → Bool) : ∀ (i : Nat) {L : Heap} {S : Nat → Nat → Prop}, Inv B m L w S → ∃ S', Goes B X m L w S m (frzH n i L) w S'
  | 0, L, S, hI => ⟨S, ⟨hI, Safe.refl _ _, Below.refl _ _, Ext.refl X m L, fun _ _ h => .inl h⟩⟩
  | i + 1, L, S, hI => by
    obtain ⟨S1, g1⟩ := frzN_goes n i X 6 hI
    obtain ⟨S2, g2⟩ := frzH_goes n X i g1.inv
    exact ⟨S2, g1.trans g2⟩
end
theorem frz1_keeps {n i j : Nat} {L : Heap} (h : L[j]? = some .resv) : (frz1 n L i)[j]? = some .resv := by
  unfold frz1
  split
  · rename_i T x hs hL
    have hne : j ≠ i := fun e => by subst e; rw [h] at hL; cases hL
    split
    · split
      · rename_i o rid hf _ te e0 xs ro hR
        have hne2 : j ≠ rid := fun e => by rw [e] at h; rw [h] at hR; cases hR
        generalize (okPb T (findP T o) && (off T (findP T o) == o && lk hs o == some (some rid))) = c
        cases c with
        | false => exact h
        | true =>
          rw [cond_true]
          split
          · rw [List.getElem?_set_ne (Ne.symm hne)]
            exact mark1_keeps h
          · exact h
      · exact h
    · exact h
  · exact h
theorem frzN_keeps {n i j : Nat} : ∀ (f : Nat) {L : Heap}, L[j]? = some .resv → (frzN n i f L)[j]? = some .resv
  | 0, L, h => h
  | f + 1, L, h => frzN_keeps f (frz1_keeps h)
theorem frzH_keeps {n j : Nat} : ∀ (i : Nat) {L : Heap}, L[j]? = some .resv → (frzH n i L)[j]? = some .resv
  | 0, L, h => h
  | i + 1, L, h => frzH_keeps i (frzN_keeps 6 h)
theorem CallDoes.frz {g : FuncId} {vs : List AV} {L : Heap} {av : AV} {L' : Heap} (h : CallDoes C g vs L av L') (n i : Nat) : CallDoes C g vs L av (frzH n i L') where
  enters := h.enters
  keeps j hj := frzH_keeps i (h.keeps j hj)
  runs B m w S us hI hG hr := by
    refine (h.runs B m w S us hI hG hr).mono ?_
    rintro e w' ⟨u, m', S', he, hg, hrep⟩
    obtain ⟨S2, g2⟩ := frzH_goes n (fun _ => false) i hg.inv
    exact ⟨u, m', S2, he, hg.trans g2, goes_noX (fun _ => rfl) g2 hrep⟩

/-- A method's body, in the caller's blocks; what it made of its own is forgotten. -/
def cutK {Ω : Type} (n : Nat) (k : AV → Heap → Option Ω) : AV → Heap → Option Ω := fun av L' => bif av.ids (fun _ id => decide (id < n)) then k av (cutL n (frzH n n L')) else none
def evMeth {Ω : Type} (C : Cfg) (spec : Spec) (fuel : Fuel) (fn : Func) (vs : List AV) (L : Heap) (k : AV → Heap → Option Ω) : Option Ω :=
  evInl C spec fuel fn (fn.body.getD .skip) vs L (cutK L.length k)
/-- A method's results: data, or none. -/
inductive RT where
  | d (τ : ETy) (l : List ETy) | void
@[reducible] def RT.R : RT → Type
  | .d τ l => Tup τ l
  | .void => Unit
def RT.av : (r : RT) → r.R → AV
  | .d τ l, x => tupAV τ l x
  | .void, _ => .tup []
def RT.dec : (r : RT) → AV → Option r.R
  | .d τ l, a => K.dec τ l a
  | .void, .tup [] => some ()
  | .void, _ => none
theorem RT.dec_self : ∀ (r : RT) (x : r.R), r.dec (r.av x) = some x
  | .d τ l, x => K.dec_self τ l x
  | .void, _ => rfl
theorem RT.dec_eq : ∀ {r : RT} {a : AV} {x : r.R}, r.dec a = some x → a = r.av x
  | .d τ l, a, x, h => K.dec_eq (show K.dec τ l a = some x from h)
  | .void, a, x, h => by
    match a, h with
    | .tup [], _ => rfl
/-- An entry of a method. -/
def mkM (hC : C.OK) {es : List (En C)} {ms : List (Me C)} {fuel : Fuel} (g : FuncId) (fn : Func) (ts : List AK) (hs : List ST) (rt : RT) (W : AIs ts → HI hs → ∀ {Ω : Type}, (rt.R → HI hs → Option Ω) → Option Ω)
    (h : ∀ (x : AIs ts) (y : HI hs) (Ω : Type) (k : AV → Heap → Option Ω), Le (W x y fun r z => k (rt.av r) (encH hs z)) (evMeth C (spE es ms) fuel fn (encA ts x) (encH hs y) k)) (hf : C.P.funcs[g]? = some fn) (hb : bodyOK fn = true) : Me C where
  g := g
  t := fun vs L => sigA ts vs && isSome' (decH hs L)
  fx := fun vs L k => (decA ts vs).bind fun x => (decH hs L).bind fun y => (W x y fun r z => some (r, z)).bind fun q => k (rt.av q.1) (encH hs q.2)
  ok := by
    intro Ω vs L k r hk
    obtain ⟨x, h1, hk⟩ := Option.bind_eq_some_iff.1 hk
    obtain ⟨y, h2, hk⟩ := Option.bind_eq_some_iff.1 hk
    obtain ⟨q, h3, h4⟩ := Option.bind_eq_some_iff.1 hk
    have hb2 : fn.body.isSome = true ∧ (fn.name == "runtime.NumGoroutine") = false := by simpa [bodyOK] using hb
    obtain ⟨c, hc⟩ := Option.isSome_iff_exists.1 hb2.1
    have h5 := h x y _ (fun av L' => (rt.dec av).bind fun r => (decH hs L').bind fun z => some (r, z)) q (by
      have e : (fun (r : rt.R) (z : HI hs) => (rt.dec (rt.av r)).bind fun r => (decH hs (encH hs z)).bind fun z => some (r, z)) = fun r z => some (r, z) := by
        funext r z; rw [RT.dec_self, decH_enc]; rfl
      exact (congrArg (fun k => W x y k) e).trans h3)
    unfold evMeth at h5
    rw [hc] at h5
    obtain ⟨av, L', h6, h7⟩ := inl_does hC (spE_ok es ms) hf hc hb2.2 h5
    unfold cutK at h6
    obtain ⟨h8, h9⟩ := ite_get h6
    obtain ⟨r', h10, h11⟩ := Option.bind_eq_some_iff.1 h9
    obtain ⟨z', h12, h13⟩ := Option.bind_eq_some_iff.1 h11
    cases h13
    have := (h7.frz (encH hs y).length (encH hs y).length).cut h8
    rw [decA_eq h1, decH_eq h2]
    rw [RT.dec_eq h10, decH_eq h12] at this
    exact ⟨_, _, h4, this⟩
end
end Go.Proofs.YtmmooplcdkmapaaGreatDoor.K

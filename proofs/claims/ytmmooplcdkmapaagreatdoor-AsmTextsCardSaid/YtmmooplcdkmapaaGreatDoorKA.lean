/- Typed data for Go values: what a datum is, which cells of memory hold it, and its parts. Reading, writing and making memory of typed data, at the level of the world. Abstract values, the blocks of a call's own, and how a world holds them. Operations on values alone: what they give, and that the model's own give the same. Operations that only read: what they give, and that the model's own give the same. Operations that only read, continued: operators, parts, places, what lies at a place. -/
import Derived.WalkKit
import Derived.KernelRfl
import Derived.Deep.Draws
import Derived.Laws.IdiomCopy
import Derived.Orders
import Derived.OwnWalk
import Derived.ChangeKeysEq
import Derived.Laws.BytesArg
import Derived.Lib.Strings
set_option linter.unusedVariables false
set_option linter.unusedSimpArgs false
namespace Go.Proofs.YtmmooplcdkmapaaGreatDoor.K
open Go Go.RowKit

/-- Kinds of opaque values: an interface's, a function's, a pointer's. -/
inductive RK where
  | iface | func | ptr
  deriving DecidableEq
def RK.zero : RK → Value
  | .iface => .nilIface
  | .func => .nilFunc
  | .ptr => .pointer none
theorem RK.zero_one (k : RK) : k.zero.oneCell' = true := by cases k <;> rfl

/-- The types of data. -/
inductive ETy where
  | int (k : IntKind) | bool | str | raw (k : RK) | unit
  | pair (a b : ETy) | arr (n : Nat) (e : ETy) | slice (e : ETy)
  deriving DecidableEq

/-- What a datum of a type is. -/
@[reducible] def ETy.I : ETy → Type
  | .int _ => Int
  | .bool => Bool
  | .str => ByteArray
  | .raw _ => Value
  | .unit => Unit
  | .pair a b => a.I × b.I
  | .arr _ e => List e.I
  | .slice e => List e.I

/-- How many cells it takes. -/
def ETy.size : ETy → Nat
  | .int _ => 1
  | .bool => 1
  | .str => 1
  | .raw _ => 1
  | .unit => 0
  | .pair a b => a.size + b.size
  | .arr n e => n * e.size
  | .slice _ => 1

/-- Is its value an aggregate? -/
def ETy.agg : ETy → Bool
  | .unit => true
  | .pair _ _ => true
  | .arr _ _ => true
  | _ => false

/-- The zero datum. -/
def ETy.z : (τ : ETy) → τ.I
  | .int _ => (0 : Int)
  | .bool => false
  | .str => (⟨#[]⟩ : ByteArray)
  | .raw k => k.zero
  | .unit => ()
  | .pair a b => (a.z, b.z)
  | .arr n e => List.replicate n e.z
  | .slice _ => []

/-- A list of data laid one behind the other. -/
def RepL {α : Type} (R : α → List Value → Prop) : List α → List Value → Prop
  | [], cs => cs = []
  | x :: xs, cs => ∃ c d, cs = c ++ d ∧ R x c ∧ RepL R xs d

/-- The cells of a datum; what lies behind its slices is protected by 'S'. -/
def RepC (w : World) (S : Nat → Nat → Prop) : (τ : ETy) → τ.I → List Value → Prop
  | .int k, n, cs => cs = [.int k n]
  | .bool, b, cs => cs = [.bool b]
  | .str, s, cs => cs = [.string s]
  | .raw _, x, cs => cs = [x] ∧ x.oneCell' = true
  | .unit, _, cs => cs = []
  | .pair a b, x, cs => ∃ c d, cs = c ++ d ∧ RepC w S a x.1 c ∧ RepC w S b x.2 d
  | .arr n e, xs, cs => xs.length = n ∧ RepL (RepC w S e) xs cs
  | .slice e, xs, cs => ∃ A cap, cs = [.slice A xs.length cap] ∧ xs.length ≤ cap ∧ (xs = [] ∨ ∃ b o ds, A = some ⟨b, o, none⟩ ∧ RepL (RepC w S e) xs ds ∧ ∀ j (h : j < ds.length), w.cell? ⟨b, o + j, none⟩ = some ds[j] ∧ S b (o + j))

section
variable {w w' : World} {S S' : Nat → Nat → Prop}

theorem RepL.length {α : Type} {R : α → List Value → Prop} {s : Nat} (h : ∀ x c, R x c → c.length = s) : ∀ {xs : List α} {cs : List Value}, RepL R xs cs → cs.length = xs.length * s
  | [], cs, hr => by simp only [RepL] at hr; simp [hr]
  | x :: xs, cs, hr => by
    obtain ⟨c, d, rfl, h1, h2⟩ := hr
    have := RepL.length h h2
    simp [h _ _ h1, this, Nat.succ_mul, Nat.add_comm]

theorem RepC.length : ∀ {τ : ETy} {x : τ.I} {cs : List Value}, RepC w S τ x cs → cs.length = τ.size
  | .int k, x, cs, h => by simp only [RepC] at h; simp [h, ETy.size]
  | .bool, x, cs, h => by simp only [RepC] at h; simp [h, ETy.size]
  | .str, x, cs, h => by simp only [RepC] at h; simp [h, ETy.size]
  | .raw _, x, cs, h => by simp only [RepC] at h; simp [h.1, ETy.size]
  | .unit, x, cs, h => by simp only [RepC] at h; simp [h, ETy.size]
  | .pair a b, x, cs, h => by
    obtain ⟨c, d, rfl, h1, h2⟩ := h
    simp [RepC.length h1, RepC.length h2, ETy.size]
  | .arr n e, x, cs, h => by
    obtain ⟨h0, h1⟩ := h
    rw [RepL.length (fun x c h => RepC.length h) h1, h0]; rfl
  | .slice e, x, cs, h => by
    obtain ⟨A, cap, rfl, _⟩ := h
    rfl

theorem RepL.mono {α : Type} {R R' : α → List Value → Prop} (h : ∀ x c, R x c → R' x c) : ∀ {xs : List α} {cs : List Value}, RepL R xs cs → RepL R' xs cs
  | [], cs, hr => hr
  | x :: xs, cs, hr => by
    obtain ⟨c, d, rfl, h1, h2⟩ := hr
    exact ⟨c, d, rfl, h _ _ h1, RepL.mono h h2⟩

/-- The protected cells read as they did; what was protected is. -/
structure Safe (S S' : Nat → Nat → Prop) (w w' : World) : Prop where
  sub : ∀ b o, S b o → S' b o
  cell : ∀ b o, S b o → w'.cell? ⟨b, o, none⟩ = w.cell? ⟨b, o, none⟩

theorem Safe.refl (S : Nat → Nat → Prop) (w : World) : Safe S S w w := ⟨fun _ _ h => h, fun _ _ _ => rfl⟩
theorem Safe.trans {S1 S2 S3 : Nat → Nat → Prop} {w1 w2 w3 : World} (h : Safe S1 S2 w1 w2) (k : Safe S2 S3 w2 w3) : Safe S1 S3 w1 w3 :=
  ⟨fun b o hs => k.sub _ _ (h.sub _ _ hs), fun b o hs => (k.cell _ _ (h.sub _ _ hs)).trans (h.cell _ _ hs)⟩

theorem RepC.safe (hs : Safe S S' w w') : ∀ {τ : ETy} {x : τ.I} {cs : List Value}, RepC w S τ x cs → RepC w' S' τ x cs
  | .int k, x, cs, h => h
  | .bool, x, cs, h => h
  | .str, x, cs, h => h
  | .raw _, x, cs, h => h
  | .unit, x, cs, h => h
  | .pair a b, x, cs, h => by
    obtain ⟨c, d, rfl, h1, h2⟩ := h
    exact ⟨c, d, rfl, RepC.safe hs h1, RepC.safe hs h2⟩
  | .arr n e, x, cs, h => ⟨h.1, RepL.mono (fun x c h => RepC.safe hs h) h.2⟩
  | .slice e, x, cs, h => by
    obtain ⟨A, cap, rfl, hc, h⟩ := h
    refine ⟨A, cap, rfl, hc, h.imp id ?_⟩
    rintro ⟨b, o, ds, rfl, h1, h2⟩
    exact ⟨b, o, ds, rfl, RepL.mono (fun x c h => RepC.safe hs h) h1, fun j hj => ⟨(hs.cell _ _ (h2 j hj).2).trans (h2 j hj).1, hs.sub _ _ (h2 j hj).2⟩⟩

theorem RepL.one {α : Type} {R : α → List Value → Prop} (h : ∀ x c, R x c → ∀ u ∈ c, u.oneCell' = true) : ∀ {xs : List α} {cs : List Value}, RepL R xs cs → ∀ u ∈ cs, u.oneCell' = true
  | [], cs, hr, u, hu => by simp only [RepL] at hr; simp [hr] at hu
  | x :: xs, cs, hr, u, hu => by
    obtain ⟨c, d, rfl, h1, h2⟩ := hr
    rcases List.mem_append.1 hu with hu | hu
    · exact h _ _ h1 u hu
    · exact RepL.one h h2 u hu

theorem RepC.one : ∀ {τ : ETy} {x : τ.I} {cs : List Value}, RepC w S τ x cs → ∀ u ∈ cs, u.oneCell' = true
  | .int k, x, cs, h, u, hu => by simp only [RepC] at h; simp [h] at hu; subst hu; rfl
  | .bool, x, cs, h, u, hu => by simp only [RepC] at h; simp [h] at hu; subst hu; rfl
  | .str, x, cs, h, u, hu => by simp only [RepC] at h; simp [h] at hu; subst hu; rfl
  | .raw _, x, cs, h, u, hu => by simp only [RepC] at h; simp [h.1] at hu; subst hu; exact h.2
  | .unit, x, cs, h, u, hu => by simp only [RepC] at h; simp [h] at hu
  | .pair a b, x, cs, h, u, hu => by
    obtain ⟨c, d, rfl, h1, h2⟩ := h
    rcases List.mem_append.1 hu with hu | hu
    · exact RepC.one h1 u hu
    · exact RepC.one h2 u hu
  | .arr n e, x, cs, h, u, hu => RepL.one (fun x c h => RepC.one h) h.2 u hu
  | .slice e, x, cs, h, u, hu => by
    obtain ⟨A, cap, rfl, _⟩ := h
    simp at hu; subst hu; rfl

theorem RepL.append {α : Type} {R : α → List Value → Prop} : ∀ {xs ys : List α} {cs ds : List Value}, RepL R xs cs → RepL R ys ds → RepL R (xs ++ ys) (cs ++ ds)
  | [], ys, cs, ds, h, k => by simp only [RepL] at h; simpa [h] using k
  | x :: xs, ys, cs, ds, h, k => by
    obtain ⟨c, d, rfl, h1, h2⟩ := h
    exact ⟨c, d ++ ds, by simp, h1, RepL.append h2 k⟩

/-- A list of data, at one place: what stands there, and what may stand there. -/
theorem RepL.at_ {α : Type} {R : α → List Value → Prop} {s : Nat} (hl : ∀ x c, R x c → c.length = s) (z : α) : ∀ {xs : List α} {cs : List Value} (i : Nat), RepL R xs cs → i < xs.length →
    ∃ pre mid post, cs = pre ++ mid ++ post ∧ pre.length = i * s ∧ R (xs.getD i z) mid ∧ ∀ y m, R y m → RepL R (xs.set i y) (pre ++ m ++ post)
  | [], cs, i, h, hi => by simp at hi
  | x :: xs, cs, 0, h, hi => by
    obtain ⟨c, d, rfl, h1, h2⟩ := h
    exact ⟨[], c, d, by simp, by simp, by simpa using h1, fun y m hy => ⟨m, d, by simp, hy, h2⟩⟩
  | x :: xs, cs, i + 1, h, hi => by
    obtain ⟨c, d, rfl, h1, h2⟩ := h
    obtain ⟨pre, mid, post, rfl, e1, e2, e3⟩ := RepL.at_ hl z i h2 (by simpa using hi)
    refine ⟨c ++ pre, mid, post, by simp, by simp [hl _ _ h1, e1, Nat.succ_mul, Nat.add_comm], by simpa using e2, fun y m hy => ?_⟩
    exact ⟨c, pre ++ m ++ post, by simp, h1, e3 y m hy⟩

/-- The data from one place to another. -/
theorem RepL.take {α : Type} {R : α → List Value → Prop} {s : Nat} (hl : ∀ x c, R x c → c.length = s) : ∀ {xs : List α} {cs : List Value} (i : Nat), RepL R xs cs → RepL R (xs.take i) (cs.take (i * s)) ∧ RepL R (xs.drop i) (cs.drop (i * s))
  | xs, cs, 0, h => by simpa [RepL] using h
  | [], cs, i + 1, h => by simp only [RepL] at h; simp [h, RepL]
  | x :: xs, cs, i + 1, h => by
    obtain ⟨c, d, rfl, h1, h2⟩ := h
    have hc := hl _ _ h1
    obtain ⟨t1, t2⟩ := RepL.take hl i h2
    have e : (i + 1) * s = c.length + i * s := by rw [hc, Nat.succ_mul, Nat.add_comm]
    rw [e]
    refine ⟨⟨c, d.take (i * s), ?_, h1, t1⟩, ?_⟩
    · rw [List.take_append, List.take_of_length_le (by omega)]; simp
    · have e2 : (c ++ d).drop (c.length + i * s) = d.drop (i * s) := by simp [List.drop_append]
      rw [e2]; exact t2

/-! ### Places within a datum -/
inductive PStep where
  | fld (k : Nat) | idx (i : Nat)

def okP : (T : ETy) → List PStep → Prop
  | _, [] => True
  | .pair a _, .fld 0 :: p => okP a p
  | .pair _ b, .fld (k + 1) :: p => okP b (.fld k :: p)
  | .arr n e, .idx i :: p => i < n ∧ okP e p
  | _, _ => False

def off : (T : ETy) → List PStep → Nat
  | _, [] => 0
  | .pair a _, .fld 0 :: p => off a p
  | .pair a b, .fld (k + 1) :: p => a.size + off b (.fld k :: p)
  | .arr _ e, .idx i :: p => i * e.size + off e p
  | _, _ => 0

def tyP : (T : ETy) → List PStep → Option ETy
  | T, [] => some T
  | .pair a _, .fld 0 :: p => tyP a p
  | .pair _ b, .fld (k + 1) :: p => tyP b (.fld k :: p)
  | .arr _ e, .idx _ :: p => tyP e p
  | _, _ => none

/-- A datum and its type. -/
structure Dat where
  τ : ETy
  x : τ.I

def getP : (T : ETy) → T.I → List PStep → Option Dat
  | T, x, [] => some ⟨T, x⟩
  | .pair a _, x, .fld 0 :: p => getP a x.1 p
  | .pair _ b, x, .fld (k + 1) :: p => getP b x.2 (.fld k :: p)
  | .arr _ e, xs, .idx i :: p => getP e (List.getD xs i e.z) p
  | _, _, _ => none

def castI (τ T : ETy) (x : τ.I) : Option T.I := if h : τ = T then some (h ▸ x) else none

def setP : (T : ETy) → T.I → List PStep → Dat → Option T.I
  | T, _, [], d => castI d.τ T d.x
  | .pair a _, x, .fld 0 :: p, d => (setP a x.1 p d).map fun y => (y, x.2)
  | .pair _ b, x, .fld (k + 1) :: p, d => (setP b x.2 (.fld k :: p) d).map fun y => (x.1, y)
  | .arr _ e, xs, .idx i :: p, d => (setP e (List.getD xs i e.z) p d).map fun y => List.set xs i y
  | _, _, _, _ => none

theorem castI_eq {τ T : ETy} {x : τ.I} {y : T.I} (h : castI τ T x = some y) : ∃ e : τ = T, y = e ▸ x := by
  unfold castI at h
  split at h
  · rename_i e; exact ⟨e, by simpa using h.symm⟩
  · simp at h

theorem getP_rep : ∀ {T : ETy} {x : T.I} {p : List PStep} {cs : List Value} {d : Dat}, okP T p → RepC w S T x cs → getP T x p = some d →
    ∃ pre mid post, cs = pre ++ mid ++ post ∧ pre.length = off T p ∧ RepC w S d.τ d.x mid ∧
      ∀ (e : Dat) (y : T.I) (m : List Value), RepC w S e.τ e.x m → setP T x p e = some y → e.τ = d.τ ∧ RepC w S T y (pre ++ m ++ post)
  | T, x, [], cs, d, hp, hr, hg => by
    simp only [getP, Option.some.injEq] at hg
    subst hg
    refine ⟨[], cs, [], by simp, by simp [off], hr, fun e y m he hs => ?_⟩
    simp only [setP] at hs
    obtain ⟨h, rfl⟩ := castI_eq hs
    refine ⟨h, ?_⟩
    cases e with | mk τ x => cases h; simpa using he
  | .pair a b, x, .fld 0 :: p, cs, d, hp, hr, hg => by
    obtain ⟨c1, c2, rfl, h1, h2⟩ := hr
    simp only [okP] at hp
    simp only [getP] at hg
    obtain ⟨pre, mid, post, rfl, e1, e2, e3⟩ := getP_rep hp h1 hg
    refine ⟨pre, mid, post ++ c2, by simp, by simp [off, e1], e2, fun e y m he hs => ?_⟩
    simp only [setP, Option.map_eq_some_iff] at hs
    obtain ⟨y', hy, rfl⟩ := hs
    obtain ⟨q1, q2⟩ := e3 e y' m he hy
    exact ⟨q1, _, c2, by simp, q2, h2⟩
  | .pair a b, x, .fld (k + 1) :: p, cs, d, hp, hr, hg => by
    obtain ⟨c1, c2, rfl, h1, h2⟩ := hr
    simp only [okP] at hp
    simp only [getP] at hg
    obtain ⟨pre, mid, post, rfl, e1, e2, e3⟩ := getP_rep hp h2 hg
    refine ⟨c1 ++ pre, mid, post, by simp, by simp [off, e1, RepC.length h1], e2, fun e y m he hs => ?_⟩
    simp only [setP, Option.map_eq_some_iff] at hs
    obtain ⟨y', hy, rfl⟩ := hs
    obtain ⟨q1, q2⟩ := e3 e y' m he hy
    exact ⟨q1, c1, _, by simp, h1, q2⟩
  | .arr n e, xs, .idx i :: p, cs, d, hp, hr, hg => by
    obtain ⟨h0, h1⟩ := hr
    simp only [okP] at hp
    simp only [getP] at hg
    obtain ⟨pre, mid, post, rfl, e1, e2, e3⟩ := RepL.at_ (s := e.size) (fun x c h => RepC.length h) e.z i h1 (by rw [h0]; exact hp.1)
    obtain ⟨pre', mid', post', rfl, f1, f2, f3⟩ := getP_rep hp.2 e2 hg
    refine ⟨pre ++ pre', mid', post' ++ post, by simp, by simp [off, e1, f1], f2, fun e' y m he hs => ?_⟩
    simp only [setP, Option.map_eq_some_iff] at hs
    obtain ⟨y', hy, rfl⟩ := hs
    obtain ⟨q1, q2⟩ := f3 e' y' m he hy
    refine ⟨q1, by simp [h0], ?_⟩
    have := e3 y' _ q2
    simpa using this
  | .int _, _, .fld _ :: _, _, _, hp, _, _ | .int _, _, .idx _ :: _, _, _, hp, _, _ | .bool, _, .fld _ :: _, _, _, hp, _, _ | .bool, _, .idx _ :: _, _, _, hp, _, _
  | .str, _, .fld _ :: _, _, _, hp, _, _ | .str, _, .idx _ :: _, _, _, hp, _, _ | .raw _, _, .fld _ :: _, _, _, hp, _, _ | .raw _, _, .idx _ :: _, _, _, hp, _, _
  | .unit, _, .fld _ :: _, _, _, hp, _, _ | .unit, _, .idx _ :: _, _, _, hp, _, _ | .slice _, _, .fld _ :: _, _, _, hp, _, _ | .slice _, _, .idx _ :: _, _, _, hp, _, _
  | .pair _ _, _, .idx _ :: _, _, _, hp, _, _ | .arr _ _, _, .fld _ :: _, _, _, hp, _, _ => by simp [okP] at hp
end
end Go.Proofs.YtmmooplcdkmapaaGreatDoor.K

set_option linter.unusedVariables false
set_option linter.unusedSimpArgs false
namespace Go.Proofs.YtmmooplcdkmapaaGreatDoor.K
open Go Go.RowKit

/-- The cells of the zero datum. -/
def zc : ETy → List Value
  | .int k => [.int k 0]
  | .bool => [.bool false]
  | .str => [.string ⟨#[]⟩]
  | .raw k => [k.zero]
  | .unit => []
  | .pair a b => zc a ++ zc b
  | .arr n e => (List.replicate n (zc e)).flatten
  | .slice _ => [.slice none 0 0]

def valOf (τ : ETy) (cs : List Value) : Value := if τ.agg then .agg cs.toArray else cs.headD undef

/-- A value that is a datum. -/
def RepV (w : World) (S : Nat → Nat → Prop) (τ : ETy) (x : τ.I) (v : Value) : Prop := ∃ cs, RepC w S τ x cs ∧ v = valOf τ cs

def aggD : TypeDesc → Bool
  | .struct _ | .array _ _ => true
  | _ => false

def fieldsOK (P : Program) (τ : ETy) : Nat → List Field → Bool
  | i, [] => (tyP τ [.fld i]).isNone
  | i, f :: fs => (match tyP τ [.fld i] with
      | some σ => f.offset == off τ [.fld i] && (P.info? f.type).map (·.size) == some σ.size && (P.underlying f.type).map aggD == some σ.agg
      | none => false) && fieldsOK P τ (i + 1) fs

def ETy.str? : ETy → Bool
  | .pair _ _ => true
  | .unit => true
  | _ => false

@[simp] theorem str_slice (e : ETy) : (ETy.slice e).str? = false := rfl
@[simp] theorem str_arr (n : Nat) (e : ETy) : (ETy.arr n e).str? = false := rfl
@[simp] theorem str_int (k : IntKind) : (ETy.int k).str? = false := rfl
@[simp] theorem str_str : (ETy.str).str? = false := rfl
@[simp] theorem str_bool : (ETy.bool).str? = false := rfl
@[simp] theorem str_raw (k : RK) : (ETy.raw k).str? = false := rfl

/-- What a type's row says fits the type of data. -/
def descOK (P : Program) (τ : ETy) : TypeDesc → Bool
  | .struct fs => τ.str? && fieldsOK P τ 0 fs.toList
  | .array n e => match τ with | .arr m σ => m == n && (P.info? e).map (·.size) == some σ.size && (P.underlying e).map aggD == some σ.agg | _ => false
  | .slice e => match τ with | .slice σ => (P.info? e).map (·.size) == some σ.size && (P.underlying e).map aggD == some σ.agg && (match (P.info? e).map (·.bytes) with | some b => decide (b ≤ 65536) | none => false) | _ => false
  | .int k => decide (τ = .int k)
  | .bool => decide (τ = .bool)
  | .string => decide (τ = .str)
  | .interface _ => decide (τ = .raw .iface)
  | .func .. => decide (τ = .raw .func)
  | .pointer _ => decide (τ = .raw .ptr)
  | _ => false

structure GoodTy (P : Program) (t : TypeId) (τ : ETy) : Prop where
  info : (P.info? t).map (fun i => (i.size, i.zero)) = some (τ.size, some (valOf τ (zc τ)))
  desc : (P.underlying t).map (fun d => (aggD d, descOK P τ d)) = some (τ.agg, true)

section
variable {P : Program} {w w' : World} {S S' : Nat → Nat → Prop} {t : TypeId} {τ : ETy}

theorem RepL.replicate {α : Type} {R : α → List Value → Prop} {x : α} {c : List Value} (h : R x c) : ∀ n, RepL R (List.replicate n x) (List.replicate n c).flatten
  | 0 => rfl
  | n + 1 => ⟨c, _, by simp [List.replicate_succ], h, RepL.replicate h n⟩

theorem repC_zero : ∀ τ : ETy, RepC w S τ τ.z (zc τ)
  | .int _ => rfl
  | .bool => rfl
  | .str => rfl
  | .raw k => ⟨rfl, k.zero_one⟩
  | .unit => rfl
  | .pair a b => ⟨_, _, rfl, repC_zero a, repC_zero b⟩
  | .arr n e => ⟨by simp [ETy.z], RepL.replicate (repC_zero e) n⟩
  | .slice _ => ⟨none, 0, rfl, Nat.le_refl _, .inl rfl⟩

theorem cells_of_one {u : Value} (h : u.oneCell' = true) : u.cells = #[u] := by
  cases u <;> first | rfl | (simp [Value.oneCell'] at h)

theorem cells_valOf {x : τ.I} {cs : List Value} (h : RepC w S τ x cs) : (valOf τ cs).cells = cs.toArray := by
  unfold valOf
  split
  · rfl
  · rename_i ha
    have hl := h.length
    have h1 := h.one
    cases τ <;> simp [ETy.agg] at ha <;> (simp only [ETy.size] at hl; obtain ⟨c, rfl⟩ := List.length_eq_one_iff.1 hl; simpa using cells_of_one (h1 c (by simp)))

theorem GoodTy.size (h : GoodTy P t τ) : ∃ i, P.info? t = some i ∧ i.size = τ.size ∧ i.zero = some (valOf τ (zc τ)) := by
  have := h.info
  cases hi : P.info? t with
  | none => simp [hi] at this
  | some i => simp [hi] at this; exact ⟨i, rfl, this.1, this.2⟩

theorem GoodTy.und (h : GoodTy P t τ) : ∃ d, P.underlying t = some d ∧ aggD d = τ.agg ∧ descOK P τ d = true := by
  have := h.desc
  cases hi : P.underlying t with
  | none => simp [hi] at this
  | some d => simp [hi] at this; exact ⟨d, rfl, this.1, this.2⟩

theorem run_sizeOf' (h : GoodTy P t τ) (w : World) : (sizeOf t).run P w = .ok τ.size w := by
  obtain ⟨i, hi, hs, _⟩ := h.size
  rw [run_sizeOf w hi]
  simp [Program.cellsOf, hi, hs]

theorem run_isAgg' (h : GoodTy P t τ) (w : World) : (isAgg t).run P w = .ok τ.agg w := by
  obtain ⟨d, hd, ha, _⟩ := h.und
  simp only [isAgg, Sem.run_bind, run_underlying hd, Result.andThen_ok]
  cases d <;> simp [aggD] at ha <;> simp [← ha, Sem.run_pure]

theorem run_zeroValue' (h : GoodTy P t τ) (w : World) : (zeroValue t).run P w = .ok (valOf τ (zc τ)) w := by
  obtain ⟨i, hi, _, hz⟩ := h.size
  simp only [zeroValue, Sem.run_bind, run_typeInfo w hi, Result.andThen_ok, hz]
  rfl

theorem add_at (b o j : Nat) : (⟨b, o, none⟩ : Addr).add j = ⟨b, o + j, none⟩ := by unfold Addr.add; split <;> simp_all

/-- Cells in a row. -/
def CellsAt (w : World) (b o : Nat) (cs : List Value) : Prop := ∀ j (h : j < cs.length), w.cell? ⟨b, o + j, none⟩ = some cs[j]

theorem run_load_at {a : Addr} {v : Value} (h : w.cell? a = some v) : (load a).run P w = .ok v w := by
  simp [load, Sem.run, h]

theorem run_loadCellsFrom (b o : Nat) : ∀ (cs : List Value) (i : Nat) (acc : Array Value), (∀ j (h : j < cs.length), w.cell? ⟨b, o + i + j, none⟩ = some cs[j]) →
    (loadCellsFrom ⟨b, o, none⟩ i cs.length acc).run P w = .ok (acc ++ cs.toArray) w
  | [], i, acc, h => by simp [loadCellsFrom, Sem.run_pure]
  | c :: cs, i, acc, h => by
    have h0 := h 0 (by simp)
    simp only [List.length_cons, loadCellsFrom, Sem.run_bind, add_at]
    rw [run_load_at (by simpa using h0), Result.andThen_ok]
    rw [run_loadCellsFrom b o cs (i + 1) (acc.push c) (fun j hj => by
      have := h (j + 1) (by simpa using hj)
      rw [show o + (i + 1) + j = o + i + (j + 1) by omega]; simpa using this)]
    simp

theorem run_loadVar' (h : GoodTy P t τ) {b o : Nat} {cs : List Value} (hl : cs.length = τ.size) (hc : CellsAt w b o cs) : (loadVar t ⟨b, o, none⟩).run P w = .ok (valOf τ cs) w := by
  simp only [loadVar, Sem.run_bind, run_isAgg' h, Result.andThen_ok]
  unfold valOf
  cases ha : τ.agg with
  | true =>
    simp only [if_true, Sem.run_bind, run_sizeOf' h, Result.andThen_ok, loadCells]
    rw [← hl, run_loadCellsFrom b o cs 0 #[] (fun j hj => by simpa using hc j hj)]
    simp [Sem.run_pure]
  | false =>
    have h1 : cs.length = 1 := by cases τ <;> simp [ETy.agg] at ha <;> simpa [ETy.size] using hl
    obtain ⟨c, rfl⟩ := List.length_eq_one_iff.1 h1
    simp only [Bool.false_eq_true, if_false]
    rw [run_load_at (by simpa using hc 0 (by simp))]
    rfl

/-- What a write into one block leaves. -/
structure Wrote (b : Nat) (cs' : List Value) (elem : TypeId) (fr : Nat × Nat) (w w' : World) : Prop where
  here : w'.heap[b]? = some (.cells cs'.toArray elem fr)
  there : ∀ k, k ≠ b → w'.heap[k]? = w.heap[k]?
  size : w'.heap.size = w.heap.size
  os : w'.os = w.os
  tape : w'.tape = w.tape
  output : w'.output = w.output

theorem cell_of_block {b : Nat} {cs : Array Value} {elem : TypeId} {fr : Nat × Nat} (h : w.heap[b]? = some (.cells cs elem fr)) (o : Nat) : w.cell? ⟨b, o, none⟩ = cs[o]? := by
  simp [World.cell?, h]

theorem frozen_of_block {b : Nat} {cs : Array Value} {elem : TypeId} {fr : Nat × Nat} (h : w.heap[b]? = some (.cells cs elem fr)) (o : Nat) : w.frozen? ⟨b, o, none⟩ = (decide (fr.1 ≤ o) && decide (o < fr.2)) := by
  simp [World.frozen?, h]

theorem heap_setCells_ne (b : Nat) : ∀ (vs : List Value) (o : Nat) (w : World) (k : Nat), k ≠ b → (w.setCells b o vs).heap[k]? = w.heap[k]?
  | [], _, _, _, _ => rfl
  | v :: r, o, w, k, h => by
    rw [World.setCells, heap_setCells_ne b r _ _ k h]
    exact Below.heap_setCell _ _ _ _ h

theorem setCells_same (b : Nat) : ∀ (vs : List Value) (o : Nat) (w : World), (w.setCells b o vs).heap.size = w.heap.size ∧ (w.setCells b o vs).os = w.os ∧ (w.setCells b o vs).tape = w.tape ∧ (w.setCells b o vs).output = w.output
  | [], _, _ => ⟨rfl, rfl, rfl, rfl⟩
  | v :: r, o, w => by
    obtain ⟨h1, h2, h3, h4⟩ := setCells_same b r (o + 1) (w.setCell ⟨b, o, none⟩ v)
    exact ⟨by rw [World.setCells, h1, World.size_setCell], h2, h3, h4⟩

theorem heap_setCells_at (b : Nat) : ∀ (vs : List Value) (o : Nat) (w : World) (pre mid post : List Value) (elem : TypeId) (fr : Nat × Nat), w.heap[b]? = some (.cells (pre ++ mid ++ post).toArray elem fr) → pre.length = o → mid.length = vs.length →
    (w.setCells b o vs).heap[b]? = some (.cells (pre ++ vs ++ post).toArray elem fr)
  | [], o, w, pre, mid, post, elem, fr, h, h1, h2 => by
    obtain rfl : mid = [] := List.length_eq_zero_iff.1 (by simpa using h2)
    simpa [World.setCells] using h
  | v :: r, o, w, pre, m :: mid, post, elem, fr, h, h1, h2 => by
    rw [World.setCells]
    have hb : (w.setCell ⟨b, o, none⟩ v).heap[b]? = some (.cells ((pre ++ [v]) ++ mid ++ post).toArray elem fr) := by
      simp only [World.setCell, Array.getElem?_modify, if_true, h, Option.map_some, Option.isSome_none, Bool.false_eq_true, if_false]
      congr 2
      subst h1
      simp
    have := heap_setCells_at b r (o + 1) _ (pre ++ [v]) mid post elem fr hb (by simp [h1]) (by simpa using h2)
    simpa using this
  | v :: r, o, w, pre, [], post, elem, fr, h, h1, h2 => by simp at h2

theorem run_storeVar' (h : GoodTy P t τ) {b : Nat} {pre mid post : List Value} {elem : TypeId} {fr : Nat × Nat} (hb : w.heap[b]? = some (.cells (pre ++ mid ++ post).toArray elem fr))
    (hfr : ∀ o, o < (pre ++ mid ++ post).length → ¬ (fr.1 ≤ o ∧ o < fr.2)) {x : τ.I} {m : List Value} (hm : RepC w' S τ x m) (hl : mid.length = τ.size) :
    ∃ w2, (storeVar t ⟨b, pre.length, none⟩ (valOf τ m)).run P w = .ok () w2 ∧ Wrote b (pre ++ m ++ post) elem fr w w2 := by
  have hml := hm.length
  have hcell : ∀ j, j < m.length → (w.cell? ⟨b, pre.length + 0 + j, none⟩).isSome = true := by
    intro j hj
    rw [cell_of_block hb]
    simp
    omega
  have hun : ∀ j, j < m.length → w.frozen? ⟨b, pre.length + 0 + j, none⟩ = false := by
    intro j hj
    rw [frozen_of_block hb]
    have := hfr (pre.length + 0 + j) (by simp; omega)
    simp only [Bool.and_eq_false_iff, decide_eq_false_iff_not]
    omega
  refine ⟨w.setCells b (pre.length + 0) m, ?_, ?_⟩
  · simp only [storeVar, Sem.run_bind, run_sizeOf' h, Result.andThen_ok, cells_valOf hm]
    simp only [List.size_toArray, hml, ne_eq, not_true_eq_false, if_false, Sem.run_pure, Result.andThen_ok]
    exact run_storeCells_cells b pre.length m 0 w hcell hun (fun u hu => hm.one u hu)
  · obtain ⟨s1, s2, s3, s4⟩ := setCells_same b m (pre.length + 0) w
    exact ⟨heap_setCells_at b m _ w pre mid post elem fr hb rfl (by omega), fun k hk => heap_setCells_ne b m _ w k hk, s1, s2, s3, s4⟩
end
end Go.Proofs.YtmmooplcdkmapaaGreatDoor.K

set_option linter.unusedVariables false
set_option linter.unusedSimpArgs false
namespace Go.Proofs.YtmmooplcdkmapaaGreatDoor.K
open Go Go.RowKit

/-- Abstract values. -/
inductive AV where
  | v (τ : ETy) (x : τ.I)
  | cst (c : Value)
  | vp (T : ETy) (x : T.I) (p : List PStep)
  | ref (id : Nat) (p : List PStep)
  | rref (id i : Nat) (p : List PStep)
  | ls (id : Nat) (p : List PStep) (lo n : Nat)
  | rs (id : Nat)
  | lr (id lo n : Nat)
  | fn (f : FuncId) (caps : List AV)
  | bm (f : FuncId) (first : List AV)
  | tup (l : List AV)
  | bt (T : ETy) (x : T.I) (hs : List (Nat × Option Nat))
  | dead

/-- Objects of the library's: a strings.Builder (its type, the type of its row's elements, what was written). -/
inductive Obj' where
  | bld (T te : TypeId) (s : ByteArray)

/-- A block of the call's own. -/
inductive Slot where
  | box (T : ETy) (x : T.I) (ro : Bool)
  | row (t : TypeId) (e : ETy) (xs : List e.I) (ro : Bool)
  | obj (o : Obj')
  | lbx (T : ETy) (x : T.I) (hs : List (Nat × Option Nat))
  | gone
  | resv

abbrev Heap := List Slot

def Slot.live : Slot → Bool
  | .box .. => true
  | .row .. => true
  | .obj _ => true
  | .lbx .. => true
  | _ => false
/-- The type of a box (with links, too). -/
def Slot.bty : Slot → Option ETy
  | .box T _ _ => some T
  | .lbx T _ _ => some T
  | _ => none

def Slot.ro : Slot → Bool
  | .box _ _ r => r
  | .row _ _ _ r => r
  | _ => false

/-- How many cells of it may be read. -/
def Slot.cells : Slot → Nat
  | .box T _ _ => T.size
  | .row _ e xs _ => xs.length * e.size
  | _ => 0

def blk : Value → Option Nat
  | .pointer (some a) => some a.block
  | .slice (some a) _ _ => some a.block
  | _ => none
/-- The blocks of a value, or of the two values of an object. -/
def blks : Value → List Nat
  | .tuple xs => xs.toList.filterMap blk
  | v => (blk v).toList
theorem blks_pointer (p : Option Addr) : blks (.pointer p) = (blk (.pointer p)).toList := rfl
theorem blks_slice (a : Option Addr) (n c : Nat) : blks (.slice a n c) = (blk (.slice a n c)).toList := rfl
theorem blks_pair (x y : Value) : blks (.tuple #[x, y]) = (blk x).toList ++ (blk y).toList := by
  simp only [blks, List.filterMap_cons, List.filterMap_nil]
  cases blk x <;> cases blk y <;> rfl
theorem in_ptr (b o : Nat) : b ∈ blks (.pointer (some ⟨b, o, none⟩)) := by simp [blks, blk]
theorem in_slc (b o n c : Nat) : b ∈ blks (.slice (some ⟨b, o, none⟩) n c) := by simp [blks, blk]
/-- A value that is no tuple. -/
def single : Value → Bool
  | .tuple _ => false
  | _ => true
theorem mem_blks {v : Value} (hv : single v = true) (b : Nat) : b ∈ blks v ↔ blk v = some b := by
  cases v <;> first | (cases hv; done) | (simp only [blks, Option.mem_toList, Option.mem_def])

theorem in_blk {v : Value} {b : Nat} (h : blk v = some b) : b ∈ blks v := by
  cases v <;> first | (simp [blk] at h; done) | (simp only [blks, h]; simp)
theorem blk_in {v : Value} {b : Nat} (hv : single v = true) (h : b ∈ blks v) : blk v = some b := (mem_blks hv b).1 h

/-- The cells of a string's bytes. -/
def byteCells (s : ByteArray) : List Value := s.data.toList.map fun b => .int .u8 (b.toNat : Int)

/-- The world holds an object. -/
def ObjOK (B : Nat) (v : Value) (w : World) : Obj' → Prop
  | .bld T te s => ∃ b sv p, v = .tuple #[.pointer (some ⟨b, 0, none⟩), sv] ∧ B ≤ b ∧ (p = .pointer none ∨ p = .pointer (some ⟨b, 0, none⟩)) ∧ w.heap[b]? = some (.cells #[p, sv] T (0, 0)) ∧ w.ownsRow B te 1 sv s.size (byteCells s) ∧ blk sv ≠ some b

/-- Which row a place of a box is linked to: none that is told (it holds what the box's data say); a row, or one that is gone. -/
def lk : List (Nat × Option Nat) → Nat → Option (Option Nat)
  | [], _ => none
  | (a, r) :: l, o => bif a == o then some r else lk l o
/-- A value is a row's, if that is still one. -/
def LinkOK (m : Nat → Value) (L : Heap) (rid : Nat) (u : Value) : Prop :=
  ∃ s, L[rid]? = some s ∧ s ≠ .resv ∧ ∀ (t : TypeId) (e : ETy) (xs : List e.I) (ro : Bool), s = .row t e xs ro → u = m rid
/-- The world holds a box with links. -/
def LbxOK (B : Nat) (m : Nat → Value) (L : Heap) (v : Value) (w : World) (S : Nat → Nat → Prop) (T : ETy) (x : T.I) (hs : List (Nat × Option Nat)) : Prop :=
  ∃ (b : Nat) (cs ds : List Value) (el : TypeId) (fr : Nat × Nat), v = .pointer (some ⟨b, 0, none⟩) ∧ B ≤ b ∧ w.heap[b]? = some (.cells ds.toArray el fr) ∧ (∀ o, o < ds.length → ¬ (fr.1 ≤ o ∧ o < fr.2)) ∧ RepC w S T x cs ∧ ds.length = cs.length ∧ (∀ u ∈ ds, u.oneCell' = true) ∧
    (∀ o, lk hs o = none → ds[o]? = cs[o]?) ∧ (∀ o rid, lk hs o = some (some rid) → ∃ u, ds[o]? = some u ∧ LinkOK m L rid u)

/-- The world holds the blocks. -/
structure Inv (B : Nat) (m : Nat → Value) (L : Heap) (w : World) (S : Nat → Nat → Prop) : Prop where
  base : B ≤ w.heap.size
  box : ∀ (id : Nat) (T : ETy) (x : T.I) (ro : Bool), L[id]? = some (.box T x ro) → ∃ b cs el fr, m id = .pointer (some ⟨b, 0, none⟩) ∧ B ≤ b ∧ w.heap[b]? = some (.cells cs.toArray el fr) ∧ (∀ o, o < cs.length → ¬ (fr.1 ≤ o ∧ o < fr.2)) ∧ RepC w S T x cs
  row : ∀ (id : Nat) (t : TypeId) (e : ETy) (xs : List e.I) (ro : Bool), L[id]? = some (.row t e xs ro) → ∃ cs, w.ownsRow B t e.size (m id) xs.length cs ∧ RepL (RepC w S e) xs cs
  obj : ∀ (id : Nat) (o : Obj'), L[id]? = some (.obj o) → ObjOK B (m id) w o
  lbx : ∀ (id : Nat) (T : ETy) (x : T.I) (hs : List (Nat × Option Nat)), L[id]? = some (.lbx T x hs) → LbxOK B m L (m id) w S T x hs
  apart : ∀ (i j : Nat) (s r : Slot), i ≠ j → L[i]? = some s → L[j]? = some r → s.live = true → r.live = true → ∀ b, b ∈ blks (m i) → b ∈ blks (m j) → False
  prot : ∀ b o, S b o → b < w.heap.size ∧ ∀ (i : Nat) (s : Slot), L[i]? = some s → s.live = true → b ∈ blks (m i) → s.ro = true ∧ o < s.cells

mutual
/-- A value is as an abstract value says. -/
def RepA (m : Nat → Value) (L : Heap) (w : World) (S : Nat → Nat → Prop) : AV → Value → Prop
  | .v τ x, u => RepV w S τ x u
  | .cst c, u => u = c
  | .vp T x p, u => okP T p ∧ ∃ b o cs, u = .pointer (some ⟨b, o + off T p, none⟩) ∧ RepC w S T x cs ∧ (∀ j (h : j < cs.length), w.cell? ⟨b, o + j, none⟩ = some cs[j] ∧ S b (o + j))
  | .ref id p, u => ∃ s, L[id]? = some s ∧ s ≠ .resv ∧ (∀ (T : ETy), s.bty = some T → okP T p ∧ ∃ b, m id = .pointer (some ⟨b, 0, none⟩) ∧ u = .pointer (some ⟨b, off T p, none⟩)) ∧ (∀ o, s = .obj o → p = [] ∧ ∃ sv, m id = .tuple #[u, sv])
  | .rref id i p, u => ∃ s, L[id]? = some s ∧ s ≠ .resv ∧ ∀ (t : TypeId) (e : ETy) (xs : List e.I) (ro : Bool), s = .row t e xs ro → i < xs.length ∧ okP e p ∧ ∃ b n c, m id = .slice (some ⟨b, 0, none⟩) n c ∧ u = .pointer (some ⟨b, i * e.size + off e p, none⟩)
  | .ls id p lo n, u => ∃ s, L[id]? = some s ∧ s ≠ .resv ∧ ∀ (T : ETy), s.bty = some T → ∀ (N : Nat) (e : ETy), tyP T p = some (.arr N e) → okP T p ∧ lo + n ≤ N ∧ ∃ b A c, n ≤ c ∧ m id = .pointer (some ⟨b, 0, none⟩) ∧ u = .slice A n c ∧ (n = 0 ∨ A = some ⟨b, off T p + lo * e.size, none⟩)
  | .rs id, u => ∃ s, L[id]? = some s ∧ s ≠ .resv ∧ ∀ (t : TypeId) (e : ETy) (xs : List e.I) (ro : Bool), s = .row t e xs ro → u = m id
  | .lr id lo n, u => ∃ s, L[id]? = some s ∧ s ≠ .resv ∧ ∀ (t : TypeId) (e : ETy) (xs : List e.I) (ro : Bool), s = .row t e xs ro → lo + n ≤ xs.length ∧ ∃ A c, n ≤ c ∧ u = .slice A n c ∧ (n = 0 ∨ ∃ b k c1, m id = .slice (some ⟨b, 0, none⟩) k c1 ∧ A = some ⟨b, lo * e.size, none⟩)
  | .fn f caps, u => ∃ vs : List Value, u = .func (.func f) #[] vs.toArray ∧ RepAs m L w S caps vs
  | .bm f l, u => ∃ vs : List Value, u = .func (.func f) vs.toArray #[] ∧ RepAs m L w S l vs
  | .tup l, u => ∃ vs : List Value, u = .tuple vs.toArray ∧ RepAs m L w S l vs
  | .bt T x hs, u => T.agg = true ∧ ∃ cs ds : List Value, u = .agg ds.toArray ∧ RepC w S T x cs ∧ ds.length = cs.length ∧ (∀ v ∈ ds, v.oneCell' = true) ∧ (∀ o, lk hs o = none → ds[o]? = cs[o]?) ∧ (∀ o rid, (o, some rid) ∈ hs → ∃ v, ds[o]? = some v ∧ LinkOK m L rid v)
  | .dead, _ => True
def RepAs (m : Nat → Value) (L : Heap) (w : World) (S : Nat → Nat → Prop) : List AV → List Value → Prop
  | [], us => us = []
  | x :: xs, us => ∃ u r, us = u :: r ∧ RepA m L w S x u ∧ RepAs m L w S xs r
end

mutual
/-- Does all that an abstract value leads to fit? (first: is it a row?) -/
def AV.ids (f : Bool → Nat → Bool) : AV → Bool
  | .ref id _ => f false id
  | .ls id _ _ _ => f false id
  | .rref id _ _ => f true id
  | .rs id => f true id
  | .lr id _ _ => f true id
  | .fn _ l => AV.idsL f l
  | .bm _ l => AV.idsL f l
  | .tup l => AV.idsL f l
  | .bt _ _ hs => hs.all fun p => match p.2 with | some j => f true j | none => true
  | _ => true
def AV.idsL (f : Bool → Nat → Bool) : List AV → Bool
  | [] => true
  | a :: l => a.ids f && AV.idsL f l
end

/-- The blocks go on: none becomes another kind, a row only grows; but for rows of X, what is there lies where it lay. -/
structure Ext (X : Nat → Bool) (m : Nat → Value) (L : Heap) (m' : Nat → Value) (L' : Heap) : Prop where
  ext : ∀ (id : Nat) (s : Slot), L[id]? = some s → s ≠ .resv → ∃ s', L'[id]? = some s' ∧ s' ≠ .resv ∧
    (∀ (T : ETy), s'.bty = some T → m' id = m id ∧ s.bty = some T) ∧
    (∀ o', s' = .obj o' → (∀ u sv, m id = .tuple #[u, sv] → ∃ sv', m' id = .tuple #[u, sv']) ∧ ∃ o, s = .obj o) ∧
    (∀ (t : TypeId) (e : ETy) (xs' : List e.I) (ro' : Bool), X id = false → s' = .row t e xs' ro' → m' id = m id ∧ ∃ xs ro, s = .row t e xs ro ∧ xs.length ≤ xs'.length)

theorem Ext.refl (X : Nat → Bool) (m : Nat → Value) (L : Heap) : Ext X m L m L :=
  ⟨fun id s h hs => ⟨s, h, hs, fun T e => ⟨rfl, e⟩, fun o e => ⟨fun u sv h => ⟨sv, h⟩, o, e⟩, fun t e xs ro _ h => ⟨rfl, xs, ro, h, Nat.le_refl _⟩⟩⟩

theorem Ext.trans {X : Nat → Bool} {m m1 m2 : Nat → Value} {L L1 L2 : Heap} (h : Ext X m L m1 L1) (k : Ext X m1 L1 m2 L2) : Ext X m L m2 L2 := by
  refine ⟨fun id s hs hr => ?_⟩
  obtain ⟨s1, e1, r1, b1, o1, w1⟩ := h.ext id s hs hr
  obtain ⟨s2, e2, r2, b2, o2, w2⟩ := k.ext id s1 e1 r1
  refine ⟨s2, e2, r2, ?_, ?_, ?_⟩
  · intro T e
    obtain ⟨q, h2⟩ := b2 T e
    obtain ⟨q', hz⟩ := b1 T h2
    exact ⟨q.trans q', hz⟩
  · intro o e
    obtain ⟨q, o', rfl⟩ := o2 o e
    obtain ⟨q', o'', hz⟩ := o1 o' rfl
    refine ⟨fun u sv h => ?_, o'', hz⟩
    obtain ⟨sv', h'⟩ := q' u sv h
    exact q u sv' h'
  · intro t e xs ro hx h
    obtain ⟨q, ys, ro1, rfl, l1⟩ := w2 t e xs ro hx h
    obtain ⟨q', zs, ro2, hz, l2⟩ := w1 t e ys ro1 hx rfl
    exact ⟨q.trans q', zs, ro2, hz, by omega⟩

theorem Ext.mono {X Y : Nat → Bool} {m m' : Nat → Value} {L L' : Heap} (hX : ∀ i, X i = true → Y i = true) (h : Ext X m L m' L') : Ext Y m L m' L' := by
  refine ⟨fun id s hs hr => ?_⟩
  obtain ⟨s', e1, r1, b1, o1, w1⟩ := h.ext id s hs hr
  refine ⟨s', e1, r1, b1, o1, fun t e xs ro hy hq => w1 t e xs ro ?_ hq⟩
  cases hx : X id with
  | false => rfl
  | true => rw [hX id hx] at hy; cases hy

theorem lk_mem {o : Nat} {r : Option Nat} : ∀ {hs : List (Nat × Option Nat)}, lk hs o = some r → (o, r) ∈ hs
  | [], h => by cases h
  | (a, q) :: l, h => by
    unfold lk at h
    cases e : (a == o) with
    | true => rw [e] at h; cases h; rw [show a = o by simpa using e]; exact List.mem_cons_self ..
    | false => rw [e] at h; exact List.mem_cons_of_mem _ (lk_mem h)
theorem LinkOK.go {X : Nat → Bool} {m m' : Nat → Value} {L L' : Heap} {rid : Nat} {u : Value} (he : Ext X m L m' L') (hx : X rid = false) (h : LinkOK m L rid u) : LinkOK m' L' rid u := by
  obtain ⟨s, h0, h1, h2⟩ := h
  obtain ⟨s', e0, e1, e2, e2', e3⟩ := he.ext rid s h0 h1
  refine ⟨s', e0, e1, fun t e xs ro hb => ?_⟩
  obtain ⟨q, ys, ro1, hy, _⟩ := e3 t e xs ro hx hb
  rw [q]
  exact h2 t e ys ro1 hy
theorem LbxOK.go {B : Nat} {X : Nat → Bool} {m m' : Nat → Value} {L L' : Heap} {w w' : World} {S S' : Nat → Nat → Prop} {v : Value} {T : ETy} {x : T.I} {hs hs' : List (Nat × Option Nat)} (hsf : Safe S S' w w') (he : Ext X m L m' L')
    (hb : ∀ b, b ∈ blks v → w'.heap[b]? = w.heap[b]?) (hn : ∀ o, lk hs' o = none → lk hs o = none) (hx : ∀ o rid, lk hs' o = some (some rid) → lk hs o = some (some rid) ∧ X rid = false) (h : LbxOK B m L v w S T x hs) : LbxOK B m' L' v w' S' T x hs' := by
  obtain ⟨b, cs, ds, el, fr, h1, h2, h3, h4, h5, h6, h6', h7, h8⟩ := h
  refine ⟨b, cs, ds, el, fr, h1, h2, by rw [hb b (by rw [h1]; exact in_ptr _ _)]; exact h3, h4, h5.safe hsf, h6, h6', fun o ho => h7 o (hn o ho), fun o rid hr => ?_⟩
  obtain ⟨q1, q2⟩ := hx o rid hr
  obtain ⟨u, hu, hl⟩ := h8 o rid q1
  exact ⟨u, hu, hl.go he q2⟩
theorem LbxOK.same {B : Nat} {m m' : Nat → Value} {L L' : Heap} {w w' : World} {S S' : Nat → Nat → Prop} {v : Value} {T : ETy} {x : T.I} {hs : List (Nat × Option Nat)} (hsf : Safe S S' w w') (he : Ext (fun _ => false) m L m' L')
    (hb : ∀ b, b ∈ blks v → w'.heap[b]? = w.heap[b]?) (h : LbxOK B m L v w S T x hs) : LbxOK B m' L' v w' S' T x hs :=
  h.go hsf he hb (fun _ h => h) (fun _ _ h => ⟨h, rfl⟩)

def noX (X : Nat → Bool) : Bool → Nat → Bool := fun r id => !(r && X id)

section
variable {B : Nat} {m m' : Nat → Value} {L L' : Heap} {w w' : World} {S S' : Nat → Nat → Prop}

theorem RepV.safe (hs : Safe S S' w w') {τ : ETy} {x : τ.I} {u : Value} (h : RepV w S τ x u) : RepV w' S' τ x u := by
  obtain ⟨cs, h1, h2⟩ := h
  exact ⟨cs, h1.safe hs, h2⟩

mutual
theorem RepA.go {X : Nat → Bool} (hs : Safe S S' w w') (he : Ext X m L m' L') : ∀ {a : AV} {u : Value}, a.ids (noX X) = true → RepA m L w S a u → RepA m' L' w' S' a u
  | .v τ x, u, _, h => by simp only [RepA] at h ⊢; exact h.safe hs
  | .cst c, u, _, h => by simp only [RepA] at h ⊢; exact h
  | .vp T x p, u, _, h => by
    simp only [RepA] at h ⊢
    obtain ⟨h0, b, o, cs, rfl, h1, h2⟩ := h
    exact ⟨h0, b, o, cs, rfl, h1.safe hs, fun j hj => ⟨(hs.cell _ _ (h2 j hj).2).trans (h2 j hj).1, hs.sub _ _ (h2 j hj).2⟩⟩
  | .ref id p, u, _, h => by
    simp only [RepA] at h ⊢
    obtain ⟨s, h0, h1, h2, h3⟩ := h
    obtain ⟨s', e0, e1, e2, e3, e4⟩ := he.ext id s h0 h1
    refine ⟨s', e0, e1, fun T hb => ?_, fun o ho => ?_⟩
    · obtain ⟨q, hy⟩ := e2 T hb
      rw [q]
      exact h2 T hy
    · obtain ⟨q, o', ho'⟩ := e3 o ho
      obtain ⟨h4, sv, h5⟩ := h3 o' ho'
      exact ⟨h4, q u sv h5⟩
  | .rref id i p, u, hx, h => by
    simp only [RepA] at h ⊢
    simp [AV.ids, noX] at hx
    obtain ⟨s, h0, h1, h2⟩ := h
    obtain ⟨s', e0, e1, e2, e2', e3⟩ := he.ext id s h0 h1
    refine ⟨s', e0, e1, fun t e xs ro hb => ?_⟩
    obtain ⟨q, ys, ro1, hy, l1⟩ := e3 t e xs ro hx hb
    obtain ⟨k1, k2, k3⟩ := h2 t e ys ro1 hy
    rw [q]
    exact ⟨by omega, k2, k3⟩
  | .ls id p lo n, u, _, h => by
    simp only [RepA] at h ⊢
    obtain ⟨s, h0, h1, h2⟩ := h
    obtain ⟨s', e0, e1, e2, e2', e3⟩ := he.ext id s h0 h1
    refine ⟨s', e0, e1, fun T hb => ?_⟩
    obtain ⟨q, hy⟩ := e2 T hb
    rw [q]
    exact h2 T hy
  | .rs id, u, hx, h => by
    simp only [RepA] at h ⊢
    simp [AV.ids, noX] at hx
    obtain ⟨s, h0, h1, h2⟩ := h
    obtain ⟨s', e0, e1, e2, e2', e3⟩ := he.ext id s h0 h1
    refine ⟨s', e0, e1, fun t e xs ro hb => ?_⟩
    obtain ⟨q, ys, ro1, hy, l1⟩ := e3 t e xs ro hx hb
    rw [q]
    exact h2 t e ys ro1 hy
  | .lr id lo n, u, hx, h => by
    simp only [RepA] at h ⊢
    simp [AV.ids, noX] at hx
    obtain ⟨s, h0, h1, h2⟩ := h
    obtain ⟨s', e0, e1, e2, e2', e3⟩ := he.ext id s h0 h1
    refine ⟨s', e0, e1, fun t e xs ro hb => ?_⟩
    obtain ⟨q, ys, ro1, hy, l1⟩ := e3 t e xs ro hx hb
    obtain ⟨k1, k2⟩ := h2 t e ys ro1 hy
    rw [q]
    exact ⟨by omega, k2⟩
  | .fn f caps, u, hx, h => by
    simp only [RepA] at h ⊢
    obtain ⟨vs, h0, h1⟩ := h
    exact ⟨vs, h0, RepAs.go hs he (by simpa [AV.ids] using hx) h1⟩
  | .bm f l, u, hx, h => by
    simp only [RepA] at h ⊢
    obtain ⟨vs, h0, h1⟩ := h
    exact ⟨vs, h0, RepAs.go hs he (by simpa [AV.ids] using hx) h1⟩
  | .tup l, u, hx, h => by
    simp only [RepA] at h ⊢
    obtain ⟨vs, h0, h1⟩ := h
    exact ⟨vs, h0, RepAs.go hs he (by simpa [AV.ids] using hx) h1⟩
  | .bt T x q, u, hx, h => by
    simp only [RepA] at h ⊢
    simp only [AV.ids, List.all_eq_true] at hx
    obtain ⟨h0, cs, ds, h1, h2, h3, h4, h5, h6⟩ := h
    refine ⟨h0, cs, ds, h1, h2.safe hs, h3, h4, h5, fun o rid hr => ?_⟩
    obtain ⟨v, k1, k2⟩ := h6 o rid hr
    have := hx _ hr
    simp [noX] at this
    exact ⟨v, k1, k2.go he this⟩
  | .dead, u, _, h => by simp only [RepA]
theorem RepAs.go {X : Nat → Bool} (hs : Safe S S' w w') (he : Ext X m L m' L') : ∀ {a : List AV} {u : List Value}, AV.idsL (noX X) a = true → RepAs m L w S a u → RepAs m' L' w' S' a u
  | [], u, _, h => by simp only [RepAs] at h ⊢; exact h
  | x :: xs, u, hx, h => by
    simp only [RepAs] at h ⊢
    obtain ⟨y, r, rfl, h1, h2⟩ := h
    simp only [AV.idsL, Bool.and_eq_true] at hx
    exact ⟨y, r, rfl, RepA.go hs he hx.1 h1, RepAs.go hs he hx.2 h2⟩
end
end
end Go.Proofs.YtmmooplcdkmapaaGreatDoor.K

set_option linter.unusedVariables false
set_option linter.unusedSimpArgs false
namespace Go.Proofs.YtmmooplcdkmapaaGreatDoor.K
open Go Go.RowKit

/-! ### Equality of data -/
def eqI : (τ : ETy) → τ.I → τ.I → Bool
  | .int _, x, y => (x : Int) == y
  | .bool, x, y => (x : Bool) == y
  | .str, x, y => ByteArray.toList x == ByteArray.toList y
  | .raw _, _, _ => false
  | .unit, _, _ => true
  | .pair a b, x, y => eqI a x.1 y.1 && eqI b x.2 y.2
  | .arr n e, xs, ys => go (eqI e) n xs ys
  | .slice _, _, _ => false
where go {α : Type} (f : α → α → Bool) : Nat → List α → List α → Bool
  | n + 1, x :: xs, y :: ys => f x y && go f n xs ys
  | _, _, _ => true

mutual
def eqOK (P : Program) : ETy → TypeId → Bool
  | .int k, t => match P.underlying t with | some (.int k') => decide (k = k') | _ => false
  | .bool, t => match P.underlying t with | some .bool => true | _ => false
  | .str, t => match P.underlying t with | some .string => true | _ => false
  | .arr n e, t => match P.underlying t with | some (.array m te) => m == n && (P.info? te).isSome && P.cellsOf te == e.size && eqOK P e te | _ => false
  | .unit, t => match P.underlying t with | some (.struct fs) => !P.stoodInHeld t && fs.toList.isEmpty | _ => false
  | .pair a b, t => match P.underlying t with
      | some (.struct fs) => !P.stoodInHeld t && (match fs.toList with
        | f :: r => f.name != "_" && f.offset == 0 && (P.info? f.type).isSome && P.cellsOf f.type == a.size && eqOK P a f.type && eqF P b a.size r
        | [] => false)
      | _ => false
  | _, _ => false
def eqF (P : Program) : ETy → Nat → List Field → Bool
  | .unit, _, r => r.isEmpty
  | .pair a b, o, f :: r => f.name != "_" && f.offset == o && (P.info? f.type).isSome && P.cellsOf f.type == a.size && eqOK P a f.type && eqF P b (o + a.size) r
  | _, _, _ => false
end

def ETy.deep : ETy → Nat
  | .pair a b => max a.deep b.deep + 1
  | .arr _ e => e.deep + 1
  | _ => 1

section
variable {P : Program} {w w' : World} {S S' : Nat → Nat → Prop} {t : TypeId} {τ : ETy}

theorem eqOK_agg (h : eqOK P τ t = true) (w : World) : (isAgg t).run P w = .ok τ.agg w := by
  have : ∃ d, P.underlying t = some d ∧ aggD d = τ.agg := by
    cases hu : P.underlying t with
    | none => cases τ <;> simp [eqOK, hu] at h
    | some d => refine ⟨d, rfl, ?_⟩; cases τ <;> cases d <;> simp [eqOK, hu] at h <;> rfl
  obtain ⟨d, hd, ha⟩ := this
  simp only [isAgg, Sem.run_bind, run_underlying hd, Result.andThen_ok]
  cases d <;> simp [aggD] at ha <;> simp [← ha, Sem.run_pure]

theorem run_part' {xs : Array Value} {pre mid post : List Value} (hx : xs.toList = pre ++ mid ++ post) (ha : (isAgg t).run P w = .ok τ.agg w) (hi : (P.info? t).isSome = true) (hs : P.cellsOf t = τ.size) (hl : mid.length = τ.size) :
    (part t xs pre.length).run P w = .ok (valOf τ mid) w := by
  obtain ⟨i, hi⟩ := Option.isSome_iff_exists.1 hi
  simp only [part, Sem.run_bind, ha, Result.andThen_ok]
  obtain rfl : xs = (pre ++ mid ++ post).toArray := by rw [← hx]
  unfold valOf
  cases hag : τ.agg with
  | true =>
    simp only [if_true, Sem.run_bind, run_sizeOf w hi, Result.andThen_ok, Sem.run_pure, hs]
    congr 2
    apply Array.ext'
    simp only [Array.toList_extract, List.extract_eq_take_drop]
    rw [List.append_assoc, List.drop_left, show pre.length + τ.size - pre.length = mid.length by omega, List.take_left]
  | false =>
    have h1 : mid.length = 1 := by rw [hl]; cases τ <;> simp [ETy.agg] at hag <;> rfl
    obtain ⟨c, rfl⟩ := List.length_eq_one_iff.1 h1
    simp [Sem.run_pure]

mutual
theorem run_eqI : ∀ {τ : ETy} {t : TypeId} {D : Nat} {x y : τ.I} {cx cy : List Value}, eqOK P τ t = true → τ.deep ≤ D → RepC w S τ x cx → RepC w S' τ y cy →
    (Op.equalIn D t (valOf τ cx) (valOf τ cy)).run P w = .ok (eqI τ x y) w
  | τ, t, 0, x, y, cx, cy, h, hd, hx, hy => by exact absurd hd (by cases τ <;> simp [ETy.deep])
  | .int k, t, D + 1, x, y, cx, cy, h, hd, hx, hy => by
    simp only [RepC] at hx hy
    subst hx; subst hy
    cases hu : P.underlying t with
    | none => simp [eqOK, hu] at h
    | some d =>
      cases d <;> simp [eqOK, hu] at h
      subst h
      have := run_equalIn_int w D t k k x y hu
      simpa [valOf, ETy.agg, eqI] using this
  | .bool, t, D + 1, x, y, cx, cy, h, hd, hx, hy => by
    simp only [RepC] at hx hy
    subst hx; subst hy
    cases hu : P.underlying t with
    | none => simp [eqOK, hu] at h
    | some d =>
      cases d <;> simp [eqOK, hu] at h
      exact run_equalIn_bool w D t x y hu
  | .str, t, D + 1, x, y, cx, cy, h, hd, hx, hy => by
    simp only [RepC] at hx hy
    subst hx; subst hy
    cases hu : P.underlying t with
    | none => simp [eqOK, hu] at h
    | some d =>
      cases d <;> simp [eqOK, hu] at h
      exact run_equalIn_string w D t x y hu
  | .unit, t, D + 1, x, y, cx, cy, h, hd, hx, hy => by
    simp only [RepC] at hx hy
    subst hx; subst hy
    cases hu : P.underlying t with
    | none => simp [eqOK, hu] at h
    | some d =>
      cases d <;> simp [eqOK, hu] at h
      rename_i fs
      have hfs : P.fieldsOf t = fs := by simp [Program.fieldsOf, hu]
      have := run_equalIn_struct w D t (#[] : Array Value) #[] (by rw [hfs]; exact hu) h.1
      simp only [valOf, ETy.agg, if_true, eqI]
      rw [this, hfs]
      simp [h.2, Op.eqFields, Sem.run_pure]
  | .pair a b, t, D + 1, x, y, cx, cy, h, hd, hx, hy => by
    obtain ⟨c1, d1, rfl, hx1, hx2⟩ := hx
    obtain ⟨c2, d2, rfl, hy1, hy2⟩ := hy
    cases hu : P.underlying t with
    | none => simp [eqOK, hu] at h
    | some d =>
      cases d <;> simp [eqOK, hu] at h
      rename_i fs
      have hfs : P.fieldsOf t = fs := by simp [Program.fieldsOf, hu]
      obtain ⟨h0, h⟩ := h
      have hst := run_equalIn_struct w D t (c1 ++ d1).toArray (c2 ++ d2).toArray (by rw [hfs]; exact hu) h0
      simp only [valOf, ETy.agg, if_true, eqI]
      rw [hst, hfs]
      cases hl : fs.toList with
      | nil => simp [hl] at h
      | cons f r =>
        simp only [hl, Bool.and_eq_true, bne_iff_ne, ne_eq, beq_iff_eq] at h
        obtain ⟨⟨⟨⟨⟨n1, n2⟩, n3⟩, n4⟩, n5⟩, n6⟩ := h
        have hd1 : a.deep ≤ D := by simp only [ETy.deep] at hd; omega
        have hd2 : b.deep ≤ D := by simp only [ETy.deep] at hd; omega
        have e := run_eqI n5 hd1 hx1 hy1
        have g := run_eqF (xs := (c1 ++ d1).toArray) (ys := (c2 ++ d2).toArray) (p1 := c1) (p2 := c2) n6 hd2 hx2 hy2 rfl rfl hx1.length hy1.length
        have p1 := run_part' (P := P) (w := w) (t := f.type) (τ := a) (xs := (c1 ++ d1).toArray) (pre := []) (mid := c1) (post := d1) (by simp) (eqOK_agg n5 w) n3 n4 hx1.length
        have p2 := run_part' (P := P) (w := w) (t := f.type) (τ := a) (xs := (c2 ++ d2).toArray) (pre := []) (mid := c2) (post := d2) (by simp) (eqOK_agg n5 w) n3 n4 hy1.length
        simp only [List.length_nil] at p1 p2
        simp only [Op.eqFields, n1, n2, ne_eq, not_false_eq_true, if_true, Sem.run_bind, p1, p2, e, Result.andThen_ok]
        cases he : eqI a x.1 y.1
        · simp [Sem.run_pure]
        · simpa using g
  | .arr n e, t, D + 1, x, y, cx, cy, h, hd, hx, hy => by
    cases hu : P.underlying t with
    | none => simp [eqOK, hu] at h
    | some d =>
      cases d <;> simp [eqOK, hu] at h
      rename_i m te
      obtain ⟨⟨⟨rfl, n2⟩, n3⟩, n4⟩ := h
      obtain ⟨i, hi⟩ := Option.isSome_iff_exists.1 n2
      have hst := run_equalIn_array w D (t := t) (e := te) (n := m) (i := i) cx.toArray cy.toArray hu hi
      have hd1 : e.deep ≤ D := by simp only [ETy.deep] at hd; omega
      simp only [valOf, ETy.agg, if_true, eqI]
      rw [hst, n3, List.range_eq_range']
      have := run_eqIt (e := e) (te := te) (D := D) (fun {x y cx cy} hx hy => run_eqI n4 hd1 hx hy) n4 (by rw [hi]; rfl) n3 m 0 x y [] [] cx cy cx.toArray cy.toArray (by simp) (by simp) (by simp) (by simp) hx hy
      exact this
theorem run_eqF : ∀ {b : ETy} {o : Nat} {r : List Field} {D : Nat} {x y : b.I} {p1 p2 c1 c2 : List Value} {xs ys : Array Value}, eqF P b o r = true → b.deep ≤ D → RepC w S b x c1 → RepC w S' b y c2 →
    xs = (p1 ++ c1).toArray → ys = (p2 ++ c2).toArray → p1.length = o → p2.length = o → (Op.eqFields D xs ys r).run P w = .ok (eqI b x y) w
  | .unit, o, r, D, x, y, p1, p2, c1, c2, xs, ys, h, hd, hx, hy, e1, e2, e3, e4 => by
    simp [eqF] at h
    subst h
    simp [Op.eqFields, Sem.run_pure, eqI]
  | .pair a b, o, f :: r, D, x, y, p1, p2, c1, c2, xs, ys, h, hd, hx, hy, e1, e2, e3, e4 => by
    obtain ⟨c1, d1, rfl, hx1, hx2⟩ := hx
    obtain ⟨c2, d2, rfl, hy1, hy2⟩ := hy
    subst e1; subst e2
    simp only [eqF, Bool.and_eq_true, bne_iff_ne, ne_eq, beq_iff_eq] at h
    obtain ⟨⟨⟨⟨⟨n1, n2⟩, n3⟩, n4⟩, n5⟩, n6⟩ := h
    have hd1 : a.deep ≤ D := by simp only [ETy.deep] at hd; omega
    have hd2 : b.deep ≤ D := by simp only [ETy.deep] at hd; omega
    have e := run_eqI n5 hd1 hx1 hy1
    have g := run_eqF (xs := (p1 ++ (c1 ++ d1)).toArray) (ys := (p2 ++ (c2 ++ d2)).toArray) (p1 := p1 ++ c1) (p2 := p2 ++ c2) n6 hd2 hx2 hy2 (by simp) (by simp) (by simp [e3, hx1.length]) (by simp [e4, hy1.length])
    have q1 := run_part' (P := P) (w := w) (t := f.type) (τ := a) (xs := (p1 ++ (c1 ++ d1)).toArray) (pre := p1) (mid := c1) (post := d1) (by simp) (eqOK_agg n5 w) n3 n4 hx1.length
    have q2 := run_part' (P := P) (w := w) (t := f.type) (τ := a) (xs := (p2 ++ (c2 ++ d2)).toArray) (pre := p2) (mid := c2) (post := d2) (by simp) (eqOK_agg n5 w) n3 n4 hy1.length
    rw [e3] at q1
    rw [e4] at q2
    simp only [Op.eqFields, n1, n2, ne_eq, not_false_eq_true, if_true, Sem.run_bind, q1, q2, e, Result.andThen_ok, eqI]
    cases he : eqI a x.1 y.1
    · simp [Sem.run_pure]
    · simpa using g
  | .pair a b, o, [], D, x, y, p1, p2, c1, c2, xs, ys, h, hd, hx, hy, e1, e2, e3, e4 => by simp [eqF] at h
  | .int _, o, r, D, x, y, p1, p2, c1, c2, xs, ys, h, hd, hx, hy, e1, e2, e3, e4 => by simp [eqF] at h
  | .bool, o, r, D, x, y, p1, p2, c1, c2, xs, ys, h, hd, hx, hy, e1, e2, e3, e4 => by simp [eqF] at h
  | .str, o, r, D, x, y, p1, p2, c1, c2, xs, ys, h, hd, hx, hy, e1, e2, e3, e4 => by simp [eqF] at h
  | .raw _, o, r, D, x, y, p1, p2, c1, c2, xs, ys, h, hd, hx, hy, e1, e2, e3, e4 => by simp [eqF] at h
  | .arr _ _, o, r, D, x, y, p1, p2, c1, c2, xs, ys, h, hd, hx, hy, e1, e2, e3, e4 => by simp [eqF] at h
  | .slice _, o, r, D, x, y, p1, p2, c1, c2, xs, ys, h, hd, hx, hy, e1, e2, e3, e4 => by simp [eqF] at h
theorem run_eqIt {e : ETy} {te : TypeId} {D : Nat} (ih : ∀ {x y : e.I} {cx cy : List Value}, RepC w S e x cx → RepC w S' e y cy → (Op.equalIn D te (valOf e cx) (valOf e cy)).run P w = .ok (eqI e x y) w)
    (ho : eqOK P e te = true) (hi : (P.info? te).isSome = true) (hs : P.cellsOf te = e.size) : ∀ (n k : Nat) (x y : List e.I) (p1 p2 c1 c2 : List Value) (xs ys : Array Value),
    xs = (p1 ++ c1).toArray → ys = (p2 ++ c2).toArray → p1.length = k * e.size → p2.length = k * e.size → RepC w S (.arr n e) x c1 → RepC w S' (.arr n e) y c2 →
    (Op.eqItems D te e.size xs ys (List.range' k n)).run P w = .ok (eqI.go (eqI e) n x y) w
  | 0, k, x, y, p1, p2, c1, c2, xs, ys, e1, e2, e3, e4, hx, hy => by simp [Op.eqItems, Sem.run_pure, eqI.go]
  | n + 1, k, x, y, p1, p2, c1, c2, xs, ys, e1, e2, e3, e4, hx, hy => by
    obtain ⟨l1, h1⟩ := hx
    obtain ⟨l2, h2⟩ := hy
    cases x with
    | nil => simp at l1
    | cons x xt =>
    cases y with
    | nil => simp at l2
    | cons y yt =>
      obtain ⟨c1, d1, rfl, hx1, hx2⟩ := h1
      obtain ⟨c2, d2, rfl, hy1, hy2⟩ := h2
      subst e1; subst e2
      have e0 := ih hx1 hy1
      have g := run_eqIt ih ho hi hs n (k + 1) xt yt (p1 ++ c1) (p2 ++ c2) d1 d2 (p1 ++ (c1 ++ d1)).toArray (p2 ++ (c2 ++ d2)).toArray (by simp) (by simp)
        (by simp [e3, hx1.length, Nat.succ_mul]) (by simp [e4, hy1.length, Nat.succ_mul]) ⟨by simpa using l1, hx2⟩ ⟨by simpa using l2, hy2⟩
      have q1 := run_part' (P := P) (w := w) (t := te) (τ := e) (xs := (p1 ++ (c1 ++ d1)).toArray) (pre := p1) (mid := c1) (post := d1) (by simp) (eqOK_agg ho w) hi hs hx1.length
      have q2 := run_part' (P := P) (w := w) (t := te) (τ := e) (xs := (p2 ++ (c2 ++ d2)).toArray) (pre := p2) (mid := c2) (post := d2) (by simp) (eqOK_agg ho w) hi hs hy1.length
      rw [e3] at q1
      rw [e4] at q2
      simp only [List.range'_succ, Op.eqItems, Sem.run_bind, q1, q2, e0, Result.andThen_ok, eqI.go]
      cases he : eqI e x y
      · simp [Sem.run_pure]
      · simpa using g
end
end
end Go.Proofs.YtmmooplcdkmapaaGreatDoor.K

set_option linter.unusedVariables false
set_option linter.unusedSimpArgs false
namespace Go.Proofs.YtmmooplcdkmapaaGreatDoor.K
open Go Go.RowKit

structure Cfg where
  P : Program
  Ty : TypeId → Option ETy
  G : Nat → Option Dat
  M : Nat → Bool := fun _ => false
  /-- Which rows may be appended to. -/
  Y : Nat → Bool := fun _ => true
  /-- Which types are the library's builders: the type of a builder's elements. -/
  Ob : TypeId → Option TypeId := fun _ => none
  /-- Structs of which a slice is one's own from the beginning: where it lies, of what type its elements are. -/
  Lk : TypeId → Option (Nat × TypeId × ETy) := fun _ => none

structure Cfg.OK (C : Cfg) : Prop where
  ty : ∀ t τ, C.Ty t = some τ → GoodTy C.P t τ
  mixed : C.P.follows .mixedOrders = true
  ob : ∀ t te, C.Ob t = some te → GoodTy C.P t (.pair (.raw .ptr) (.pair (.slice (.int .u8)) .unit)) := by intro t te h; cases h

/-- The package's variables read as laid, are protected, and lie below B; some hold a number, whichever. -/
structure GlobOK (C : Cfg) (B : Nat) (w : World) (S : Nat → Nat → Prop) : Prop where
  tab : ∀ g d, C.G g = some d → g < B ∧ ∃ cs el fr, w.heap[g]? = some (.cells cs.toArray el fr) ∧ RepC w S d.τ d.x cs ∧ ∀ j, j < cs.length → S g j
  any : ∀ g, C.M g = true → g < B ∧ (∃ n, w.cell? ⟨g, 0, none⟩ = some (.int .i64 n)) ∧ S g 0

theorem GlobOK.go {C : Cfg} {B : Nat} {w w' : World} {S S' : Nat → Nat → Prop} (h : GlobOK C B w S) (hs : Safe S S' w w') (hb : Below B w w') : GlobOK C B w' S' := by
  refine ⟨fun g d hg => ?_, fun g hg => ?_⟩
  · obtain ⟨h0, cs, el, fr, h1, h2, h3⟩ := h.tab g d hg
    exact ⟨h0, cs, el, fr, (hb.block g h0).trans h1, h2.safe hs, fun j hj => hs.sub _ _ (h3 j hj)⟩
  · obtain ⟨h0, ⟨n, h1⟩, h2⟩ := h.any g hg
    exact ⟨h0, ⟨n, (hs.cell _ _ h2).trans h1⟩, hs.sub _ _ h2⟩

theorem GlobOK.mono {C : Cfg} {B B' : Nat} {w : World} {S : Nat → Nat → Prop} (h : GlobOK C B w S) (hB : B ≤ B') : GlobOK C B' w S :=
  ⟨fun g d hg => ⟨Nat.lt_of_lt_of_le (h.tab g d hg).1 hB, (h.tab g d hg).2⟩, fun g hg => ⟨Nat.lt_of_lt_of_le (h.any g hg).1 hB, (h.any g hg).2⟩⟩

theorem GlobOK.cells {C : Cfg} {B : Nat} {w : World} {S : Nat → Nat → Prop} (h : GlobOK C B w S) {g : Nat} {d : Dat} (hg : C.G g = some d) : ∃ cs, RepC w S d.τ d.x cs ∧ ∀ j (h : j < cs.length), w.cell? ⟨g, j, none⟩ = some cs[j] ∧ S g j := by
  obtain ⟨_, cs, el, fr, h1, h2, h3⟩ := h.tab g d hg
  refine ⟨cs, h2, fun j hj => ⟨?_, h3 j hj⟩⟩
  unfold World.cell?
  simp only [h1]
  simp [hj]

def constA : Value → AV
  | .int k n => .v (.int k) n
  | .bool b => .v .bool b
  | .string s => .v .str s
  | .nilIface => .v (.raw .iface) .nilIface
  | c => .cst c

def evA (C : Cfg) (env : List AV) : Operand → AV
  | .tmp t => env.getD t .dead
  | .const c => constA c
  | .global g => match C.G g with | some d => .vp d.τ d.x [] | none => .dead
  | .func f => .fn f []

abbrev R := Option (Bool × AV)
def ok1 (a : AV) : R := some (true, a)

def bAt (s : ByteArray) (i : Nat) : Int := ((s.data.toList.getD i 0).toNat : Int)

/-- The bounds of what may be made: far below what the model bears. -/
def catMax : Nat := 1152921504606846976

def pickA (c : Bool) : AV → AV → AV
  | .v .bool x, .v .bool y => .v .bool (bif c then x else y)
  | .v (.int k) x, .v (.int k') y => if k = k' then .v (.int k) (bif c then (x : Int) else y) else bif c then .v (.int k) x else .v (.int k') y
  | .v .str x, .v .str y => .v .str (bif c then (x : ByteArray) else y)
  | a, b => bif c then a else b

def intOp (op : BinOp) (k : IntKind) (x y : Int) : R :=
  match op with
  | .add => ok1 (.v (.int k) (k.wrap (x + y)))
  | .sub => ok1 (.v (.int k) (k.wrap (x - y)))
  | .mul => ok1 (.v (.int k) (k.wrap (x * y)))
  | .quo => some (!(y == 0), .v (.int k) (k.wrap (x.tdiv y)))
  | .rem => some (!(y == 0), .v (.int k) (x.tmod y))
  | .and => ok1 (.v (.int k) (k.wrap (BitVec.ofInt k.bits x &&& BitVec.ofInt k.bits y).toNat))
  | .or => ok1 (.v (.int k) (k.wrap (BitVec.ofInt k.bits x ||| BitVec.ofInt k.bits y).toNat))
  | .xor => ok1 (.v (.int k) (k.wrap (BitVec.ofInt k.bits x ^^^ BitVec.ofInt k.bits y).toNat))
  | .andNot => ok1 (.v (.int k) (k.wrap (BitVec.ofInt k.bits x &&& ~~~BitVec.ofInt k.bits y).toNat))
  | .eql => ok1 (.v .bool (x == y))
  | .neq => ok1 (.v .bool (x != y))
  | .lss => ok1 (.v .bool (decide (x < y)))
  | .leq => ok1 (.v .bool (decide (x ≤ y)))
  | .gtr => ok1 (.v .bool (decide (x > y)))
  | .geq => ok1 (.v .bool (decide (x ≥ y)))
  | _ => none

def strOp (op : BinOp) (x y : ByteArray) : R :=
  match op with
  | .add => some (decide (x.size + y.size ≤ catMax), .v .str (x ++ y))
  | .eql => ok1 (.v .bool (x.data.toList == y.data.toList))
  | .neq => ok1 (.v .bool (!(x.data.toList == y.data.toList)))
  | .lss => ok1 (.v .bool (Op.bytesLess x.data.toList y.data.toList))
  | .leq => ok1 (.v .bool (Op.bytesLess x.data.toList y.data.toList || x.data.toList == y.data.toList))
  | .gtr => ok1 (.v .bool (!(Op.bytesLess x.data.toList y.data.toList || x.data.toList == y.data.toList)))
  | .geq => ok1 (.v .bool (!Op.bytesLess x.data.toList y.data.toList))
  | _ => none

def eqOp (C : Cfg) (op : BinOp) (t : TypeId) (τ : ETy) (x y : τ.I) : R :=
  if eqOK C.P τ t && !C.P.eqGuardType C.P.depth t && decide (τ.deep ≤ 10000) then
    match op with
    | .eql => ok1 (.v .bool (eqI τ x y))
    | .neq => ok1 (.v .bool (!eqI τ x y))
    | _ => none
  else none

def castA (τ σ : ETy) (y : σ.I) : Option τ.I := castI σ τ y

def isShift : BinOp → Bool
  | .shl | .shr => true
  | _ => false

def binA (C : Cfg) (op : BinOp) (t : TypeId) : AV → AV → R
  | .v (.int k) x, .v (.int k') y =>
    match op with
    | .shl => some (decide ((0 : Int) ≤ y), .v (.int k) (k.wrap ((x : Int) * 2 ^ (min (Int.toNat y) k.bits))))
    | .shr => some (decide ((0 : Int) ≤ y), .v (.int k) (Int.fdiv x (2 ^ (min (Int.toNat y) k.bits))))
    | _ => if k = k' then intOp op k x y else none
  | .v .bool x, .v .bool y => eqOp C op t .bool x y
  | .v .str x, .v .str y => strOp op x y
  | .v (.pair a b) x, .v τ y => (castI τ (.pair a b) y).bind fun y => eqOp C op t (.pair a b) x y
  | .v (.arr n e) x, .v τ y => (castI τ (.arr n e) y).bind fun y => eqOp C op t (.arr n e) x y
  | _, _ => none

def unA (op : UnOp) : AV → R
  | .v (.int k) x => match op with
    | .neg => ok1 (.v (.int k) (k.wrap (0 - (x : Int))))
    | .xor => ok1 (.v (.int k) (k.wrap (BitVec.ofInt k.bits (if k.signed then -1 else k.max) ^^^ BitVec.ofInt k.bits x).toNat))
    | _ => none
  | .v .bool b => match op with | .not => ok1 (.v .bool (!b)) | _ => none
  | _ => none

def convA (C : Cfg) (src dst : TypeId) : AV → R
  | .v (.int _) x => match C.Ty src, C.Ty dst with
    | some (.int _), some (.int k) => ok1 (.v (.int k) (k.wrap x))
    | some (.int _), some .str => ok1 (.v .str (Utf8.encode x))
    | _, _ => none
  | .v .str x => match C.Ty src, C.Ty dst with
    | some .str, some .str => ok1 (.v .str x)
    | _, _ => none
  | _ => none

section
variable {C : Cfg} {m : Nat → Value} {L : Heap} {w : World} {S : Nat → Nat → Prop}

theorem rep_v {τ : ETy} {x : τ.I} {u : Value} : RepA m L w S (.v τ x) u = RepV w S τ x u := by simp only [RepA]

theorem rep_int {k : IntKind} {x : Int} {u : Value} : RepA m L w S (.v (.int k) x) u ↔ u = .int k x := by
  rw [rep_v]
  constructor
  · rintro ⟨cs, h, rfl⟩; simp only [RepC] at h; subst h; rfl
  · rintro rfl; exact ⟨[.int k x], rfl, rfl⟩
theorem rep_bool {x : Bool} {u : Value} : RepA m L w S (.v .bool x) u ↔ u = .bool x := by
  rw [rep_v]
  constructor
  · rintro ⟨cs, h, rfl⟩; simp only [RepC] at h; subst h; rfl
  · rintro rfl; exact ⟨[.bool x], rfl, rfl⟩
theorem rep_str {x : ByteArray} {u : Value} : RepA m L w S (.v .str x) u ↔ u = .string x := by
  rw [rep_v]
  constructor
  · rintro ⟨cs, h, rfl⟩; simp only [RepC] at h; subst h; rfl
  · rintro rfl; exact ⟨[.string x], rfl, rfl⟩

theorem rep_const (c : Value) : RepA m L w S (constA c) c := by
  cases c <;> first | exact rep_int.2 rfl | exact rep_bool.2 rfl | exact rep_str.2 rfl | (show RepA m L w S (.v (.raw .iface) .nilIface) .nilIface; rw [rep_v]; exact ⟨[.nilIface], ⟨rfl, rfl⟩, rfl⟩) | (simp only [constA, RepA])

/-- The temporaries are as the list says. -/
structure RepE (m : Nat → Value) (L : Heap) (w : World) (S : Nat → Nat → Prop) (env : List AV) (tmps : Array Value) : Prop where
  size : env.length = tmps.size
  at_ : ∀ t, RepA m L w S (env.getD t .dead) (tmps.getD t undef)

theorem RepE.put {env : List AV} {a : Act} (h : RepE m L w S env a.tmps) {av : AV} {u : Value} (hu : RepA m L w S av u) (d : Nat) :
    RepE m L w S (env.set d av) (a.put (some d) u).tmps := by
  refine ⟨by simp [Act.put, h.size], fun t => ?_⟩
  have := h.at_ t
  by_cases hd : t = d
  · subst hd
    by_cases hl : t < env.length
    · have hl' : t < a.tmps.size := by rw [← h.size]; exact hl
      simp only [Act.put, List.getD_eq_getElem?_getD, List.getElem?_set_self hl, Option.getD_some]
      simp only [Array.getD, Array.size_setIfInBounds, hl', dif_pos, Array.getInternal_eq_getElem, Array.getElem_setIfInBounds_self]
      exact hu
    · have hl' : ¬ t < a.tmps.size := by rw [← h.size]; exact hl
      simp only [Act.put, List.getD_eq_getElem?_getD]
      rw [List.getElem?_eq_none (by simp; omega)]
      simp only [Option.getD_none, RepA]
  · simp only [Act.put, List.getD_eq_getElem?_getD, List.getElem?_set_ne (Ne.symm hd)]
    rw [← List.getD_eq_getElem?_getD]
    have e : (a.tmps.setIfInBounds d u).getD t undef = a.tmps.getD t undef := by
      simp only [Array.getD_eq_getD_getElem?, Array.getElem?_setIfInBounds_ne (Ne.symm hd)]
    rw [e]; exact this

theorem RepE.eval {B : Nat} {env : List AV} {a : Act} (hG : GlobOK C B w S) (h : RepE m L w S env a.tmps) (x : Operand) : RepA m L w S (evA C env x) (a.eval x) := by
  cases x with
  | tmp t => exact h.at_ t
  | const c => exact rep_const c
  | global g =>
    simp only [evA, Act.eval]
    cases hg : C.G g with
    | none => simp only [RepA]
    | some d =>
      obtain ⟨cs, h1, h2⟩ := hG.cells hg
      simp only [RepA]
      exact ⟨by simp [okP], g, 0, cs, by simp [off], h1, fun j hj => by simpa using h2 j hj⟩
  | func f => simp only [evA, Act.eval, RepA]; exact ⟨[], rfl, by simp only [RepAs]⟩

/-- 'The operation gives a value of this kind, and turns nothing.' -/
def Gives (C : Cfg) (m : Nat → Value) (L : Heap) (w : World) (S : Nat → Nat → Prop) (s : Sem Value) (r : R) : Prop :=
  ∀ a, r = some (true, a) → ∃ u, s.run C.P w = .ok u w ∧ RepA m L w S a u

theorem gives_none {s : Sem Value} : Gives C m L w S s none := fun a h => by simp at h
theorem gives_ok1 {s : Sem Value} {a : AV} {u : Value} (h : s.run C.P w = .ok u w) (hr : RepA m L w S a u) : Gives C m L w S s (ok1 a) := by
  intro b hb
  simp only [ok1, Option.some.injEq, Prod.mk.injEq, true_and] at hb
  subst hb
  exact ⟨u, h, hr⟩
theorem gives_if {s : Sem Value} {c : Bool} {a : AV} {u : Value} (h : c = true → s.run C.P w = .ok u w) (hr : RepA m L w S a u) : Gives C m L w S s (some (c, a)) := by
  intro b hb
  simp only [Option.some.injEq, Prod.mk.injEq] at hb
  obtain ⟨rfl, rfl⟩ := hb
  exact ⟨u, h rfl, hr⟩

theorem pick_rep {c : Bool} {x y : AV} {u v : Value} (hx : RepA m L w S x u) (hy : RepA m L w S y v) : RepA m L w S (pickA c x y) (if c = true then u else v) := by
  have key : ∀ {z : AV}, z = (bif c then x else y) → RepA m L w S z (if c = true then u else v) := by
    rintro z rfl
    cases c <;> simp <;> assumption
  unfold pickA
  split
  · rw [rep_bool] at hx hy; subst hx; subst hy; cases c <;> simp [rep_bool]
  · rename_i k x k' y
    split
    · rename_i e; subst e; rw [rep_int] at hx hy; subst hx; subst hy; cases c <;> simp [rep_int]
    · exact key rfl
  · rw [rep_str] at hx hy; subst hx; subst hy; cases c <;> simp [rep_str]
  · exact key rfl

theorem wf_noagg {op : BinOp} {t : TypeId} {x y : Operand} {k k' : IntKind} {a b : Int} : (eqGuard op t x y (.int k a) (.int k' b)).run C.P w = .ok () w := by
  unfold eqGuard; split <;> simp [Sem.run_pure]

theorem gives_intOp {op : BinOp} {t : TypeId} {k : IntKind} {x y : Int} (hop : isShift op = false) : Gives C m L w S (binOp op t (.int k x) (.int k y)) (intOp op k x y) := by
  cases op <;> simp [isShift] at hop <;> simp only [intOp, binOp, ne_eq, not_true_eq_false, if_false] <;>
    first
    | exact gives_none
    | exact gives_ok1 rfl (rep_int.2 rfl)
    | exact gives_ok1 rfl (rep_bool.2 rfl)
    | (refine gives_if (u := .int k _) (fun h => ?_) (rep_int.2 rfl); have h' : ¬ y = 0 := by simpa using h
       simp [Op.intDiv, h', Sem.run_pure])

theorem gives_strOp {op : BinOp} {t : TypeId} {x y : ByteArray} (hop : isShift op = false) : Gives C m L w S (binOp op t (.string x) (.string y)) (strOp op x y) := by
  cases op <;> simp [isShift] at hop <;> simp only [strOp, binOp, Op.stringOp, ← Go.Lib.toList_data] <;>
    first
    | exact gives_none
    | exact gives_ok1 rfl (rep_bool.2 rfl)
    | (refine gives_if (u := .string (x ++ y)) (fun h => ?_) (rep_str.2 rfl); have h' : x.size + y.size ≤ catMax := by simpa using h
       have : ¬ ((x.size + y.size : Nat) : Int) > IntKind.i64.max := by
         have : IntKind.i64.max = 9223372036854775807 := rfl
         unfold catMax at h'
         omega
       rw [if_neg this]; rfl)
end
end Go.Proofs.YtmmooplcdkmapaaGreatDoor.K

set_option maxHeartbeats 40000
set_option linter.unusedVariables false
set_option linter.unusedSimpArgs false
namespace Go.Proofs.YtmmooplcdkmapaaGreatDoor.K
open Go Go.RowKit

section
variable {C : Cfg} {m : Nat → Value} {L : Heap} {w : World} {S : Nat → Nat → Prop}

theorem eqGuard_ok {op : BinOp} {t : TypeId} {x y : Operand} {a b : Value} (h : C.P.eqGuardType C.P.depth t = false) (ha : a ≠ .nilIface) : (eqGuard op t x y a b).run C.P w = .ok () w := by
  unfold eqGuard
  split
  all_goals simp only [Bool.not_true, Bool.not_false, Bool.false_eq_true, if_false, if_true]
  all_goals first
    | rfl
    | (split
       · exact absurd rfl ha
       · simp [h, Sem.run_pure, program, Sem.run]
       · simp [Sem.run_pure])

theorem noAgg_guard {op : BinOp} {t : TypeId} {x y : Operand} {a b : Value} (ha : a ≠ .nilIface) (hb : ∀ c, a ≠ .agg c) : (eqGuard op t x y a b).run C.P w = .ok () w := by
  unfold eqGuard
  split
  all_goals simp only [Bool.not_true, Bool.not_false, Bool.false_eq_true, if_false, if_true]
  all_goals first
    | rfl
    | (split
       · exact absurd rfl ha
       · exact absurd rfl (hb _)
       · simp [Sem.run_pure])

theorem gives_guarded {op : BinOp} {t : TypeId} {x y : Operand} {a b : Value} {r : R} (hg : (eqGuard op t x y a b).run C.P w = .ok () w) (h : Gives C m L w S (binOp op t a b) r) :
    Gives C m L w S (do eqGuard op t x y a b; binOp op t a b) r := by
  intro z hz
  obtain ⟨u, h1, h2⟩ := h z hz
  exact ⟨u, by simp only [Sem.run_bind, hg, Result.andThen_ok, h1], h2⟩

theorem gives_eqOp {op : BinOp} {t : TypeId} {τ : ETy} {x y : τ.I} {u v : Value} {xo yo : Operand} (hx : RepV w S τ x u) (hy : RepV w S τ y v)
    (hbin : binOp .eql t u v = (do pure (.bool (← Op.equal t u v)))) (hbin' : binOp .neq t u v = (do pure (.bool (!(← Op.equal t u v))))) (hu : u ≠ .nilIface) :
    Gives C m L w S (do eqGuard op t xo yo u v; binOp op t u v) (eqOp C op t τ x y) := by
  unfold eqOp
  split
  · rename_i h
    simp only [Bool.and_eq_true, Bool.not_eq_true', decide_eq_true_eq] at h
    obtain ⟨⟨h1, h2⟩, h3⟩ := h
    obtain ⟨cx, hx1, rfl⟩ := hx
    obtain ⟨cy, hy1, rfl⟩ := hy
    have e := run_eqI (P := C.P) (w := w) (D := Op.maxDepth) h1 h3 hx1 hy1
    cases op <;> first
      | exact gives_none
      | (refine gives_guarded (eqGuard_ok h2 hu) (gives_ok1 ?_ (rep_bool.2 rfl)); rw [hbin]; simp only [Op.equal, Sem.run_bind, e, Result.andThen_ok, Sem.run_pure])
      | (refine gives_guarded (eqGuard_ok h2 hu) (gives_ok1 ?_ (rep_bool.2 rfl)); rw [hbin']; simp only [Op.equal, Sem.run_bind, e, Result.andThen_ok, Sem.run_pure])
  · exact gives_none

theorem rep_agg {τ : ETy} {x : τ.I} {u : Value} (ha : τ.agg = true) (h : RepV w S τ x u) : ∃ cs : List Value, u = .agg cs.toArray ∧ RepC w S τ x cs := by
  obtain ⟨cs, h1, rfl⟩ := h
  exact ⟨cs, by simp [valOf, ha], h1⟩

theorem gives_bin {op : BinOp} {t : TypeId} {a b : AV} {u v : Value} {xo yo : Operand} (hx : RepA m L w S a u) (hy : RepA m L w S b v) :
    Gives C m L w S (do eqGuard op t xo yo u v; binOp op t u v) (binA C op t a b) := by
  have aggcase : ∀ (τ : ETy), τ.agg = true → ∀ (x : τ.I) (σ : ETy) (y : σ.I), RepA m L w S (.v τ x) u → RepA m L w S (.v σ y) v → 
      Gives C m L w S (do eqGuard op t xo yo u v; binOp op t u v) ((castI σ τ y).bind fun y => eqOp C op t τ x y) := by
    intro τ ha x σ y hx hy
    cases hc : castI σ τ y with
    | some y' =>
      obtain ⟨rfl, rfl⟩ := castI_eq hc
      simp only [Option.bind_some]
      rw [rep_v] at hx hy
      obtain ⟨cx, rfl, hx1⟩ := rep_agg ha hx
      obtain ⟨cy, rfl, hy1⟩ := rep_agg ha hy
      exact gives_eqOp hx hy rfl rfl (by simp)
    | none => exact gives_none
  unfold binA
  split
  · rename_i k x k' y
    rw [rep_int] at hx hy
    subst hx; subst hy
    refine gives_guarded wf_noagg ?_
    split
    · refine gives_if (u := .int k _) (fun h => ?_) (rep_int.2 rfl)
      have h' : ¬ (y : Int) < 0 := Int.not_lt.2 (of_decide_eq_true h)
      simp [binOp, Op.shift, h', Sem.run_pure]
    · refine gives_if (u := .int k _) (fun h => ?_) (rep_int.2 rfl)
      have h' : ¬ (y : Int) < 0 := Int.not_lt.2 (of_decide_eq_true h)
      simp [binOp, Op.shift, h', Sem.run_pure]
    · rename_i h1 h2
      split
      · rename_i e; subst e
        exact gives_intOp (by cases op <;> first | rfl | exact absurd rfl h1 | exact absurd rfl h2)
      · exact gives_none
  · rename_i x y
    have hx' := hx; have hy' := hy
    rw [rep_bool] at hx' hy'
    subst hx'; subst hy'
    rw [rep_v] at hx hy
    exact gives_eqOp hx hy rfl rfl (by simp)
  · rename_i x y
    rw [rep_str] at hx hy
    subst hx; subst hy
    refine gives_guarded (noAgg_guard (by simp) (by simp)) ?_
    by_cases hs : isShift op = true
    · have : strOp op x y = none := by cases op <;> simp [isShift] at hs <;> rfl
      rw [this]; exact gives_none
    · exact gives_strOp (by simpa using hs)
  · rename_i a b x σ y
    exact aggcase (.pair a b) rfl x σ y hx hy
  · rename_i n e x σ y
    exact aggcase (.arr n e) rfl x σ y hx hy
  · exact gives_none

theorem gives_un {op : UnOp} {a : AV} {u : Value} (hx : RepA m L w S a u) : Gives C m L w S (Op.unary op u) (unA op a) := by
  unfold unA
  split
  · rename_i k x
    rw [rep_int] at hx
    subst hx
    cases op <;> first | exact gives_none | exact gives_ok1 rfl (rep_int.2 rfl)
  · rename_i b
    rw [rep_bool] at hx
    subst hx
    cases op <;> first | exact gives_none | exact gives_ok1 rfl (rep_bool.2 rfl)
  · exact gives_none

theorem und_int {t : TypeId} {k : IntKind} (h : GoodTy C.P t (.int k)) : C.P.underlying t = some (.int k) := by
  obtain ⟨d, hd, _ha, h2⟩ := h.und
  cases d <;> simp [descOK] at h2
  subst h2; exact hd

theorem und_str {t : TypeId} (h : GoodTy C.P t .str) : C.P.underlying t = some .string := by
  obtain ⟨d, hd, _ha, h2⟩ := h.und
  cases d <;> simp [descOK] at h2
  exact hd

theorem isAgg_of {te : TypeId} {e : ETy} (h : (C.P.underlying te).map aggD = some e.agg) (w : World) : (isAgg te).run C.P w = .ok e.agg w := by
  cases hu : C.P.underlying te with
  | none => simp [hu] at h
  | some d =>
    simp [hu] at h
    simp only [isAgg, Sem.run_bind, run_underlying hu, Result.andThen_ok]
    cases d <;> simp [aggD] at h <;> simp [← h, Sem.run_pure]

theorem und_slice {t : TypeId} {e : ETy} (h : GoodTy C.P t (.slice e)) : ∃ te i, C.P.underlying t = some (.slice te) ∧ C.P.info? te = some i ∧ i.size = e.size ∧ i.bytes ≤ 65536 ∧ (C.P.underlying te).map aggD = some e.agg := by
  obtain ⟨d, hd, _ha, h2⟩ := h.und
  clear _ha
  cases d <;> simp [descOK] at h2
  rename_i te
  obtain ⟨⟨⟨i, hi, h3⟩, h5⟩, h4⟩ := h2
  simp [hi] at h4
  exact ⟨te, i, hd, hi, h3, h4, by simpa using h5⟩

theorem und_arr {t : TypeId} {n : Nat} {e : ETy} (h : GoodTy C.P t (.arr n e)) : ∃ te i, C.P.underlying t = some (.array n te) ∧ C.P.info? te = some i ∧ i.size = e.size ∧ (C.P.underlying te).map aggD = some e.agg := by
  obtain ⟨d, hd, _ha, h2⟩ := h.und
  clear _ha
  cases d <;> simp [descOK] at h2
  rename_i m te
  obtain ⟨⟨rfl, i, hi, h3⟩, h4⟩ := h2
  exact ⟨te, i, hd, hi, h3, by simpa using h4⟩

theorem gives_conv (hC : C.OK) {s d : TypeId} {a : AV} {u : Value} (hx : RepA m L w S a u) : Gives C m L w S (convert s d u) (convA C s d a) := by
  unfold convA
  split
  · rename_i k x
    rw [rep_int] at hx
    subst hx
    split
    · rename_i k1 k2 h1 h2
      refine gives_ok1 ?_ (rep_int.2 rfl)
      simp [convert, run_underlying (und_int (hC.ty _ _ h1)), run_underlying (und_int (hC.ty _ _ h2)), Conv.intToInt, Sem.run_pure]
    · rename_i k1 h1 h2
      refine gives_ok1 ?_ (rep_str.2 rfl)
      simp [convert, run_underlying (und_int (hC.ty _ _ h1)), run_underlying (und_str (hC.ty _ _ h2)), Conv.intToString, Sem.run_pure]
    · exact gives_none
  · rename_i x
    rw [rep_str] at hx
    subst hx
    split
    · rename_i h1 h2
      refine gives_ok1 ?_ (rep_str.2 rfl)
      simp [convert, run_underlying (und_str (hC.ty _ _ h1)), run_underlying (und_str (hC.ty _ _ h2)), Sem.run_pure]
    · exact gives_none
  · exact gives_none

/-! ### Parts of values -/
def extractA (i : Nat) : AV → R
  | .tup l => (l[i]?).map fun a => (true, a)
  | _ => none

theorem repAs_get : ∀ {l : List AV} {vs : List Value}, RepAs m L w S l vs → ∀ (i : Nat) (a : AV), l[i]? = some a → ∃ u, vs[i]? = some u ∧ RepA m L w S a u
  | [], vs, h, i, a, hi => by simp at hi
  | x :: l, vs, h, 0, a, hi => by
    simp only [RepAs] at h
    obtain ⟨u, r, rfl, h1, h2⟩ := h
    simp at hi; subst hi
    exact ⟨u, by simp, h1⟩
  | x :: l, vs, h, i + 1, a, hi => by
    simp only [RepAs] at h
    obtain ⟨u, r, rfl, h1, h2⟩ := h
    simpa using repAs_get h2 i a (by simpa using hi)

theorem gives_extract {i : Nat} {a : AV} {u : Value} (hx : RepA m L w S a u) : Gives C m L w S (Instr.extract u i) (extractA i a) := by
  unfold extractA
  split
  · rename_i l
    simp only [RepA] at hx
    obtain ⟨vs, rfl, h⟩ := hx
    intro b hb
    simp only [Option.map_eq_some_iff, Prod.mk.injEq, true_and] at hb
    obtain ⟨a, ha, rfl⟩ := hb
    obtain ⟨u, hu, hr⟩ := repAs_get h i a ha
    exact ⟨u, by simp [Instr.extract, hu, Sem.run_pure], hr⟩
  · exact gives_none

theorem tyP_fld_none {τ : ETy} {i : Nat} (h : tyP τ [.fld i] = none) : tyP τ [.fld (i + 1)] = none := by
  induction τ generalizing i with
  | pair a b iha ihb => cases i with
    | zero => simp [tyP] at h
    | succ i => simp only [tyP] at h ⊢; exact ihb h
  | _ => simp [tyP]

/-- A field of a struct's type: which part it is. -/
theorem field_of {t : TypeId} {τ σ : ETy} (h : GoodTy C.P t τ) {f : Nat} (hs : tyP τ [.fld f] = some σ) :
    ∃ fs fd i, C.P.underlying t = some (.struct fs) ∧ fs[f]? = some fd ∧ fd.offset = off τ [.fld f] ∧ C.P.info? fd.type = some i ∧ i.size = σ.size ∧ (C.P.underlying fd.type).map aggD = some σ.agg := by
  obtain ⟨d, hd, _ha, h2⟩ := h.und
  have hp : ∃ a b, τ = .pair a b := by
    cases τ with
    | pair a b => exact ⟨a, b, rfl⟩
    | _ => simp [tyP] at hs
  obtain ⟨a, b, rfl⟩ := hp
  cases d <;> simp [descOK] at h2
  rename_i fs
  have key : ∀ (l : List Field) (k : Nat), fieldsOK C.P (.pair a b) k l = true → ∀ j σ, tyP (.pair a b) [.fld (k + j)] = some σ → ∃ g i, l[j]? = some g ∧ g.offset = off (.pair a b) [.fld (k + j)] ∧ C.P.info? g.type = some i ∧ i.size = σ.size ∧ (C.P.underlying g.type).map aggD = some σ.agg := by
    intro l
    induction l with
    | nil =>
      intro k hk j σ hj
      simp only [fieldsOK, Option.isNone_iff_eq_none] at hk
      exfalso
      have : ∀ j, tyP (.pair a b) [.fld (k + j)] = none := by
        intro j
        induction j with
        | zero => exact hk
        | succ j ih => exact tyP_fld_none ih
      rw [this j] at hj
      cases hj
    | cons g l ih =>
      intro k hk j σ hj
      simp only [fieldsOK, Bool.and_eq_true] at hk
      cases j with
      | zero =>
        rw [Nat.add_zero] at hj
        obtain ⟨hk, _⟩ := hk
        rw [hj] at hk
        simp only [Bool.and_eq_true, beq_iff_eq] at hk
        obtain ⟨⟨h1, h2⟩, h4⟩ := hk
        obtain ⟨i, h2, h3⟩ := Option.map_eq_some_iff.1 h2
        rw [Nat.add_zero]
        exact ⟨g, i, rfl, h1, h2, h3, h4⟩
      | succ j =>
        have := ih (k + 1) hk.2 j σ (by rwa [show k + 1 + j = k + (j + 1) by omega])
        rw [show k + 1 + j = k + (j + 1) by omega] at this
        obtain ⟨g', i', q1, q⟩ := this
        exact ⟨g', i', by simpa using q1, q⟩
  obtain ⟨g, i, h1, h3, h4, h5, h6⟩ := key fs.toList 0 h2.2 f σ (by rw [Nat.zero_add]; exact hs)
  rw [Nat.zero_add] at h3
  exact ⟨fs, g, i, hd, by simpa using h1, h3, h4, h5, h6⟩
end
end Go.Proofs.YtmmooplcdkmapaaGreatDoor.K

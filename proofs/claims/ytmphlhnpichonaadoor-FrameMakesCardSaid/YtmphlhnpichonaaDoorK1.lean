/- Typed data for Go values: what a datum is, which cells of memory hold it, and its parts. -/
import Derived.WalkKit
import Derived.KernelRfl
import Derived.Deep.Draws
import Derived.Laws.IdiomCopy
import Derived.Orders
import Derived.OwnWalk
set_option linter.unusedVariables false
set_option linter.unusedSimpArgs false
namespace Go.Proofs.YtmphlhnpichonaaDoor.K
open Go Go.RowKit

/-- Kinds of opaque values: an interface's, a function's, a pointer's. -/
inductive RK where
  | iface | func | ptr
  deriving DecidableEq
def RK.zero : RK → Value
  | .iface => .nilIface
  | .func => .nilFunc
  | .ptr => .pointer none
theorem RK.zero_one (k : RK) : k.zero.oneCell' = true := by cases k <;> rfl

/-- The types of data. -/
inductive ETy where
  | int (k : IntKind) | bool | str | raw (k : RK) | unit
  | pair (a b : ETy) | arr (n : Nat) (e : ETy) | slice (e : ETy)
  deriving DecidableEq

/-- What a datum of a type is. -/
@[reducible] def ETy.I : ETy → Type
  | .int _ => Int
  | .bool => Bool
  | .str => ByteArray
  | .raw _ => Value
  | .unit => Unit
  | .pair a b => a.I × b.I
  | .arr _ e => List e.I
  | .slice e => List e.I

/-- How many cells it takes. -/
def ETy.size : ETy → Nat
  | .int _ => 1
  | .bool => 1
  | .str => 1
  | .raw _ => 1
  | .unit => 0
  | .pair a b => a.size + b.size
  | .arr n e => n * e.size
  | .slice _ => 1

/-- Is its value an aggregate? -/
def ETy.agg : ETy → Bool
  | .unit => true
  | .pair _ _ => true
  | .arr _ _ => true
  | _ => false

/-- The zero datum. -/
def ETy.z : (τ : ETy) → τ.I
  | .int _ => (0 : Int)
  | .bool => false
  | .str => (⟨#[]⟩ : ByteArray)
  | .raw k => k.zero
  | .unit => ()
  | .pair a b => (a.z, b.z)
  | .arr n e => List.replicate n e.z
  | .slice _ => []

/-- A list of data laid one behind the other. -/
def RepL {α : Type} (R : α → List Value → Prop) : List α → List Value → Prop
  | [], cs => cs = []
  | x :: xs, cs => ∃ c d, cs = c ++ d ∧ R x c ∧ RepL R xs d

/-- The cells of a datum; what lies behind its slices is protected by 'S'. -/
def RepC (w : World) (S : Nat → Nat → Prop) : (τ : ETy) → τ.I → List Value → Prop
  | .int k, n, cs => cs = [.int k n]
  | .bool, b, cs => cs = [.bool b]
  | .str, s, cs => cs = [.string s]
  | .raw _, x, cs => cs = [x] ∧ x.oneCell' = true
  | .unit, _, cs => cs = []
  | .pair a b, x, cs => ∃ c d, cs = c ++ d ∧ RepC w S a x.1 c ∧ RepC w S b x.2 d
  | .arr n e, xs, cs => xs.length = n ∧ RepL (RepC w S e) xs cs
  | .slice e, xs, cs => ∃ A cap, cs = [.slice A xs.length cap] ∧ xs.length ≤ cap ∧ (xs = [] ∨ ∃ b o ds, A = some ⟨b, o, none⟩ ∧ RepL (RepC w S e) xs ds ∧ ∀ j (h : j < ds.length), w.cell? ⟨b, o + j, none⟩ = some ds[j] ∧ S b (o + j))

section
variable {w w' : World} {S S' : Nat → Nat → Prop}

theorem RepL.length {α : Type} {R : α → List Value → Prop} {s : Nat} (h : ∀ x c, R x c → c.length = s) : ∀ {xs : List α} {cs : List Value}, RepL R xs cs → cs.length = xs.length * s
  | [], cs, hr => by simp only [RepL] at hr; simp [hr]
  | x :: xs, cs, hr => by
    obtain ⟨c, d, rfl, h1, h2⟩ := hr
    have := RepL.length h h2
    simp [h _ _ h1, this, Nat.succ_mul, Nat.add_comm]

theorem RepC.length : ∀ {τ : ETy} {x : τ.I} {cs : List Value}, RepC w S τ x cs → cs.length = τ.size
  | .int k, x, cs, h => by simp only [RepC] at h; simp [h, ETy.size]
  | .bool, x, cs, h => by simp only [RepC] at h; simp [h, ETy.size]
  | .str, x, cs, h => by simp only [RepC] at h; simp [h, ETy.size]
  | .raw _, x, cs, h => by simp only [RepC] at h; simp [h.1, ETy.size]
  | .unit, x, cs, h => by simp only [RepC] at h; simp [h, ETy.size]
  | .pair a b, x, cs, h => by
    obtain ⟨c, d, rfl, h1, h2⟩ := h
    simp [RepC.length h1, RepC.length h2, ETy.size]
  | .arr n e, x, cs, h => by
    obtain ⟨h0, h1⟩ := h
    rw [RepL.length (fun x c h => RepC.length h) h1, h0]; rfl
  | .slice e, x, cs, h => by
    obtain ⟨A, cap, rfl, _⟩ := h
    rfl

theorem RepL.mono {α : Type} {R R' : α → List Value → Prop} (h : ∀ x c, R x c → R' x c) : ∀ {xs : List α} {cs : List Value}, RepL R xs cs → RepL R' xs cs
  | [], cs, hr => hr
  | x :: xs, cs, hr => by
    obtain ⟨c, d, rfl, h1, h2⟩ := hr
    exact ⟨c, d, rfl, h _ _ h1, RepL.mono h h2⟩

/-- The protected cells read as they did; what was protected is. -/
structure Safe (S S' : Nat → Nat → Prop) (w w' : World) : Prop where
  sub : ∀ b o, S b o → S' b o
  cell : ∀ b o, S b o → w'.cell? ⟨b, o, none⟩ = w.cell? ⟨b, o, none⟩

theorem Safe.refl (S : Nat → Nat → Prop) (w : World) : Safe S S w w := ⟨fun _ _ h => h, fun _ _ _ => rfl⟩
theorem Safe.trans {S1 S2 S3 : Nat → Nat → Prop} {w1 w2 w3 : World} (h : Safe S1 S2 w1 w2) (k : Safe S2 S3 w2 w3) : Safe S1 S3 w1 w3 :=
  ⟨fun b o hs => k.sub _ _ (h.sub _ _ hs), fun b o hs => (k.cell _ _ (h.sub _ _ hs)).trans (h.cell _ _ hs)⟩

theorem RepC.safe (hs : Safe S S' w w') : ∀ {τ : ETy} {x : τ.I} {cs : List Value}, RepC w S τ x cs → RepC w' S' τ x cs
  | .int k, x, cs, h => h
  | .bool, x, cs, h => h
  | .str, x, cs, h => h
  | .raw _, x, cs, h => h
  | .unit, x, cs, h => h
  | .pair a b, x, cs, h => by
    obtain ⟨c, d, rfl, h1, h2⟩ := h
    exact ⟨c, d, rfl, RepC.safe hs h1, RepC.safe hs h2⟩
  | .arr n e, x, cs, h => ⟨h.1, RepL.mono (fun x c h => RepC.safe hs h) h.2⟩
  | .slice e, x, cs, h => by
    obtain ⟨A, cap, rfl, hc, h⟩ := h
    refine ⟨A, cap, rfl, hc, h.imp id ?_⟩
    rintro ⟨b, o, ds, rfl, h1, h2⟩
    exact ⟨b, o, ds, rfl, RepL.mono (fun x c h => RepC.safe hs h) h1, fun j hj => ⟨(hs.cell _ _ (h2 j hj).2).trans (h2 j hj).1, hs.sub _ _ (h2 j hj).2⟩⟩

theorem RepL.one {α : Type} {R : α → List Value → Prop} (h : ∀ x c, R x c → ∀ u ∈ c, u.oneCell' = true) : ∀ {xs : List α} {cs : List Value}, RepL R xs cs → ∀ u ∈ cs, u.oneCell' = true
  | [], cs, hr, u, hu => by simp only [RepL] at hr; simp [hr] at hu
  | x :: xs, cs, hr, u, hu => by
    obtain ⟨c, d, rfl, h1, h2⟩ := hr
    rcases List.mem_append.1 hu with hu | hu
    · exact h _ _ h1 u hu
    · exact RepL.one h h2 u hu

theorem RepC.one : ∀ {τ : ETy} {x : τ.I} {cs : List Value}, RepC w S τ x cs → ∀ u ∈ cs, u.oneCell' = true
  | .int k, x, cs, h, u, hu => by simp only [RepC] at h; simp [h] at hu; subst hu; rfl
  | .bool, x, cs, h, u, hu => by simp only [RepC] at h; simp [h] at hu; subst hu; rfl
  | .str, x, cs, h, u, hu => by simp only [RepC] at h; simp [h] at hu; subst hu; rfl
  | .raw _, x, cs, h, u, hu => by simp only [RepC] at h; simp [h.1] at hu; subst hu; exact h.2
  | .unit, x, cs, h, u, hu => by simp only [RepC] at h; simp [h] at hu
  | .pair a b, x, cs, h, u, hu => by
    obtain ⟨c, d, rfl, h1, h2⟩ := h
    rcases List.mem_append.1 hu with hu | hu
    · exact RepC.one h1 u hu
    · exact RepC.one h2 u hu
  | .arr n e, x, cs, h, u, hu => RepL.one (fun x c h => RepC.one h) h.2 u hu
  | .slice e, x, cs, h, u, hu => by
    obtain ⟨A, cap, rfl, _⟩ := h
    simp at hu; subst hu; rfl

theorem RepL.append {α : Type} {R : α → List Value → Prop} : ∀ {xs ys : List α} {cs ds : List Value}, RepL R xs cs → RepL R ys ds → RepL R (xs ++ ys) (cs ++ ds)
  | [], ys, cs, ds, h, k => by simp only [RepL] at h; simpa [h] using k
  | x :: xs, ys, cs, ds, h, k => by
    obtain ⟨c, d, rfl, h1, h2⟩ := h
    exact ⟨c, d ++ ds, by simp, h1, RepL.append h2 k⟩

/-- A list of data, at one place: what stands there, and what may stand there. -/
theorem RepL.at_ {α : Type} {R : α → List Value → Prop} {s : Nat} (hl : ∀ x c, R x c → c.length = s) (z : α) : ∀ {xs : List α} {cs : List Value} (i : Nat), RepL R xs cs → i < xs.length →
    ∃ pre mid post, cs = pre ++ mid ++ post ∧ pre.length = i * s ∧ R (xs.getD i z) mid ∧ ∀ y m, R y m → RepL R (xs.set i y) (pre ++ m ++ post)
  | [], cs, i, h, hi => by simp at hi
  | x :: xs, cs, 0, h, hi => by
    obtain ⟨c, d, rfl, h1, h2⟩ := h
    exact ⟨[], c, d, by simp, by simp, by simpa using h1, fun y m hy => ⟨m, d, by simp, hy, h2⟩⟩
  | x :: xs, cs, i + 1, h, hi => by
    obtain ⟨c, d, rfl, h1, h2⟩ := h
    obtain ⟨pre, mid, post, rfl, e1, e2, e3⟩ := RepL.at_ hl z i h2 (by simpa using hi)
    refine ⟨c ++ pre, mid, post, by simp, by simp [hl _ _ h1, e1, Nat.succ_mul, Nat.add_comm], by simpa using e2, fun y m hy => ?_⟩
    exact ⟨c, pre ++ m ++ post, by simp, h1, e3 y m hy⟩

/-- The data from one place to another. -/
theorem RepL.take {α : Type} {R : α → List Value → Prop} {s : Nat} (hl : ∀ x c, R x c → c.length = s) : ∀ {xs : List α} {cs : List Value} (i : Nat), RepL R xs cs → RepL R (xs.take i) (cs.take (i * s)) ∧ RepL R (xs.drop i) (cs.drop (i * s))
  | xs, cs, 0, h => by simpa [RepL] using h
  | [], cs, i + 1, h => by simp only [RepL] at h; simp [h, RepL]
  | x :: xs, cs, i + 1, h => by
    obtain ⟨c, d, rfl, h1, h2⟩ := h
    have hc := hl _ _ h1
    obtain ⟨t1, t2⟩ := RepL.take hl i h2
    have e : (i + 1) * s = c.length + i * s := by rw [hc, Nat.succ_mul, Nat.add_comm]
    rw [e]
    refine ⟨⟨c, d.take (i * s), ?_, h1, t1⟩, ?_⟩
    · rw [List.take_append, List.take_of_length_le (by omega)]; simp
    · have e2 : (c ++ d).drop (c.length + i * s) = d.drop (i * s) := by simp [List.drop_append]
      rw [e2]; exact t2

/-! ### Places within a datum -/
inductive PStep where
  | fld (k : Nat) | idx (i : Nat)

def okP : (T : ETy) → List PStep → Prop
  | _, [] => True
  | .pair a _, .fld 0 :: p => okP a p
  | .pair _ b, .fld (k + 1) :: p => okP b (.fld k :: p)
  | .arr n e, .idx i :: p => i < n ∧ okP e p
  | _, _ => False

def off : (T : ETy) → List PStep → Nat
  | _, [] => 0
  | .pair a _, .fld 0 :: p => off a p
  | .pair a b, .fld (k + 1) :: p => a.size + off b (.fld k :: p)
  | .arr _ e, .idx i :: p => i * e.size + off e p
  | _, _ => 0

def tyP : (T : ETy) → List PStep → Option ETy
  | T, [] => some T
  | .pair a _, .fld 0 :: p => tyP a p
  | .pair _ b, .fld (k + 1) :: p => tyP b (.fld k :: p)
  | .arr _ e, .idx _ :: p => tyP e p
  | _, _ => none

/-- A datum and its type. -/
structure Dat where
  τ : ETy
  x : τ.I

def getP : (T : ETy) → T.I → List PStep → Option Dat
  | T, x, [] => some ⟨T, x⟩
  | .pair a _, x, .fld 0 :: p => getP a x.1 p
  | .pair _ b, x, .fld (k + 1) :: p => getP b x.2 (.fld k :: p)
  | .arr _ e, xs, .idx i :: p => getP e (List.getD xs i e.z) p
  | _, _, _ => none

def castI (τ T : ETy) (x : τ.I) : Option T.I := if h : τ = T then some (h ▸ x) else none

def setP : (T : ETy) → T.I → List PStep → Dat → Option T.I
  | T, _, [], d => castI d.τ T d.x
  | .pair a _, x, .fld 0 :: p, d => (setP a x.1 p d).map fun y => (y, x.2)
  | .pair _ b, x, .fld (k + 1) :: p, d => (setP b x.2 (.fld k :: p) d).map fun y => (x.1, y)
  | .arr _ e, xs, .idx i :: p, d => (setP e (List.getD xs i e.z) p d).map fun y => List.set xs i y
  | _, _, _, _ => none

theorem castI_eq {τ T : ETy} {x : τ.I} {y : T.I} (h : castI τ T x = some y) : ∃ e : τ = T, y = e ▸ x := by
  unfold castI at h
  split at h
  · rename_i e; exact ⟨e, by simpa using h.symm⟩
  · simp at h

theorem getP_rep : ∀ {T : ETy} {x : T.I} {p : List PStep} {cs : List Value} {d : Dat}, okP T p → RepC w S T x cs → getP T x p = some d →
    ∃ pre mid post, cs = pre ++ mid ++ post ∧ pre.length = off T p ∧ RepC w S d.τ d.x mid ∧
      ∀ (e : Dat) (y : T.I) (m : List Value), RepC w S e.τ e.x m → setP T x p e = some y → e.τ = d.τ ∧ RepC w S T y (pre ++ m ++ post)
  | T, x, [], cs, d, hp, hr, hg => by
    simp only [getP, Option.some.injEq] at hg
    subst hg
    refine ⟨[], cs, [], by simp, by simp [off], hr, fun e y m he hs => ?_⟩
    simp only [setP] at hs
    obtain ⟨h, rfl⟩ := castI_eq hs
    refine ⟨h, ?_⟩
    cases e with | mk τ x => cases h; simpa using he
  | .pair a b, x, .fld 0 :: p, cs, d, hp, hr, hg => by
    obtain ⟨c1, c2, rfl, h1, h2⟩ := hr
    simp only [okP] at hp
    simp only [getP] at hg
    obtain ⟨pre, mid, post, rfl, e1, e2, e3⟩ := getP_rep hp h1 hg
    refine ⟨pre, mid, post ++ c2, by simp, by simp [off, e1], e2, fun e y m he hs => ?_⟩
    simp only [setP, Option.map_eq_some_iff] at hs
    obtain ⟨y', hy, rfl⟩ := hs
    obtain ⟨q1, q2⟩ := e3 e y' m he hy
    exact ⟨q1, _, c2, by simp, q2, h2⟩
  | .pair a b, x, .fld (k + 1) :: p, cs, d, hp, hr, hg => by
    obtain ⟨c1, c2, rfl, h1, h2⟩ := hr
    simp only [okP] at hp
    simp only [getP] at hg
    obtain ⟨pre, mid, post, rfl, e1, e2, e3⟩ := getP_rep hp h2 hg
    refine ⟨c1 ++ pre, mid, post, by simp, by simp [off, e1, RepC.length h1], e2, fun e y m he hs => ?_⟩
    simp only [setP, Option.map_eq_some_iff] at hs
    obtain ⟨y', hy, rfl⟩ := hs
    obtain ⟨q1, q2⟩ := e3 e y' m he hy
    exact ⟨q1, c1, _, by simp, h1, q2⟩
  | .arr n e, xs, .idx i :: p, cs, d, hp, hr, hg => by
    obtain ⟨h0, h1⟩ := hr
    simp only [okP] at hp
    simp only [getP] at hg
    obtain ⟨pre, mid, post, rfl, e1, e2, e3⟩ := RepL.at_ (s := e.size) (fun x c h => RepC.length h) e.z i h1 (by rw [h0]; exact hp.1)
    obtain ⟨pre', mid', post', rfl, f1, f2, f3⟩ := getP_rep hp.2 e2 hg
    refine ⟨pre ++ pre', mid', post' ++ post, by simp, by simp [off, e1, f1], f2, fun e' y m he hs => ?_⟩
    simp only [setP, Option.map_eq_some_iff] at hs
    obtain ⟨y', hy, rfl⟩ := hs
    obtain ⟨q1, q2⟩ := f3 e' y' m he hy
    refine ⟨q1, by simp [h0], ?_⟩
    have := e3 y' _ q2
    simpa using this
  | .int _, _, .fld _ :: _, _, _, hp, _, _ | .int _, _, .idx _ :: _, _, _, hp, _, _ | .bool, _, .fld _ :: _, _, _, hp, _, _ | .bool, _, .idx _ :: _, _, _, hp, _, _
  | .str, _, .fld _ :: _, _, _, hp, _, _ | .str, _, .idx _ :: _, _, _, hp, _, _ | .raw _, _, .fld _ :: _, _, _, hp, _, _ | .raw _, _, .idx _ :: _, _, _, hp, _, _
  | .unit, _, .fld _ :: _, _, _, hp, _, _ | .unit, _, .idx _ :: _, _, _, hp, _, _ | .slice _, _, .fld _ :: _, _, _, hp, _, _ | .slice _, _, .idx _ :: _, _, _, hp, _, _
  | .pair _ _, _, .idx _ :: _, _, _, hp, _, _ | .arr _ _, _, .fld _ :: _, _, _, hp, _, _ => by simp [okP] at hp
end
end Go.Proofs.YtmphlhnpichonaaDoor.K

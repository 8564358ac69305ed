/- What functions of the program come to, and their laws. -/
import Derived.WalkKit
import Derived.KernelRfl
import Derived.Deep.Draws
import Derived.Laws.IdiomCopy
import Derived.Orders
import Derived.OwnWalk
import Derived.ChangeKeysEq
import Derived.Laws.BytesArg
import Derived.Lib.Strings
import Derived.Maps.AppendAt
import Derived.Laws.Tables
import Derived.Lib.ConvBytes
import Derived.Laws.BytesString
import Derived.Laws.MakeOwn
import Derived.Laws.OwnMore
namespace Go.Proofs.YtlcomipbinfooaaGreatDoor.K
open Go Go.RowKit
section
set_option linter.unusedVariables false
set_option linter.unusedSimpArgs false
inductive RK where
  | iface | func | ptr
  deriving DecidableEq
def RK.zero : RK → Value
  | .iface => .nilIface
  | .func => .nilFunc
  | .ptr => .pointer none
theorem RK.zero_one (k : RK) : k.zero.oneCell' = true := by cases k <;> rfl
inductive ETy where
  | int (k : IntKind) | bool | str | raw (k : RK) | unit
  | pair (a b : ETy) | arr (n : Nat) (e : ETy) | slice (e : ETy)
  deriving DecidableEq
@[reducible] def ETy.I : ETy → Type
  | .int _ => Int
  | .bool => Bool
  | .str => ByteArray
  | .raw _ => Value
  | .unit => Unit
  | .pair a b => a.I × b.I
  | .arr _ e => List e.I
  | .slice e => List e.I
def ETy.size : ETy → Nat
  | .int _ => 1
  | .bool => 1
  | .str => 1
  | .raw _ => 1
  | .unit => 0
  | .pair a b => a.size + b.size
  | .arr n e => n * e.size
  | .slice _ => 1
def ETy.agg : ETy → Bool
  | .unit => true
  | .pair _ _ => true
  | .arr _ _ => true
  | _ => false
def ETy.z : (τ : ETy) → τ.I
  | .int _ => (0 : Int)
  | .bool => false
  | .str => (⟨#[]⟩ : ByteArray)
  | .raw k => k.zero
  | .unit => ()
  | .pair a b => (a.z, b.z)
  | .arr n e => List.replicate n e.z
  | .slice _ => []
def RepL {α : Type} (R : α → List Value → Prop) : List α → List Value → Prop
  | [], cs => cs = []
  | x :: xs, cs => ∃ c d, cs = c ++ d ∧ R x c ∧ RepL R xs d
def RepC (w : World) (S : Nat → Nat → Prop) : (τ : ETy) → τ.I → List Value → Prop
  | .int k, n, cs => cs = [.int k n]
  | .bool, b, cs => cs = [.bool b]
  | .str, s, cs => cs = [.string s]
  | .raw _, x, cs => cs = [x] ∧ x.oneCell' = true
  | .unit, _, cs => cs = []
  | .pair a b, x, cs => ∃ c d, cs = c ++ d ∧ RepC w S a x.1 c ∧ RepC w S b x.2 d
  | .arr n e, xs, cs => xs.length = n ∧ RepL (RepC w S e) xs cs
  | .slice e, xs, cs => ∃ A cap, cs = [.slice A xs.length cap] ∧ xs.length ≤ cap ∧ (xs = [] ∨ ∃ b o ds, A = some ⟨b, o, none⟩ ∧ RepL (RepC w S e) xs ds ∧ ∀ j (h : j < ds.length), w.cell? ⟨b, o + j, none⟩ = some ds[j] ∧ S b (o + j))
section
variable {w w' : World} {S S' : Nat → Nat → Prop}
theorem RepL.length {α : Type} {R : α → List Value → Prop} {s : Nat} (h : ∀ x c, R x c → c.length = s) : ∀ {xs : List α} {cs : List Value}, RepL R xs cs → cs.length = xs.length * s
  | [], cs, hr => by simp only [RepL] at hr; simp [hr]
  | x :: xs, cs, hr => by
    obtain ⟨c, d, rfl, h1, h2⟩ := hr
    have := RepL.length h h2
    simp [h _ _ h1, this, Nat.succ_mul, Nat.add_comm]
theorem RepC.length : ∀ {τ : ETy} {x : τ.I} {cs : List Value}, RepC w S τ x cs → cs.length = τ.size
  | .int k, x, cs, h => by simp only [RepC] at h; simp [h, ETy.size]
  | .bool, x, cs, h => by simp only [RepC] at h; simp [h, ETy.size]
  | .str, x, cs, h => by simp only [RepC] at h; simp [h, ETy.size]
  | .raw _, x, cs, h => by simp only [RepC] at h; simp [h.1, ETy.size]
  | .unit, x, cs, h => by simp only [RepC] at h; simp [h, ETy.size]
  | .pair a b, x, cs, h => by
    obtain ⟨c, d, rfl, h1, h2⟩ := h
    simp [RepC.length h1, RepC.length h2, ETy.size]
  | .arr n e, x, cs, h => by
    obtain ⟨h0, h1⟩ := h
    rw [RepL.length (fun x c h => RepC.length h) h1, h0]; rfl
  | .slice e, x, cs, h => by
    obtain ⟨A, cap, rfl, _⟩ := h
    rfl
theorem RepL.mono {α : Type} {R R' : α → List Value → Prop} (h : ∀ x c, R x c → R' x c) : ∀ {xs : List α} {cs : List Value}, RepL R xs cs → RepL R' xs cs
  | [], cs, hr => hr
  | x :: xs, cs, hr => by
    obtain ⟨c, d, rfl, h1, h2⟩ := hr
    exact ⟨c, d, rfl, h _ _ h1, RepL.mono h h2⟩
structure Safe (S S' : Nat → Nat → Prop) (w w' : World) : Prop where
  sub : ∀ b o, S b o → S' b o
  cell : ∀ b o, S b o → w'.cell? ⟨b, o, none⟩ = w.cell? ⟨b, o, none⟩
theorem Safe.refl (S : Nat → Nat → Prop) (w : World) : Safe S S w w := ⟨fun _ _ h => h, fun _ _ _ => rfl⟩
theorem Safe.trans {S1 S2 S3 : Nat → Nat → Prop} {w1 w2 w3 : World} (h : Safe S1 S2 w1 w2) (k : Safe S2 S3 w2 w3) : Safe S1 S3 w1 w3 :=
  ⟨fun b o hs => k.sub _ _ (h.sub _ _ hs), fun b o hs => (k.cell _ _ (h.sub _ _ hs)).trans (h.cell _ _ hs)⟩
theorem RepC.safe (hs : Safe S S' w w') : ∀ {τ : ETy} {x : τ.I} {cs : List Value}, RepC w S τ x cs → RepC w' S' τ x cs
  | .int k, x, cs, h => h
  | .bool, x, cs, h => h
  | .str, x, cs, h => h
  | .raw _, x, cs, h => h
  | .unit, x, cs, h => h
  | .pair a b, x, cs, h => by
    obtain ⟨c, d, rfl, h1, h2⟩ := h
    exact ⟨c, d, rfl, RepC.safe hs h1, RepC.safe hs h2⟩
  | .arr n e, x, cs, h => ⟨h.1, RepL.mono (fun x c h => RepC.safe hs h) h.2⟩
  | .slice e, x, cs, h => by
    obtain ⟨A, cap, rfl, hc, h⟩ := h
    refine ⟨A, cap, rfl, hc, h.imp id ?_⟩
    rintro ⟨b, o, ds, rfl, h1, h2⟩
    exact ⟨b, o, ds, rfl, RepL.mono (fun x c h => RepC.safe hs h) h1, fun j hj => ⟨(hs.cell _ _ (h2 j hj).2).trans (h2 j hj).1, hs.sub _ _ (h2 j hj).2⟩⟩
theorem RepL.one {α : Type} {R : α → List Value → Prop} (h : ∀ x c, R x c → ∀ u ∈ c, u.oneCell' = true) : ∀ {xs : List α} {cs : List Value}, RepL R xs cs → ∀ u ∈ cs, u.oneCell' = true
  | [], cs, hr, u, hu => by simp only [RepL] at hr; simp [hr] at hu
  | x :: xs, cs, hr, u, hu => by
    obtain ⟨c, d, rfl, h1, h2⟩ := hr
    rcases List.mem_append.1 hu with hu | hu
    · exact h _ _ h1 u hu
    · exact RepL.one h h2 u hu
theorem RepC.one : ∀ {τ : ETy} {x : τ.I} {cs : List Value}, RepC w S τ x cs → ∀ u ∈ cs, u.oneCell' = true
  | .int k, x, cs, h, u, hu => by simp only [RepC] at h; simp [h] at hu; subst hu; rfl
  | .bool, x, cs, h, u, hu => by simp only [RepC] at h; simp [h] at hu; subst hu; rfl
  | .str, x, cs, h, u, hu => by simp only [RepC] at h; simp [h] at hu; subst hu; rfl
  | .raw _, x, cs, h, u, hu => by simp only [RepC] at h; simp [h.1] at hu; subst hu; exact h.2
  | .unit, x, cs, h, u, hu => by simp only [RepC] at h; simp [h] at hu
  | .pair a b, x, cs, h, u, hu => by
    obtain ⟨c, d, rfl, h1, h2⟩ := h
    rcases List.mem_append.1 hu with hu | hu
    · exact RepC.one h1 u hu
    · exact RepC.one h2 u hu
  | .arr n e, x, cs, h, u, hu => RepL.one (fun x c h => RepC.one h) h.2 u hu
  | .slice e, x, cs, h, u, hu => by
    obtain ⟨A, cap, rfl, _⟩ := h
    simp at hu; subst hu; rfl
theorem RepL.append {α : Type} {R : α → List Value → Prop} : ∀ {xs ys : List α} {cs ds : List Value}, RepL R xs cs → RepL R ys ds → RepL R (xs ++ ys) (cs ++ ds)
  | [], ys, cs, ds, h, k => by simp only [RepL] at h; simpa [h] using k
  | x :: xs, ys, cs, ds, h, k => by
    obtain ⟨c, d, rfl, h1, h2⟩ := h
    exact ⟨c, d ++ ds, by simp, h1, RepL.append h2 k⟩
theorem RepL.at_ {α : Type} {R : α → List Value → Prop} {s : Nat} (hl : ∀ x c, R x c → c.length = s) (z : α) : ∀ {xs : List α} {cs : List Value} (i : Nat), RepL R xs cs → i < xs.length →
    ∃ pre mid post, cs = pre ++ mid ++ post ∧ pre.length = i * s ∧ R (xs.getD i z) mid ∧ ∀ y m, R y m → RepL R (xs.set i y) (pre ++ m ++ post)
  | [], cs, i, h, hi => by simp at hi
  | x :: xs, cs, 0, h, hi => by
    obtain ⟨c, d, rfl, h1, h2⟩ := h
    exact ⟨[], c, d, by simp, by simp, by simpa using h1, fun y m hy => ⟨m, d, by simp, hy, h2⟩⟩
  | x :: xs, cs, i + 1, h, hi => by
    obtain ⟨c, d, rfl, h1, h2⟩ := h
    obtain ⟨pre, mid, post, rfl, e1, e2, e3⟩ := RepL.at_ hl z i h2 (by simpa using hi)
    refine ⟨c ++ pre, mid, post, by simp, by simp [hl _ _ h1, e1, Nat.succ_mul, Nat.add_comm], by simpa using e2, fun y m hy => ?_⟩
    exact ⟨c, pre ++ m ++ post, by simp, h1, e3 y m hy⟩
theorem RepL.take {α : Type} {R : α → List Value → Prop} {s : Nat} (hl : ∀ x c, R x c → c.length = s) : ∀ {xs : List α} {cs : List Value} (i : Nat), RepL R xs cs → RepL R (xs.take i) (cs.take (i * s)) ∧ RepL R (xs.drop i) (cs.drop (i * s))
  | xs, cs, 0, h => by simpa [RepL] using h
  | [], cs, i + 1, h => by simp only [RepL] at h; simp [h, RepL]
  | x :: xs, cs, i + 1, h => by
    obtain ⟨c, d, rfl, h1, h2⟩ := h
    have hc := hl _ _ h1
    obtain ⟨t1, t2⟩ := RepL.take hl i h2
    have e : (i + 1) * s = c.length + i * s := by rw [hc, Nat.succ_mul, Nat.add_comm]
    rw [e]
    refine ⟨⟨c, d.take (i * s), ?_, h1, t1⟩, ?_⟩
    · rw [List.take_append, List.take_of_length_le (by omega)]; simp
    · have e2 : (c ++ d).drop (c.length + i * s) = d.drop (i * s) := by simp [List.drop_append]
      rw [e2]; exact t2
inductive PStep where
  | fld (k : Nat) | idx (i : Nat)
def okP : (T : ETy) → List PStep → Prop
  | _, [] => True
  | .pair a _, .fld 0 :: p => okP a p
  | .pair _ b, .fld (k + 1) :: p => okP b (.fld k :: p)
  | .arr n e, .idx i :: p => i < n ∧ okP e p
  | _, _ => False
def off : (T : ETy) → List PStep → Nat
  | _, [] => 0
  | .pair a _, .fld 0 :: p => off a p
  | .pair a b, .fld (k + 1) :: p => a.size + off b (.fld k :: p)
  | .arr _ e, .idx i :: p => i * e.size + off e p
  | _, _ => 0
def tyP : (T : ETy) → List PStep → Option ETy
  | T, [] => some T
  | .pair a _, .fld 0 :: p => tyP a p
  | .pair _ b, .fld (k + 1) :: p => tyP b (.fld k :: p)
  | .arr _ e, .idx _ :: p => tyP e p
  | _, _ => none
structure Dat where
  τ : ETy
  x : τ.I
def getP : (T : ETy) → T.I → List PStep → Option Dat
  | T, x, [] => some ⟨T, x⟩
  | .pair a _, x, .fld 0 :: p => getP a x.1 p
  | .pair _ b, x, .fld (k + 1) :: p => getP b x.2 (.fld k :: p)
  | .arr _ e, xs, .idx i :: p => getP e (List.getD xs i e.z) p
  | _, _, _ => none
def castI (τ T : ETy) (x : τ.I) : Option T.I := if h : τ = T then some (h ▸ x) else none
def setP : (T : ETy) → T.I → List PStep → Dat → Option T.I
  | T, _, [], d => castI d.τ T d.x
  | .pair a _, x, .fld 0 :: p, d => (setP a x.1 p d).map fun y => (y, x.2)
  | .pair _ b, x, .fld (k + 1) :: p, d => (setP b x.2 (.fld k :: p) d).map fun y => (x.1, y)
  | .arr _ e, xs, .idx i :: p, d => (setP e (List.getD xs i e.z) p d).map fun y => List.set xs i y
  | _, _, _, _ => none
theorem castI_eq {τ T : ETy} {x : τ.I} {y : T.I} (h : castI τ T x = some y) : ∃ e : τ = T, y = e ▸ x := by
  unfold castI at h
  split at h
  · rename_i e; exact ⟨e, by simpa using h.symm⟩
  · simp at h
theorem getP_rep : ∀ {T : ETy} {x : T.I} {p : List PStep} {cs : List Value} {d : Dat}, okP T p → RepC w S T x cs → getP T x p = some d →
    ∃ pre mid post, cs = pre ++ mid ++ post ∧ pre.length = off T p ∧ RepC w S d.τ d.x mid ∧
      ∀ (e : Dat) (y : T.I) (m : List Value), RepC w S e.τ e.x m → setP T x p e = some y → e.τ = d.τ ∧ RepC w S T y (pre ++ m ++ post)
  | T, x, [], cs, d, hp, hr, hg => by
    simp only [getP, Option.some.injEq] at hg
    subst hg
    refine ⟨[], cs, [], by simp, by simp [off], hr, fun e y m he hs => ?_⟩
    simp only [setP] at hs
    obtain ⟨h, rfl⟩ := castI_eq hs
    refine ⟨h, ?_⟩
    cases e with | mk τ x => cases h; simpa using he
  | .pair a b, x, .fld 0 :: p, cs, d, hp, hr, hg => by
    obtain ⟨c1, c2, rfl, h1, h2⟩ := hr
    simp only [okP] at hp
    simp only [getP] at hg
    obtain ⟨pre, mid, post, rfl, e1, e2, e3⟩ := getP_rep hp h1 hg
    refine ⟨pre, mid, post ++ c2, by simp, by simp [off, e1], e2, fun e y m he hs => ?_⟩
    simp only [setP, Option.map_eq_some_iff] at hs
    obtain ⟨y', hy, rfl⟩ := hs
    obtain ⟨q1, q2⟩ := e3 e y' m he hy
    exact ⟨q1, _, c2, by simp, q2, h2⟩
  | .pair a b, x, .fld (k + 1) :: p, cs, d, hp, hr, hg => by
    obtain ⟨c1, c2, rfl, h1, h2⟩ := hr
    simp only [okP] at hp
    simp only [getP] at hg
    obtain ⟨pre, mid, post, rfl, e1, e2, e3⟩ := getP_rep hp h2 hg
    refine ⟨c1 ++ pre, mid, post, by simp, by simp [off, e1, RepC.length h1], e2, fun e y m he hs => ?_⟩
    simp only [setP, Option.map_eq_some_iff] at hs
    obtain ⟨y', hy, rfl⟩ := hs
    obtain ⟨q1, q2⟩ := e3 e y' m he hy
    exact ⟨q1, c1, _, by simp, h1, q2⟩
  | .arr n e, xs, .idx i :: p, cs, d, hp, hr, hg => by
    obtain ⟨h0, h1⟩ := hr
    simp only [okP] at hp
    simp only [getP] at hg
    obtain ⟨pre, mid, post, rfl, e1, e2, e3⟩ := RepL.at_ (s := e.size) (fun x c h => RepC.length h) e.z i h1 (by rw [h0]; exact hp.1)
    obtain ⟨pre', mid', post', rfl, f1, f2, f3⟩ := getP_rep hp.2 e2 hg
    refine ⟨pre ++ pre', mid', post' ++ post, by simp, by simp [off, e1, f1], f2, fun e' y m he hs => ?_⟩
    simp only [setP, Option.map_eq_some_iff] at hs
    obtain ⟨y', hy, rfl⟩ := hs
    obtain ⟨q1, q2⟩ := f3 e' y' m he hy
    refine ⟨q1, by simp [h0], ?_⟩
    have := e3 y' _ q2
    simpa using this
  | .int _, _, .fld _ :: _, _, _, hp, _, _ | .int _, _, .idx _ :: _, _, _, hp, _, _ | .bool, _, .fld _ :: _, _, _, hp, _, _ | .bool, _, .idx _ :: _, _, _, hp, _, _
  | .str, _, .fld _ :: _, _, _, hp, _, _ | .str, _, .idx _ :: _, _, _, hp, _, _ | .raw _, _, .fld _ :: _, _, _, hp, _, _ | .raw _, _, .idx _ :: _, _, _, hp, _, _
  | .unit, _, .fld _ :: _, _, _, hp, _, _ | .unit, _, .idx _ :: _, _, _, hp, _, _ | .slice _, _, .fld _ :: _, _, _, hp, _, _ | .slice _, _, .idx _ :: _, _, _, hp, _, _
  | .pair _ _, _, .idx _ :: _, _, _, hp, _, _ | .arr _ _, _, .fld _ :: _, _, _, hp, _, _ => by simp [okP] at hp
end
end
section
set_option linter.unusedVariables false
set_option linter.unusedSimpArgs false
def zc : ETy → List Value
  | .int k => [.int k 0]
  | .bool => [.bool false]
  | .str => [.string ⟨#[]⟩]
  | .raw k => [k.zero]
  | .unit => []
  | .pair a b => zc a ++ zc b
  | .arr n e => (List.replicate n (zc e)).flatten
  | .slice _ => [.slice none 0 0]
def valOf (τ : ETy) (cs : List Value) : Value := if τ.agg then .agg cs.toArray else cs.headD undef
def RepV (w : World) (S : Nat → Nat → Prop) (τ : ETy) (x : τ.I) (v : Value) : Prop := ∃ cs, RepC w S τ x cs ∧ v = valOf τ cs
def aggD : TypeDesc → Bool
  | .struct _ | .array _ _ => true
  | _ => false
def fieldsOK (P : Program) (τ : ETy) : Nat → List Field → Bool
  | i, [] => (tyP τ [.fld i]).isNone
  | i, f :: fs => (match tyP τ [.fld i] with
      | some σ => f.offset == off τ [.fld i] && (P.info? f.type).map (·.size) == some σ.size && (P.underlying f.type).map aggD == some σ.agg
      | none => false) && fieldsOK P τ (i + 1) fs
def ETy.str? : ETy → Bool
  | .pair _ _ => true
  | .unit => true
  | _ => false
@[simp] theorem str_slice (e : ETy) : (ETy.slice e).str? = false := rfl
@[simp] theorem str_arr (n : Nat) (e : ETy) : (ETy.arr n e).str? = false := rfl
@[simp] theorem str_int (k : IntKind) : (ETy.int k).str? = false := rfl
@[simp] theorem str_str : (ETy.str).str? = false := rfl
@[simp] theorem str_bool : (ETy.bool).str? = false := rfl
@[simp] theorem str_raw (k : RK) : (ETy.raw k).str? = false := rfl
def descOK (P : Program) (τ : ETy) : TypeDesc → Bool
  | .struct fs => τ.str? && fieldsOK P τ 0 fs.toList
  | .array n e => match τ with | .arr m σ => m == n && (P.info? e).map (·.size) == some σ.size && (P.underlying e).map aggD == some σ.agg | _ => false
  | .slice e => match τ with | .slice σ => (P.info? e).map (·.size) == some σ.size && (P.underlying e).map aggD == some σ.agg && (match (P.info? e).map (·.bytes) with | some b => decide (b ≤ 65536) | none => false) | _ => false
  | .int k => decide (τ = .int k)
  | .bool => decide (τ = .bool)
  | .string => decide (τ = .str)
  | .interface _ => decide (τ = .raw .iface)
  | .func .. => decide (τ = .raw .func)
  | .pointer _ => decide (τ = .raw .ptr)
  | _ => false
structure GoodTy (P : Program) (t : TypeId) (τ : ETy) : Prop where
  info : (P.info? t).map (fun i => (i.size, i.zero)) = some (τ.size, some (valOf τ (zc τ)))
  desc : (P.underlying t).map (fun d => (aggD d, descOK P τ d)) = some (τ.agg, true)
section
variable {P : Program} {w w' : World} {S S' : Nat → Nat → Prop} {t : TypeId} {τ : ETy}
theorem RepL.replicate {α : Type} {R : α → List Value → Prop} {x : α} {c : List Value} (h : R x c) : ∀ n, RepL R (List.replicate n x) (List.replicate n c).flatten
  | 0 => rfl
  | n + 1 => ⟨c, _, by simp [List.replicate_succ], h, RepL.replicate h n⟩
theorem repC_zero : ∀ τ : ETy, RepC w S τ τ.z (zc τ)
  | .int _ => rfl
  | .bool => rfl
  | .str => rfl
  | .raw k => ⟨rfl, k.zero_one⟩
  | .unit => rfl
  | .pair a b => ⟨_, _, rfl, repC_zero a, repC_zero b⟩
  | .arr n e => ⟨by simp [ETy.z], RepL.replicate (repC_zero e) n⟩
  | .slice _ => ⟨none, 0, rfl, Nat.le_refl _, .inl rfl⟩
theorem cells_of_one {u : Value} (h : u.oneCell' = true) : u.cells = #[u] := by
  cases u <;> first | rfl | (simp [Value.oneCell'] at h)
theorem cells_valOf {x : τ.I} {cs : List Value} (h : RepC w S τ x cs) : (valOf τ cs).cells = cs.toArray := by
  unfold valOf
  split
  · rfl
  · rename_i ha
    have hl := h.length
    have h1 := h.one
    cases τ <;> simp [ETy.agg] at ha <;> (simp only [ETy.size] at hl; obtain ⟨c, rfl⟩ := List.length_eq_one_iff.1 hl; simpa using cells_of_one (h1 c (by simp)))
theorem GoodTy.size (h : GoodTy P t τ) : ∃ i, P.info? t = some i ∧ i.size = τ.size ∧ i.zero = some (valOf τ (zc τ)) := by
  have := h.info
  cases hi : P.info? t with
  | none => simp [hi] at this
  | some i => simp [hi] at this; exact ⟨i, rfl, this.1, this.2⟩
theorem GoodTy.und (h : GoodTy P t τ) : ∃ d, P.underlying t = some d ∧ aggD d = τ.agg ∧ descOK P τ d = true := by
  have := h.desc
  cases hi : P.underlying t with
  | none => simp [hi] at this
  | some d => simp [hi] at this; exact ⟨d, rfl, this.1, this.2⟩
theorem run_sizeOf' (h : GoodTy P t τ) (w : World) : (sizeOf t).run P w = .ok τ.size w := by
  obtain ⟨i, hi, hs, _⟩ := h.size
  rw [run_sizeOf w hi]
  simp [Program.cellsOf, hi, hs]
theorem run_isAgg' (h : GoodTy P t τ) (w : World) : (isAgg t).run P w = .ok τ.agg w := by
  obtain ⟨d, hd, ha, _⟩ := h.und
  simp only [isAgg, Sem.run_bind, run_underlying hd, Result.andThen_ok]
  cases d <;> simp [aggD] at ha <;> simp [← ha, Sem.run_pure]
theorem run_zeroValue' (h : GoodTy P t τ) (w : World) : (zeroValue t).run P w = .ok (valOf τ (zc τ)) w := by
  obtain ⟨i, hi, _, hz⟩ := h.size
  simp only [zeroValue, Sem.run_bind, run_typeInfo w hi, Result.andThen_ok, hz]
  rfl
theorem add_at (b o j : Nat) : (⟨b, o, none⟩ : Addr).add j = ⟨b, o + j, none⟩ := by unfold Addr.add; split <;> simp_all
def CellsAt (w : World) (b o : Nat) (cs : List Value) : Prop := ∀ j (h : j < cs.length), w.cell? ⟨b, o + j, none⟩ = some cs[j]
theorem run_load_at {a : Addr} {v : Value} (h : w.cell? a = some v) : (load a).run P w = .ok v w := by
  simp [load, Sem.run, h]
theorem run_loadCellsFrom (b o : Nat) : ∀ (cs : List Value) (i : Nat) (acc : Array Value), (∀ j (h : j < cs.length), w.cell? ⟨b, o + i + j, none⟩ = some cs[j]) →
    (loadCellsFrom ⟨b, o, none⟩ i cs.length acc).run P w = .ok (acc ++ cs.toArray) w
  | [], i, acc, h => by simp [loadCellsFrom, Sem.run_pure]
  | c :: cs, i, acc, h => by
    have h0 := h 0 (by simp)
    simp only [List.length_cons, loadCellsFrom, Sem.run_bind, add_at]
    rw [run_load_at (by simpa using h0), Result.andThen_ok]
    rw [run_loadCellsFrom b o cs (i + 1) (acc.push c) (fun j hj => by
      have := h (j + 1) (by simpa using hj)
      rw [show o + (i + 1) + j = o + i + (j + 1) by omega]; simpa using this)]
    simp
theorem run_loadVar' (h : GoodTy P t τ) {b o : Nat} {cs : List Value} (hl : cs.length = τ.size) (hc : CellsAt w b o cs) : (loadVar t ⟨b, o, none⟩).run P w = .ok (valOf τ cs) w := by
  simp only [loadVar, Sem.run_bind, run_isAgg' h, Result.andThen_ok]
  unfold valOf
  cases ha : τ.agg with
  | true =>
    simp only [if_true, Sem.run_bind, run_sizeOf' h, Result.andThen_ok, loadCells]
    rw [← hl, run_loadCellsFrom b o cs 0 #[] (fun j hj => by simpa using hc j hj)]
    simp [Sem.run_pure]
  | false =>
    have h1 : cs.length = 1 := by cases τ <;> simp [ETy.agg] at ha <;> simpa [ETy.size] using hl
    obtain ⟨c, rfl⟩ := List.length_eq_one_iff.1 h1
    simp only [Bool.false_eq_true, if_false]
    rw [run_load_at (by simpa using hc 0 (by simp))]
    rfl
structure Wrote (b : Nat) (cs' : List Value) (elem : TypeId) (fr : Nat × Nat) (w w' : World) : Prop where
  here : w'.heap[b]? = some (.cells cs'.toArray elem fr)
  there : ∀ k, k ≠ b → w'.heap[k]? = w.heap[k]?
  size : w'.heap.size = w.heap.size
  os : w'.os = w.os
  tape : w'.tape = w.tape
  output : w'.output = w.output
theorem cell_of_block {b : Nat} {cs : Array Value} {elem : TypeId} {fr : Nat × Nat} (h : w.heap[b]? = some (.cells cs elem fr)) (o : Nat) : w.cell? ⟨b, o, none⟩ = cs[o]? := by
  simp [World.cell?, h]
theorem frozen_of_block {b : Nat} {cs : Array Value} {elem : TypeId} {fr : Nat × Nat} (h : w.heap[b]? = some (.cells cs elem fr)) (o : Nat) : w.frozen? ⟨b, o, none⟩ = (decide (fr.1 ≤ o) && decide (o < fr.2)) := by
  simp [World.frozen?, h]
theorem heap_setCells_ne (b : Nat) : ∀ (vs : List Value) (o : Nat) (w : World) (k : Nat), k ≠ b → (w.setCells b o vs).heap[k]? = w.heap[k]?
  | [], _, _, _, _ => rfl
  | v :: r, o, w, k, h => by
    rw [World.setCells, heap_setCells_ne b r _ _ k h]
    exact Below.heap_setCell _ _ _ _ h
theorem setCells_same (b : Nat) : ∀ (vs : List Value) (o : Nat) (w : World), (w.setCells b o vs).heap.size = w.heap.size ∧ (w.setCells b o vs).os = w.os ∧ (w.setCells b o vs).tape = w.tape ∧ (w.setCells b o vs).output = w.output
  | [], _, _ => ⟨rfl, rfl, rfl, rfl⟩
  | v :: r, o, w => by
    obtain ⟨h1, h2, h3, h4⟩ := setCells_same b r (o + 1) (w.setCell ⟨b, o, none⟩ v)
    exact ⟨by rw [World.setCells, h1, World.size_setCell], h2, h3, h4⟩
theorem heap_setCells_at (b : Nat) : ∀ (vs : List Value) (o : Nat) (w : World) (pre mid post : List Value) (elem : TypeId) (fr : Nat × Nat), w.heap[b]? = some (.cells (pre ++ mid ++ post).toArray elem fr) → pre.length = o → mid.length = vs.length →
    (w.setCells b o vs).heap[b]? = some (.cells (pre ++ vs ++ post).toArray elem fr)
  | [], o, w, pre, mid, post, elem, fr, h, h1, h2 => by
    obtain rfl : mid = [] := List.length_eq_zero_iff.1 (by simpa using h2)
    simpa [World.setCells] using h
  | v :: r, o, w, pre, m :: mid, post, elem, fr, h, h1, h2 => by
    rw [World.setCells]
    have hb : (w.setCell ⟨b, o, none⟩ v).heap[b]? = some (.cells ((pre ++ [v]) ++ mid ++ post).toArray elem fr) := by
      simp only [World.setCell, Array.getElem?_modify, if_true, h, Option.map_some, Option.isSome_none, Bool.false_eq_true, if_false]
      congr 2
      subst h1
      simp
    have := heap_setCells_at b r (o + 1) _ (pre ++ [v]) mid post elem fr hb (by simp [h1]) (by simpa using h2)
    simpa using this
  | v :: r, o, w, pre, [], post, elem, fr, h, h1, h2 => by simp at h2
theorem run_storeVar' (h : GoodTy P t τ) {b : Nat} {pre mid post : List Value} {elem : TypeId} {fr : Nat × Nat} (hb : w.heap[b]? = some (.cells (pre ++ mid ++ post).toArray elem fr))
    (hfr : ∀ o, o < (pre ++ mid ++ post).length → ¬ (fr.1 ≤ o ∧ o < fr.2)) {x : τ.I} {m : List Value} (hm : RepC w' S τ x m) (hl : mid.length = τ.size) :
    ∃ w2, (storeVar t ⟨b, pre.length, none⟩ (valOf τ m)).run P w = .ok () w2 ∧ Wrote b (pre ++ m ++ post) elem fr w w2 := by
  have hml := hm.length
  have hcell : ∀ j, j < m.length → (w.cell? ⟨b, pre.length + 0 + j, none⟩).isSome = true := by
    intro j hj
    rw [cell_of_block hb]
    simp
    omega
  have hun : ∀ j, j < m.length → w.frozen? ⟨b, pre.length + 0 + j, none⟩ = false := by
    intro j hj
    rw [frozen_of_block hb]
    have := hfr (pre.length + 0 + j) (by simp; omega)
    simp only [Bool.and_eq_false_iff, decide_eq_false_iff_not]
    omega
  refine ⟨w.setCells b (pre.length + 0) m, ?_, ?_⟩
  · simp only [storeVar, Sem.run_bind, run_sizeOf' h, Result.andThen_ok, cells_valOf hm]
    simp only [List.size_toArray, hml, ne_eq, not_true_eq_false, if_false, Sem.run_pure, Result.andThen_ok]
    exact run_storeCells_cells b pre.length m 0 w hcell hun (fun u hu => hm.one u hu)
  · obtain ⟨s1, s2, s3, s4⟩ := setCells_same b m (pre.length + 0) w
    exact ⟨heap_setCells_at b m _ w pre mid post elem fr hb rfl (by omega), fun k hk => heap_setCells_ne b m _ w k hk, s1, s2, s3, s4⟩
end
end
section
set_option linter.unusedVariables false
set_option linter.unusedSimpArgs false
inductive AV where
  | v (τ : ETy) (x : τ.I)
  | cst (c : Value)
  | vp (T : ETy) (x : T.I) (p : List PStep)
  | ref (id : Nat) (p : List PStep)
  | rref (id i : Nat) (p : List PStep)
  | ls (id : Nat) (p : List PStep) (lo n : Nat)
  | rs (id : Nat)
  | lr (id lo n : Nat)
  | fn (f : FuncId) (caps : List AV)
  | bm (f : FuncId) (first : List AV)
  | tup (l : List AV)
  | bt (T : ETy) (x : T.I) (hs : List (Nat × Option Nat))
  | bz (T : ETy) (x : T.I) (os : List Nat)
  | dead
inductive Obj' where
  | bld (T te : TypeId) (s : ByteArray)
inductive Slot where
  | box (T : ETy) (x : T.I) (ro : Bool)
  | row (t : TypeId) (e : ETy) (xs : List e.I) (ro : Bool)
  | obj (o : Obj')
  | lbx (T : ETy) (x : T.I) (hs : List (Nat × Option Nat))
  | gone
  | resv
abbrev Heap := List Slot
def Slot.live : Slot → Bool
  | .box .. => true
  | .row .. => true
  | .obj _ => true
  | .lbx .. => true
  | _ => false
def Slot.bty : Slot → Option ETy
  | .box T _ _ => some T
  | .lbx T _ _ => some T
  | _ => none
def Slot.ro : Slot → Bool
  | .box _ _ r => r
  | .row _ _ _ r => r
  | _ => false
def Slot.cells : Slot → Nat
  | .box T _ _ => T.size
  | .row _ e xs _ => xs.length * e.size
  | _ => 0
def blk : Value → Option Nat
  | .pointer (some a) => some a.block
  | .slice (some a) _ _ => some a.block
  | _ => none
def blks : Value → List Nat
  | .tuple xs => xs.toList.filterMap blk
  | v => (blk v).toList
theorem blks_pair (x y : Value) : blks (.tuple #[x, y]) = (blk x).toList ++ (blk y).toList := by
  simp only [blks, List.filterMap_cons, List.filterMap_nil]
  cases blk x <;> cases blk y <;> rfl
theorem in_ptr (b o : Nat) : b ∈ blks (.pointer (some ⟨b, o, none⟩)) := by simp [blks, blk]
theorem in_slc (b o n c : Nat) : b ∈ blks (.slice (some ⟨b, o, none⟩) n c) := by simp [blks, blk]
def single : Value → Bool
  | .tuple _ => false
  | _ => true
theorem mem_blks {v : Value} (hv : single v = true) (b : Nat) : b ∈ blks v ↔ blk v = some b := by
  cases v <;> first | (cases hv; done) | (simp only [blks, Option.mem_toList, Option.mem_def])
theorem in_blk {v : Value} {b : Nat} (h : blk v = some b) : b ∈ blks v := by
  cases v <;> first | (simp [blk] at h; done) | (simp only [blks, h]; simp)
theorem blk_in {v : Value} {b : Nat} (hv : single v = true) (h : b ∈ blks v) : blk v = some b := (mem_blks hv b).1 h
def byteCells (s : ByteArray) : List Value := s.data.toList.map fun b => .int .u8 (b.toNat : Int)
def ObjOK (B : Nat) (v : Value) (w : World) : Obj' → Prop
  | .bld T te s => ∃ b sv p, v = .tuple #[.pointer (some ⟨b, 0, none⟩), sv] ∧ B ≤ b ∧ (p = .pointer none ∨ p = .pointer (some ⟨b, 0, none⟩)) ∧ w.heap[b]? = some (.cells #[p, sv] T (0, 0)) ∧ w.ownsRow B te 1 sv s.size (byteCells s) ∧ blk sv ≠ some b
def lk : List (Nat × Option Nat) → Nat → Option (Option Nat)
  | [], _ => none
  | (a, r) :: l, o => bif a == o then some r else lk l o
def LinkOK (m : Nat → Value) (L : Heap) (rid : Nat) (u : Value) : Prop :=
  ∃ s, L[rid]? = some s ∧ s ≠ .resv ∧ ∀ (t : TypeId) (e : ETy) (xs : List e.I) (ro : Bool), s = .row t e xs ro → u = m rid
def LbxOK (B : Nat) (m : Nat → Value) (L : Heap) (v : Value) (w : World) (S : Nat → Nat → Prop) (T : ETy) (x : T.I) (hs : List (Nat × Option Nat)) : Prop :=
  ∃ (b : Nat) (cs ds : List Value) (el : TypeId) (fr : Nat × Nat), v = .pointer (some ⟨b, 0, none⟩) ∧ B ≤ b ∧ w.heap[b]? = some (.cells ds.toArray el fr) ∧ (∀ o, o < ds.length → ¬ (fr.1 ≤ o ∧ o < fr.2)) ∧ RepC w S T x cs ∧ ds.length = cs.length ∧ (∀ u ∈ ds, u.oneCell' = true) ∧
    (∀ o, lk hs o = none → ds[o]? = cs[o]?) ∧ (∀ o rid, lk hs o = some (some rid) → ∃ u, ds[o]? = some u ∧ LinkOK m L rid u)
structure Inv (B : Nat) (m : Nat → Value) (L : Heap) (w : World) (S : Nat → Nat → Prop) : Prop where
  base : B ≤ w.heap.size
  box : ∀ (id : Nat) (T : ETy) (x : T.I) (ro : Bool), L[id]? = some (.box T x ro) → ∃ b cs el fr, m id = .pointer (some ⟨b, 0, none⟩) ∧ B ≤ b ∧ w.heap[b]? = some (.cells cs.toArray el fr) ∧ (∀ o, o < cs.length → ¬ (fr.1 ≤ o ∧ o < fr.2)) ∧ RepC w S T x cs
  row : ∀ (id : Nat) (t : TypeId) (e : ETy) (xs : List e.I) (ro : Bool), L[id]? = some (.row t e xs ro) → ∃ cs, w.ownsRow B t e.size (m id) xs.length cs ∧ RepL (RepC w S e) xs cs
  obj : ∀ (id : Nat) (o : Obj'), L[id]? = some (.obj o) → ObjOK B (m id) w o
  lbx : ∀ (id : Nat) (T : ETy) (x : T.I) (hs : List (Nat × Option Nat)), L[id]? = some (.lbx T x hs) → LbxOK B m L (m id) w S T x hs
  apart : ∀ (i j : Nat) (s r : Slot), i ≠ j → L[i]? = some s → L[j]? = some r → s.live = true → r.live = true → ∀ b, b ∈ blks (m i) → b ∈ blks (m j) → False
  prot : ∀ b o, S b o → b < w.heap.size ∧ ∀ (i : Nat) (s : Slot), L[i]? = some s → s.live = true → b ∈ blks (m i) → s.ro = true ∧ o < s.cells
mutual
def RepA (m : Nat → Value) (L : Heap) (w : World) (S : Nat → Nat → Prop) : AV → Value → Prop
  | .v τ x, u => RepV w S τ x u
  | .cst c, u => u = c
  | .vp T x p, u => okP T p ∧ ∃ b o cs, u = .pointer (some ⟨b, o + off T p, none⟩) ∧ RepC w S T x cs ∧ (∀ j (h : j < cs.length), w.cell? ⟨b, o + j, none⟩ = some cs[j] ∧ S b (o + j))
  | .ref id p, u => ∃ s, L[id]? = some s ∧ s ≠ .resv ∧ (∀ (T : ETy), s.bty = some T → okP T p ∧ ∃ b, m id = .pointer (some ⟨b, 0, none⟩) ∧ u = .pointer (some ⟨b, off T p, none⟩)) ∧ (∀ o, s = .obj o → p = [] ∧ ∃ sv, m id = .tuple #[u, sv])
  | .rref id i p, u => ∃ s, L[id]? = some s ∧ s ≠ .resv ∧ ∀ (t : TypeId) (e : ETy) (xs : List e.I) (ro : Bool), s = .row t e xs ro → i < xs.length ∧ okP e p ∧ ∃ b n c, m id = .slice (some ⟨b, 0, none⟩) n c ∧ u = .pointer (some ⟨b, i * e.size + off e p, none⟩)
  | .ls id p lo n, u => ∃ s, L[id]? = some s ∧ s ≠ .resv ∧ ∀ (T : ETy), s.bty = some T → ∀ (N : Nat) (e : ETy), tyP T p = some (.arr N e) → okP T p ∧ lo + n ≤ N ∧ ∃ b A c, n ≤ c ∧ m id = .pointer (some ⟨b, 0, none⟩) ∧ u = .slice A n c ∧ (n = 0 ∨ A = some ⟨b, off T p + lo * e.size, none⟩)
  | .rs id, u => ∃ s, L[id]? = some s ∧ s ≠ .resv ∧ ∀ (t : TypeId) (e : ETy) (xs : List e.I) (ro : Bool), s = .row t e xs ro → u = m id
  | .lr id lo n, u => ∃ s, L[id]? = some s ∧ s ≠ .resv ∧ ∀ (t : TypeId) (e : ETy) (xs : List e.I) (ro : Bool), s = .row t e xs ro → lo + n ≤ xs.length ∧ ∃ A c, n ≤ c ∧ u = .slice A n c ∧ (n = 0 ∨ ∃ b k c1, m id = .slice (some ⟨b, 0, none⟩) k c1 ∧ A = some ⟨b, lo * e.size, none⟩)
  | .fn f caps, u => ∃ vs : List Value, u = .func (.func f) #[] vs.toArray ∧ RepAs m L w S caps vs
  | .bm f l, u => ∃ vs : List Value, u = .func (.func f) vs.toArray #[] ∧ RepAs m L w S l vs
  | .tup l, u => ∃ vs : List Value, u = .tuple vs.toArray ∧ RepAs m L w S l vs
  | .bt T x hs, u => T.agg = true ∧ ∃ cs ds : List Value, u = .agg ds.toArray ∧ RepC w S T x cs ∧ ds.length = cs.length ∧ (∀ v ∈ ds, v.oneCell' = true) ∧ (∀ o, lk hs o = none → ds[o]? = cs[o]?) ∧ (∀ o rid, (o, some rid) ∈ hs → ∃ v, ds[o]? = some v ∧ LinkOK m L rid v)
  | .bz T x os, u => T.agg = true ∧ ∃ cs : List Value, u = .agg cs.toArray ∧ RepC w S T x cs ∧ ∀ o ∈ os, cs[o]? = some (.slice none 0 0)
  | .dead, _ => True
def RepAs (m : Nat → Value) (L : Heap) (w : World) (S : Nat → Nat → Prop) : List AV → List Value → Prop
  | [], us => us = []
  | x :: xs, us => ∃ u r, us = u :: r ∧ RepA m L w S x u ∧ RepAs m L w S xs r
end
mutual
def AV.ids (f : Bool → Nat → Bool) : AV → Bool
  | .ref id _ => f false id
  | .ls id _ _ _ => f false id
  | .rref id _ _ => f true id
  | .rs id => f true id
  | .lr id _ _ => f true id
  | .fn _ l => AV.idsL f l
  | .bm _ l => AV.idsL f l
  | .tup l => AV.idsL f l
  | .bt _ _ hs => hs.all fun p => match p.2 with | some j => f true j | none => true
  | _ => true
def AV.idsL (f : Bool → Nat → Bool) : List AV → Bool
  | [] => true
  | a :: l => a.ids f && AV.idsL f l
end
structure Ext (X : Nat → Bool) (m : Nat → Value) (L : Heap) (m' : Nat → Value) (L' : Heap) : Prop where
  ext : ∀ (id : Nat) (s : Slot), L[id]? = some s → s ≠ .resv → ∃ s', L'[id]? = some s' ∧ s' ≠ .resv ∧
    (∀ (T : ETy), s'.bty = some T → m' id = m id ∧ s.bty = some T) ∧
    (∀ o', s' = .obj o' → (∀ u sv, m id = .tuple #[u, sv] → ∃ sv', m' id = .tuple #[u, sv']) ∧ ∃ o, s = .obj o) ∧
    (∀ (t : TypeId) (e : ETy) (xs' : List e.I) (ro' : Bool), X id = false → s' = .row t e xs' ro' → m' id = m id ∧ ∃ xs ro, s = .row t e xs ro ∧ xs.length ≤ xs'.length)
theorem Ext.refl (X : Nat → Bool) (m : Nat → Value) (L : Heap) : Ext X m L m L :=
  ⟨fun id s h hs => ⟨s, h, hs, fun T e => ⟨rfl, e⟩, fun o e => ⟨fun u sv h => ⟨sv, h⟩, o, e⟩, fun t e xs ro _ h => ⟨rfl, xs, ro, h, Nat.le_refl _⟩⟩⟩
theorem Ext.trans {X : Nat → Bool} {m m1 m2 : Nat → Value} {L L1 L2 : Heap} (h : Ext X m L m1 L1) (k : Ext X m1 L1 m2 L2) : Ext X m L m2 L2 := by
  refine ⟨fun id s hs hr => ?_⟩
  obtain ⟨s1, e1, r1, b1, o1, w1⟩ := h.ext id s hs hr
  obtain ⟨s2, e2, r2, b2, o2, w2⟩ := k.ext id s1 e1 r1
  refine ⟨s2, e2, r2, ?_, ?_, ?_⟩
  · intro T e
    obtain ⟨q, h2⟩ := b2 T e
    obtain ⟨q', hz⟩ := b1 T h2
    exact ⟨q.trans q', hz⟩
  · intro o e
    obtain ⟨q, o', rfl⟩ := o2 o e
    obtain ⟨q', o'', hz⟩ := o1 o' rfl
    refine ⟨fun u sv h => ?_, o'', hz⟩
    obtain ⟨sv', h'⟩ := q' u sv h
    exact q u sv' h'
  · intro t e xs ro hx h
    obtain ⟨q, ys, ro1, rfl, l1⟩ := w2 t e xs ro hx h
    obtain ⟨q', zs, ro2, hz, l2⟩ := w1 t e ys ro1 hx rfl
    exact ⟨q.trans q', zs, ro2, hz, by omega⟩
theorem Ext.mono {X Y : Nat → Bool} {m m' : Nat → Value} {L L' : Heap} (hX : ∀ i, X i = true → Y i = true) (h : Ext X m L m' L') : Ext Y m L m' L' := by
  refine ⟨fun id s hs hr => ?_⟩
  obtain ⟨s', e1, r1, b1, o1, w1⟩ := h.ext id s hs hr
  refine ⟨s', e1, r1, b1, o1, fun t e xs ro hy hq => w1 t e xs ro ?_ hq⟩
  cases hx : X id with
  | false => rfl
  | true => rw [hX id hx] at hy; cases hy
theorem lk_mem {o : Nat} {r : Option Nat} : ∀ {hs : List (Nat × Option Nat)}, lk hs o = some r → (o, r) ∈ hs
  | [], h => by cases h
  | (a, q) :: l, h => by
    unfold lk at h
    cases e : (a == o) with
    | true => rw [e] at h; cases h; rw [show a = o by simpa using e]; exact List.mem_cons_self ..
    | false => rw [e] at h; exact List.mem_cons_of_mem _ (lk_mem h)
theorem LinkOK.go {X : Nat → Bool} {m m' : Nat → Value} {L L' : Heap} {rid : Nat} {u : Value} (he : Ext X m L m' L') (hx : X rid = false) (h : LinkOK m L rid u) : LinkOK m' L' rid u := by
  obtain ⟨s, h0, h1, h2⟩ := h
  obtain ⟨s', e0, e1, e2, e2', e3⟩ := he.ext rid s h0 h1
  refine ⟨s', e0, e1, fun t e xs ro hb => ?_⟩
  obtain ⟨q, ys, ro1, hy, _⟩ := e3 t e xs ro hx hb
  rw [q]
  exact h2 t e ys ro1 hy
theorem LbxOK.go {B : Nat} {X : Nat → Bool} {m m' : Nat → Value} {L L' : Heap} {w w' : World} {S S' : Nat → Nat → Prop} {v : Value} {T : ETy} {x : T.I} {hs hs' : List (Nat × Option Nat)} (hsf : Safe S S' w w') (he : Ext X m L m' L')
    (hb : ∀ b, b ∈ blks v → w'.heap[b]? = w.heap[b]?) (hn : ∀ o, lk hs' o = none → lk hs o = none) (hx : ∀ o rid, lk hs' o = some (some rid) → lk hs o = some (some rid) ∧ X rid = false) (h : LbxOK B m L v w S T x hs) : LbxOK B m' L' v w' S' T x hs' := by
  obtain ⟨b, cs, ds, el, fr, h1, h2, h3, h4, h5, h6, h6', h7, h8⟩ := h
  refine ⟨b, cs, ds, el, fr, h1, h2, by rw [hb b (by rw [h1]; exact in_ptr _ _)]; exact h3, h4, h5.safe hsf, h6, h6', fun o ho => h7 o (hn o ho), fun o rid hr => ?_⟩
  obtain ⟨q1, q2⟩ := hx o rid hr
  obtain ⟨u, hu, hl⟩ := h8 o rid q1
  exact ⟨u, hu, hl.go he q2⟩
theorem LbxOK.same {B : Nat} {m m' : Nat → Value} {L L' : Heap} {w w' : World} {S S' : Nat → Nat → Prop} {v : Value} {T : ETy} {x : T.I} {hs : List (Nat × Option Nat)} (hsf : Safe S S' w w') (he : Ext (fun _ => false) m L m' L')
    (hb : ∀ b, b ∈ blks v → w'.heap[b]? = w.heap[b]?) (h : LbxOK B m L v w S T x hs) : LbxOK B m' L' v w' S' T x hs :=
  h.go hsf he hb (fun _ h => h) (fun _ _ h => ⟨h, rfl⟩)
def noX (X : Nat → Bool) : Bool → Nat → Bool := fun r id => !(r && X id)
section
variable {B : Nat} {m m' : Nat → Value} {L L' : Heap} {w w' : World} {S S' : Nat → Nat → Prop}
theorem RepV.safe (hs : Safe S S' w w') {τ : ETy} {x : τ.I} {u : Value} (h : RepV w S τ x u) : RepV w' S' τ x u := by
  obtain ⟨cs, h1, h2⟩ := h
  exact ⟨cs, h1.safe hs, h2⟩
mutual
theorem RepA.go {X : Nat → Bool} (hs : Safe S S' w w') (he : Ext X m L m' L') : ∀ {a : AV} {u : Value}, a.ids (noX X) = true → RepA m L w S a u → RepA m' L' w' S' a u
  | .v τ x, u, _, h => by simp only [RepA] at h ⊢; exact h.safe hs
  | .cst c, u, _, h => by simp only [RepA] at h ⊢; exact h
  | .vp T x p, u, _, h => by
    simp only [RepA] at h ⊢
    obtain ⟨h0, b, o, cs, rfl, h1, h2⟩ := h
    exact ⟨h0, b, o, cs, rfl, h1.safe hs, fun j hj => ⟨(hs.cell _ _ (h2 j hj).2).trans (h2 j hj).1, hs.sub _ _ (h2 j hj).2⟩⟩
  | .ref id p, u, _, h => by
    simp only [RepA] at h ⊢
    obtain ⟨s, h0, h1, h2, h3⟩ := h
    obtain ⟨s', e0, e1, e2, e3, e4⟩ := he.ext id s h0 h1
    refine ⟨s', e0, e1, fun T hb => ?_, fun o ho => ?_⟩
    · obtain ⟨q, hy⟩ := e2 T hb
      rw [q]
      exact h2 T hy
    · obtain ⟨q, o', ho'⟩ := e3 o ho
      obtain ⟨h4, sv, h5⟩ := h3 o' ho'
      exact ⟨h4, q u sv h5⟩
  | .rref id i p, u, hx, h => by
    simp only [RepA] at h ⊢
    simp [AV.ids, noX] at hx
    obtain ⟨s, h0, h1, h2⟩ := h
    obtain ⟨s', e0, e1, e2, e2', e3⟩ := he.ext id s h0 h1
    refine ⟨s', e0, e1, fun t e xs ro hb => ?_⟩
    obtain ⟨q, ys, ro1, hy, l1⟩ := e3 t e xs ro hx hb
    obtain ⟨k1, k2, k3⟩ := h2 t e ys ro1 hy
    rw [q]
    exact ⟨by omega, k2, k3⟩
  | .ls id p lo n, u, _, h => by
    simp only [RepA] at h ⊢
    obtain ⟨s, h0, h1, h2⟩ := h
    obtain ⟨s', e0, e1, e2, e2', e3⟩ := he.ext id s h0 h1
    refine ⟨s', e0, e1, fun T hb => ?_⟩
    obtain ⟨q, hy⟩ := e2 T hb
    rw [q]
    exact h2 T hy
  | .rs id, u, hx, h => by
    simp only [RepA] at h ⊢
    simp [AV.ids, noX] at hx
    obtain ⟨s, h0, h1, h2⟩ := h
    obtain ⟨s', e0, e1, e2, e2', e3⟩ := he.ext id s h0 h1
    refine ⟨s', e0, e1, fun t e xs ro hb => ?_⟩
    obtain ⟨q, ys, ro1, hy, l1⟩ := e3 t e xs ro hx hb
    rw [q]
    exact h2 t e ys ro1 hy
  | .lr id lo n, u, hx, h => by
    simp only [RepA] at h ⊢
    simp [AV.ids, noX] at hx
    obtain ⟨s, h0, h1, h2⟩ := h
    obtain ⟨s', e0, e1, e2, e2', e3⟩ := he.ext id s h0 h1
    refine ⟨s', e0, e1, fun t e xs ro hb => ?_⟩
    obtain ⟨q, ys, ro1, hy, l1⟩ := e3 t e xs ro hx hb
    obtain ⟨k1, k2⟩ := h2 t e ys ro1 hy
    rw [q]
    exact ⟨by omega, k2⟩
  | .fn f caps, u, hx, h => by
    simp only [RepA] at h ⊢
    obtain ⟨vs, h0, h1⟩ := h
    exact ⟨vs, h0, RepAs.go hs he (by simpa [AV.ids] using hx) h1⟩
  | .bm f l, u, hx, h => by
    simp only [RepA] at h ⊢
    obtain ⟨vs, h0, h1⟩ := h
    exact ⟨vs, h0, RepAs.go hs he (by simpa [AV.ids] using hx) h1⟩
  | .tup l, u, hx, h => by
    simp only [RepA] at h ⊢
    obtain ⟨vs, h0, h1⟩ := h
    exact ⟨vs, h0, RepAs.go hs he (by simpa [AV.ids] using hx) h1⟩
  | .bt T x q, u, hx, h => by
    simp only [RepA] at h ⊢
    simp only [AV.ids, List.all_eq_true] at hx
    obtain ⟨h0, cs, ds, h1, h2, h3, h4, h5, h6⟩ := h
    refine ⟨h0, cs, ds, h1, h2.safe hs, h3, h4, h5, fun o rid hr => ?_⟩
    obtain ⟨v, k1, k2⟩ := h6 o rid hr
    have := hx _ hr
    simp [noX] at this
    exact ⟨v, k1, k2.go he this⟩
  | .bz T x os, u, _, h => by
    simp only [RepA] at h ⊢
    obtain ⟨h0, cs, h1, h2, h3⟩ := h
    exact ⟨h0, cs, h1, h2.safe hs, h3⟩
  | .dead, u, _, h => by simp only [RepA]
theorem RepAs.go {X : Nat → Bool} (hs : Safe S S' w w') (he : Ext X m L m' L') : ∀ {a : List AV} {u : List Value}, AV.idsL (noX X) a = true → RepAs m L w S a u → RepAs m' L' w' S' a u
  | [], u, _, h => by simp only [RepAs] at h ⊢; exact h
  | x :: xs, u, hx, h => by
    simp only [RepAs] at h ⊢
    obtain ⟨y, r, rfl, h1, h2⟩ := h
    simp only [AV.idsL, Bool.and_eq_true] at hx
    exact ⟨y, r, rfl, RepA.go hs he hx.1 h1, RepAs.go hs he hx.2 h2⟩
end
end
end
section
set_option linter.unusedVariables false
set_option linter.unusedSimpArgs false
def eqI : (τ : ETy) → τ.I → τ.I → Bool
  | .int _, x, y => (x : Int) == y
  | .bool, x, y => (x : Bool) == y
  | .str, x, y => ByteArray.toList x == ByteArray.toList y
  | .raw _, _, _ => false
  | .unit, _, _ => true
  | .pair a b, x, y => eqI a x.1 y.1 && eqI b x.2 y.2
  | .arr n e, xs, ys => go (eqI e) n xs ys
  | .slice _, _, _ => false
where go {α : Type} (f : α → α → Bool) : Nat → List α → List α → Bool
  | n + 1, x :: xs, y :: ys => f x y && go f n xs ys
  | _, _, _ => true
mutual
def eqOK (P : Program) : ETy → TypeId → Bool
  | .int k, t => match P.underlying t with | some (.int k') => decide (k = k') | _ => false
  | .bool, t => match P.underlying t with | some .bool => true | _ => false
  | .str, t => match P.underlying t with | some .string => true | _ => false
  | .arr n e, t => match P.underlying t with | some (.array m te) => m == n && (P.info? te).isSome && P.cellsOf te == e.size && eqOK P e te | _ => false
  | .unit, t => match P.underlying t with | some (.struct fs) => !P.stoodInHeld t && fs.toList.isEmpty | _ => false
  | .pair a b, t => match P.underlying t with
      | some (.struct fs) => !P.stoodInHeld t && (match fs.toList with
        | f :: r => f.name != "_" && f.offset == 0 && (P.info? f.type).isSome && P.cellsOf f.type == a.size && eqOK P a f.type && eqF P b a.size r
        | [] => false)
      | _ => false
  | _, _ => false
def eqF (P : Program) : ETy → Nat → List Field → Bool
  | .unit, _, r => r.isEmpty
  | .pair a b, o, f :: r => f.name != "_" && f.offset == o && (P.info? f.type).isSome && P.cellsOf f.type == a.size && eqOK P a f.type && eqF P b (o + a.size) r
  | _, _, _ => false
end
def ETy.deep : ETy → Nat
  | .pair a b => max a.deep b.deep + 1
  | .arr _ e => e.deep + 1
  | _ => 1
section
variable {P : Program} {w w' : World} {S S' : Nat → Nat → Prop} {t : TypeId} {τ : ETy}
theorem eqOK_agg (h : eqOK P τ t = true) (w : World) : (isAgg t).run P w = .ok τ.agg w := by
  have : ∃ d, P.underlying t = some d ∧ aggD d = τ.agg := by
    cases hu : P.underlying t with
    | none => cases τ <;> simp [eqOK, hu] at h
    | some d => refine ⟨d, rfl, ?_⟩; cases τ <;> cases d <;> simp [eqOK, hu] at h <;> rfl
  obtain ⟨d, hd, ha⟩ := this
  simp only [isAgg, Sem.run_bind, run_underlying hd, Result.andThen_ok]
  cases d <;> simp [aggD] at ha <;> simp [← ha, Sem.run_pure]
theorem run_part' {xs : Array Value} {pre mid post : List Value} (hx : xs.toList = pre ++ mid ++ post) (ha : (isAgg t).run P w = .ok τ.agg w) (hi : (P.info? t).isSome = true) (hs : P.cellsOf t = τ.size) (hl : mid.length = τ.size) :
    (part t xs pre.length).run P w = .ok (valOf τ mid) w := by
  obtain ⟨i, hi⟩ := Option.isSome_iff_exists.1 hi
  simp only [part, Sem.run_bind, ha, Result.andThen_ok]
  obtain rfl : xs = (pre ++ mid ++ post).toArray := by rw [← hx]
  unfold valOf
  cases hag : τ.agg with
  | true =>
    simp only [if_true, Sem.run_bind, run_sizeOf w hi, Result.andThen_ok, Sem.run_pure, hs]
    congr 2
    apply Array.ext'
    simp only [Array.toList_extract, List.extract_eq_take_drop]
    rw [List.append_assoc, List.drop_left, show pre.length + τ.size - pre.length = mid.length by omega, List.take_left]
  | false =>
    have h1 : mid.length = 1 := by rw [hl]; cases τ <;> simp [ETy.agg] at hag <;> rfl
    obtain ⟨c, rfl⟩ := List.length_eq_one_iff.1 h1
    simp [Sem.run_pure]
mutual
theorem run_eqI : ∀ {τ : ETy} {t : TypeId} {D : Nat} {x y : τ.I} {cx cy : List Value}, eqOK P τ t = true → τ.deep ≤ D → RepC w S τ x cx → RepC w S' τ y cy →
    (Op.equalIn D t (valOf τ cx) (valOf τ cy)).run P w = .ok (eqI τ x y) w
  | τ, t, 0, x, y, cx, cy, h, hd, hx, hy => by exact absurd hd (by cases τ <;> simp [ETy.deep])
  | .int k, t, D + 1, x, y, cx, cy, h, hd, hx, hy => by
    simp only [RepC] at hx hy
    subst hx; subst hy
    cases hu : P.underlying t with
    | none => simp [eqOK, hu] at h
    | some d =>
      cases d <;> simp [eqOK, hu] at h
      subst h
      have := run_equalIn_int w D t k k x y hu
      simpa [valOf, ETy.agg, eqI] using this
  | .bool, t, D + 1, x, y, cx, cy, h, hd, hx, hy => by
    simp only [RepC] at hx hy
    subst hx; subst hy
    cases hu : P.underlying t with
    | none => simp [eqOK, hu] at h
    | some d =>
      cases d <;> simp [eqOK, hu] at h
      exact run_equalIn_bool w D t x y hu
  | .str, t, D + 1, x, y, cx, cy, h, hd, hx, hy => by
    simp only [RepC] at hx hy
    subst hx; subst hy
    cases hu : P.underlying t with
    | none => simp [eqOK, hu] at h
    | some d =>
      cases d <;> simp [eqOK, hu] at h
      exact run_equalIn_string w D t x y hu
  | .unit, t, D + 1, x, y, cx, cy, h, hd, hx, hy => by
    simp only [RepC] at hx hy
    subst hx; subst hy
    cases hu : P.underlying t with
    | none => simp [eqOK, hu] at h
    | some d =>
      cases d <;> simp [eqOK, hu] at h
      rename_i fs
      have hfs : P.fieldsOf t = fs := by simp [Program.fieldsOf, hu]
      have := run_equalIn_struct w D t (#[] : Array Value) #[] (by rw [hfs]; exact hu) h.1
      simp only [valOf, ETy.agg, if_true, eqI]
      rw [this, hfs]
      simp [h.2, Op.eqFields, Sem.run_pure]
  | .pair a b, t, D + 1, x, y, cx, cy, h, hd, hx, hy => by
    obtain ⟨c1, d1, rfl, hx1, hx2⟩ := hx
    obtain ⟨c2, d2, rfl, hy1, hy2⟩ := hy
    cases hu : P.underlying t with
    | none => simp [eqOK, hu] at h
    | some d =>
      cases d <;> simp [eqOK, hu] at h
      rename_i fs
      have hfs : P.fieldsOf t = fs := by simp [Program.fieldsOf, hu]
      obtain ⟨h0, h⟩ := h
      have hst := run_equalIn_struct w D t (c1 ++ d1).toArray (c2 ++ d2).toArray (by rw [hfs]; exact hu) h0
      simp only [valOf, ETy.agg, if_true, eqI]
      rw [hst, hfs]
      cases hl : fs.toList with
      | nil => simp [hl] at h
      | cons f r =>
        simp only [hl, Bool.and_eq_true, bne_iff_ne, ne_eq, beq_iff_eq] at h
        obtain ⟨⟨⟨⟨⟨n1, n2⟩, n3⟩, n4⟩, n5⟩, n6⟩ := h
        have hd1 : a.deep ≤ D := by simp only [ETy.deep] at hd; omega
        have hd2 : b.deep ≤ D := by simp only [ETy.deep] at hd; omega
        have e := run_eqI n5 hd1 hx1 hy1
        have g := run_eqF (xs := (c1 ++ d1).toArray) (ys := (c2 ++ d2).toArray) (p1 := c1) (p2 := c2) n6 hd2 hx2 hy2 rfl rfl hx1.length hy1.length
        have p1 := run_part' (P := P) (w := w) (t := f.type) (τ := a) (xs := (c1 ++ d1).toArray) (pre := []) (mid := c1) (post := d1) (by simp) (eqOK_agg n5 w) n3 n4 hx1.length
        have p2 := run_part' (P := P) (w := w) (t := f.type) (τ := a) (xs := (c2 ++ d2).toArray) (pre := []) (mid := c2) (post := d2) (by simp) (eqOK_agg n5 w) n3 n4 hy1.length
        simp only [List.length_nil] at p1 p2
        simp only [Op.eqFields, n1, n2, ne_eq, not_false_eq_true, if_true, Sem.run_bind, p1, p2, e, Result.andThen_ok]
        cases he : eqI a x.1 y.1
        · simp [Sem.run_pure]
        · simpa using g
  | .arr n e, t, D + 1, x, y, cx, cy, h, hd, hx, hy => by
    cases hu : P.underlying t with
    | none => simp [eqOK, hu] at h
    | some d =>
      cases d <;> simp [eqOK, hu] at h
      rename_i m te
      obtain ⟨⟨⟨rfl, n2⟩, n3⟩, n4⟩ := h
      obtain ⟨i, hi⟩ := Option.isSome_iff_exists.1 n2
      have hst := run_equalIn_array w D (t := t) (e := te) (n := m) (i := i) cx.toArray cy.toArray hu hi
      have hd1 : e.deep ≤ D := by simp only [ETy.deep] at hd; omega
      simp only [valOf, ETy.agg, if_true, eqI]
      rw [hst, n3, List.range_eq_range']
      have := run_eqIt (e := e) (te := te) (D := D) (fun {x y cx cy} hx hy => run_eqI n4 hd1 hx hy) n4 (by rw [hi]; rfl) n3 m 0 x y [] [] cx cy cx.toArray cy.toArray (by simp) (by simp) (by simp) (by simp) hx hy
      exact this
theorem run_eqF : ∀ {b : ETy} {o : Nat} {r : List Field} {D : Nat} {x y : b.I} {p1 p2 c1 c2 : List Value} {xs ys : Array Value}, eqF P b o r = true → b.deep ≤ D → RepC w S b x c1 → RepC w S' b y c2 →
    xs = (p1 ++ c1).toArray → ys = (p2 ++ c2).toArray → p1.length = o → p2.length = o → (Op.eqFields D xs ys r).run P w = .ok (eqI b x y) w
  | .unit, o, r, D, x, y, p1, p2, c1, c2, xs, ys, h, hd, hx, hy, e1, e2, e3, e4 => by
    simp [eqF] at h
    subst h
    simp [Op.eqFields, Sem.run_pure, eqI]
  | .pair a b, o, f :: r, D, x, y, p1, p2, c1, c2, xs, ys, h, hd, hx, hy, e1, e2, e3, e4 => by
    obtain ⟨c1, d1, rfl, hx1, hx2⟩ := hx
    obtain ⟨c2, d2, rfl, hy1, hy2⟩ := hy
    subst e1; subst e2
    simp only [eqF, Bool.and_eq_true, bne_iff_ne, ne_eq, beq_iff_eq] at h
    obtain ⟨⟨⟨⟨⟨n1, n2⟩, n3⟩, n4⟩, n5⟩, n6⟩ := h
    have hd1 : a.deep ≤ D := by simp only [ETy.deep] at hd; omega
    have hd2 : b.deep ≤ D := by simp only [ETy.deep] at hd; omega
    have e := run_eqI n5 hd1 hx1 hy1
    have g := run_eqF (xs := (p1 ++ (c1 ++ d1)).toArray) (ys := (p2 ++ (c2 ++ d2)).toArray) (p1 := p1 ++ c1) (p2 := p2 ++ c2) n6 hd2 hx2 hy2 (by simp) (by simp) (by simp [e3, hx1.length]) (by simp [e4, hy1.length])
    have q1 := run_part' (P := P) (w := w) (t := f.type) (τ := a) (xs := (p1 ++ (c1 ++ d1)).toArray) (pre := p1) (mid := c1) (post := d1) (by simp) (eqOK_agg n5 w) n3 n4 hx1.length
    have q2 := run_part' (P := P) (w := w) (t := f.type) (τ := a) (xs := (p2 ++ (c2 ++ d2)).toArray) (pre := p2) (mid := c2) (post := d2) (by simp) (eqOK_agg n5 w) n3 n4 hy1.length
    rw [e3] at q1
    rw [e4] at q2
    simp only [Op.eqFields, n1, n2, ne_eq, not_false_eq_true, if_true, Sem.run_bind, q1, q2, e, Result.andThen_ok, eqI]
    cases he : eqI a x.1 y.1
    · simp [Sem.run_pure]
    · simpa using g
  | .pair a b, o, [], D, x, y, p1, p2, c1, c2, xs, ys, h, hd, hx, hy, e1, e2, e3, e4 => by simp [eqF] at h
  | .int _, o, r, D, x, y, p1, p2, c1, c2, xs, ys, h, hd, hx, hy, e1, e2, e3, e4 => by simp [eqF] at h
  | .bool, o, r, D, x, y, p1, p2, c1, c2, xs, ys, h, hd, hx, hy, e1, e2, e3, e4 => by simp [eqF] at h
  | .str, o, r, D, x, y, p1, p2, c1, c2, xs, ys, h, hd, hx, hy, e1, e2, e3, e4 => by simp [eqF] at h
  | .raw _, o, r, D, x, y, p1, p2, c1, c2, xs, ys, h, hd, hx, hy, e1, e2, e3, e4 => by simp [eqF] at h
  | .arr _ _, o, r, D, x, y, p1, p2, c1, c2, xs, ys, h, hd, hx, hy, e1, e2, e3, e4 => by simp [eqF] at h
  | .slice _, o, r, D, x, y, p1, p2, c1, c2, xs, ys, h, hd, hx, hy, e1, e2, e3, e4 => by simp [eqF] at h
theorem run_eqIt {e : ETy} {te : TypeId} {D : Nat} (ih : ∀ {x y : e.I} {cx cy : List Value}, RepC w S e x cx → RepC w S' e y cy → (Op.equalIn D te (valOf e cx) (valOf e cy)).run P w = .ok (eqI e x y) w)
    (ho : eqOK P e te = true) (hi : (P.info? te).isSome = true) (hs : P.cellsOf te = e.size) : ∀ (n k : Nat) (x y : List e.I) (p1 p2 c1 c2 : List Value) (xs ys : Array Value),
    xs = (p1 ++ c1).toArray → ys = (p2 ++ c2).toArray → p1.length = k * e.size → p2.length = k * e.size → RepC w S (.arr n e) x c1 → RepC w S' (.arr n e) y c2 →
    (Op.eqItems D te e.size xs ys (List.range' k n)).run P w = .ok (eqI.go (eqI e) n x y) w
  | 0, k, x, y, p1, p2, c1, c2, xs, ys, e1, e2, e3, e4, hx, hy => by simp [Op.eqItems, Sem.run_pure, eqI.go]
  | n + 1, k, x, y, p1, p2, c1, c2, xs, ys, e1, e2, e3, e4, hx, hy => by
    obtain ⟨l1, h1⟩ := hx
    obtain ⟨l2, h2⟩ := hy
    cases x with
    | nil => simp at l1
    | cons x xt =>
    cases y with
    | nil => simp at l2
    | cons y yt =>
      obtain ⟨c1, d1, rfl, hx1, hx2⟩ := h1
      obtain ⟨c2, d2, rfl, hy1, hy2⟩ := h2
      subst e1; subst e2
      have e0 := ih hx1 hy1
      have g := run_eqIt ih ho hi hs n (k + 1) xt yt (p1 ++ c1) (p2 ++ c2) d1 d2 (p1 ++ (c1 ++ d1)).toArray (p2 ++ (c2 ++ d2)).toArray (by simp) (by simp)
        (by simp [e3, hx1.length, Nat.succ_mul]) (by simp [e4, hy1.length, Nat.succ_mul]) ⟨by simpa using l1, hx2⟩ ⟨by simpa using l2, hy2⟩
      have q1 := run_part' (P := P) (w := w) (t := te) (τ := e) (xs := (p1 ++ (c1 ++ d1)).toArray) (pre := p1) (mid := c1) (post := d1) (by simp) (eqOK_agg ho w) hi hs hx1.length
      have q2 := run_part' (P := P) (w := w) (t := te) (τ := e) (xs := (p2 ++ (c2 ++ d2)).toArray) (pre := p2) (mid := c2) (post := d2) (by simp) (eqOK_agg ho w) hi hs hy1.length
      rw [e3] at q1
      rw [e4] at q2
      simp only [List.range'_succ, Op.eqItems, Sem.run_bind, q1, q2, e0, Result.andThen_ok, eqI.go]
      cases he : eqI e x y
      · simp [Sem.run_pure]
      · simpa using g
end
end
end
section
set_option linter.unusedVariables false
set_option linter.unusedSimpArgs false
structure Cfg where
  P : Program
  Ty : TypeId → Option ETy
  G : Nat → Option Dat
  M : Nat → Bool := fun _ => false
  Y : Nat → Bool := fun _ => true
  Ob : TypeId → Option TypeId := fun _ => none
  Lk : TypeId → List (Nat × TypeId × ETy) := fun _ => []
structure Cfg.OK (C : Cfg) : Prop where
  ty : ∀ t τ, C.Ty t = some τ → GoodTy C.P t τ
  mixed : C.P.follows .mixedOrders = true
  ob : ∀ t te, C.Ob t = some te → GoodTy C.P t (.pair (.raw .ptr) (.pair (.slice (.int .u8)) .unit)) := by intro t te h; cases h
structure GlobOK (C : Cfg) (B : Nat) (w : World) (S : Nat → Nat → Prop) : Prop where
  tab : ∀ g d, C.G g = some d → g < B ∧ ∃ cs el fr, w.heap[g]? = some (.cells cs.toArray el fr) ∧ RepC w S d.τ d.x cs ∧ ∀ j, j < cs.length → S g j
  any : ∀ g, C.M g = true → g < B ∧ (∃ n, w.cell? ⟨g, 0, none⟩ = some (.int .i64 n)) ∧ S g 0
theorem GlobOK.go {C : Cfg} {B : Nat} {w w' : World} {S S' : Nat → Nat → Prop} (h : GlobOK C B w S) (hs : Safe S S' w w') (hb : Below B w w') : GlobOK C B w' S' := by
  refine ⟨fun g d hg => ?_, fun g hg => ?_⟩
  · obtain ⟨h0, cs, el, fr, h1, h2, h3⟩ := h.tab g d hg
    exact ⟨h0, cs, el, fr, (hb.block g h0).trans h1, h2.safe hs, fun j hj => hs.sub _ _ (h3 j hj)⟩
  · obtain ⟨h0, ⟨n, h1⟩, h2⟩ := h.any g hg
    exact ⟨h0, ⟨n, (hs.cell _ _ h2).trans h1⟩, hs.sub _ _ h2⟩
theorem GlobOK.mono {C : Cfg} {B B' : Nat} {w : World} {S : Nat → Nat → Prop} (h : GlobOK C B w S) (hB : B ≤ B') : GlobOK C B' w S :=
  ⟨fun g d hg => ⟨Nat.lt_of_lt_of_le (h.tab g d hg).1 hB, (h.tab g d hg).2⟩, fun g hg => ⟨Nat.lt_of_lt_of_le (h.any g hg).1 hB, (h.any g hg).2⟩⟩
theorem GlobOK.cells {C : Cfg} {B : Nat} {w : World} {S : Nat → Nat → Prop} (h : GlobOK C B w S) {g : Nat} {d : Dat} (hg : C.G g = some d) : ∃ cs, RepC w S d.τ d.x cs ∧ ∀ j (h : j < cs.length), w.cell? ⟨g, j, none⟩ = some cs[j] ∧ S g j := by
  obtain ⟨_, cs, el, fr, h1, h2, h3⟩ := h.tab g d hg
  refine ⟨cs, h2, fun j hj => ⟨?_, h3 j hj⟩⟩
  unfold World.cell?
  simp only [h1]
  simp [hj]
def constA : Value → AV
  | .int k n => .v (.int k) n
  | .bool b => .v .bool b
  | .string s => .v .str s
  | .nilIface => .v (.raw .iface) .nilIface
  | c => .cst c
def datA : AV → AV
  | .bz (.pair a b) x _ => .v (.pair a b) x
  | a => a
def evB (C : Cfg) (env : List AV) : Operand → AV
  | .tmp t => env.getD t .dead
  | .const c => constA c
  | .global g => match C.G g with | some d => .vp d.τ d.x [] | none => .dead
  | .func f => .fn f []
def evA (C : Cfg) (env : List AV) (x : Operand) : AV := datA (evB C env x)
theorem datA_rep {m : Nat → Value} {L : Heap} {w : World} {S : Nat → Nat → Prop} {a : AV} {u : Value} (h : RepA m L w S a u) : RepA m L w S (datA a) u := by
  unfold datA
  split
  · simp only [RepA] at h ⊢
    obtain ⟨h0, cs, rfl, h2, _⟩ := h
    exact ⟨cs, h2, by simp [valOf, h0]⟩
  · exact h
theorem datA_ids {f : Bool → Nat → Bool} {a : AV} (h : a.ids f = true) : (datA a).ids f = true := by
  unfold datA
  split
  · simp only [AV.ids]
  · exact h
theorem datA_const (c : Value) : datA (constA c) = constA c := by cases c <;> rfl
theorem datA_bool {a : AV} {b : Bool} (h : datA a = .v .bool b) : a = .v .bool b := by
  unfold datA at h
  split at h
  · cases h
  · exact h
abbrev R := Option (Bool × AV)
def ok1 (a : AV) : R := some (true, a)
def bAt (s : ByteArray) (i : Nat) : Int := ((s.data.toList.getD i 0).toNat : Int)
def catMax : Nat := 1152921504606846976
def pickA (c : Bool) : AV → AV → AV
  | .v .bool x, .v .bool y => .v .bool (bif c then x else y)
  | .v (.int k) x, .v (.int k') y => if k = k' then .v (.int k) (bif c then (x : Int) else y) else bif c then .v (.int k) x else .v (.int k') y
  | .v .str x, .v .str y => .v .str (bif c then (x : ByteArray) else y)
  | a, b => bif c then a else b
def intOp (op : BinOp) (k : IntKind) (x y : Int) : R :=
  match op with
  | .add => ok1 (.v (.int k) (k.wrap (x + y)))
  | .sub => ok1 (.v (.int k) (k.wrap (x - y)))
  | .mul => ok1 (.v (.int k) (k.wrap (x * y)))
  | .quo => some (!(y == 0), .v (.int k) (k.wrap (x.tdiv y)))
  | .rem => some (!(y == 0), .v (.int k) (x.tmod y))
  | .and => ok1 (.v (.int k) (k.wrap (BitVec.ofInt k.bits x &&& BitVec.ofInt k.bits y).toNat))
  | .or => ok1 (.v (.int k) (k.wrap (BitVec.ofInt k.bits x ||| BitVec.ofInt k.bits y).toNat))
  | .xor => ok1 (.v (.int k) (k.wrap (BitVec.ofInt k.bits x ^^^ BitVec.ofInt k.bits y).toNat))
  | .andNot => ok1 (.v (.int k) (k.wrap (BitVec.ofInt k.bits x &&& ~~~BitVec.ofInt k.bits y).toNat))
  | .eql => ok1 (.v .bool (x == y))
  | .neq => ok1 (.v .bool (x != y))
  | .lss => ok1 (.v .bool (decide (x < y)))
  | .leq => ok1 (.v .bool (decide (x ≤ y)))
  | .gtr => ok1 (.v .bool (decide (x > y)))
  | .geq => ok1 (.v .bool (decide (x ≥ y)))
  | _ => none
def strOp (op : BinOp) (x y : ByteArray) : R :=
  match op with
  | .add => some (decide (x.size + y.size ≤ catMax), .v .str (x ++ y))
  | .eql => ok1 (.v .bool (x.data.toList == y.data.toList))
  | .neq => ok1 (.v .bool (!(x.data.toList == y.data.toList)))
  | .lss => ok1 (.v .bool (Op.bytesLess x.data.toList y.data.toList))
  | .leq => ok1 (.v .bool (Op.bytesLess x.data.toList y.data.toList || x.data.toList == y.data.toList))
  | .gtr => ok1 (.v .bool (!(Op.bytesLess x.data.toList y.data.toList || x.data.toList == y.data.toList)))
  | .geq => ok1 (.v .bool (!Op.bytesLess x.data.toList y.data.toList))
  | _ => none
def eqOp (C : Cfg) (op : BinOp) (t : TypeId) (τ : ETy) (x y : τ.I) : R :=
  if eqOK C.P τ t && !C.P.eqGuardType C.P.depth t && decide (τ.deep ≤ 10000) then
    match op with
    | .eql => ok1 (.v .bool (eqI τ x y))
    | .neq => ok1 (.v .bool (!eqI τ x y))
    | _ => none
  else none
def isShift : BinOp → Bool
  | .shl | .shr => true
  | _ => false
def binA (C : Cfg) (op : BinOp) (t : TypeId) : AV → AV → R
  | .v (.int k) x, .v (.int k') y =>
    match op with
    | .shl => some (decide ((0 : Int) ≤ y), .v (.int k) (k.wrap ((x : Int) * 2 ^ (min (Int.toNat y) k.bits))))
    | .shr => some (decide ((0 : Int) ≤ y), .v (.int k) (Int.fdiv x (2 ^ (min (Int.toNat y) k.bits))))
    | _ => if k = k' then intOp op k x y else none
  | .v .bool x, .v .bool y => eqOp C op t .bool x y
  | .v .str x, .v .str y => strOp op x y
  | .v (.pair a b) x, .v τ y => (castI τ (.pair a b) y).bind fun y => eqOp C op t (.pair a b) x y
  | .v (.arr n e) x, .v τ y => (castI τ (.arr n e) y).bind fun y => eqOp C op t (.arr n e) x y
  | _, _ => none
def unA (op : UnOp) : AV → R
  | .v (.int k) x => match op with
    | .neg => ok1 (.v (.int k) (k.wrap (0 - (x : Int))))
    | .xor => ok1 (.v (.int k) (k.wrap (BitVec.ofInt k.bits (if k.signed then -1 else k.max) ^^^ BitVec.ofInt k.bits x).toNat))
    | _ => none
  | .v .bool b => match op with | .not => ok1 (.v .bool (!b)) | _ => none
  | _ => none
def convA (C : Cfg) (src dst : TypeId) : AV → R
  | .v (.int _) x => match C.Ty src, C.Ty dst with
    | some (.int _), some (.int k) => ok1 (.v (.int k) (k.wrap x))
    | some (.int _), some .str => ok1 (.v .str (Utf8.encode x))
    | _, _ => none
  | .v .str x => match C.Ty src, C.Ty dst with
    | some .str, some .str => ok1 (.v .str x)
    | _, _ => none
  | _ => none
section
variable {C : Cfg} {m : Nat → Value} {L : Heap} {w : World} {S : Nat → Nat → Prop}
theorem rep_v {τ : ETy} {x : τ.I} {u : Value} : RepA m L w S (.v τ x) u = RepV w S τ x u := by simp only [RepA]
theorem rep_int {k : IntKind} {x : Int} {u : Value} : RepA m L w S (.v (.int k) x) u ↔ u = .int k x := by
  rw [rep_v]
  constructor
  · rintro ⟨cs, h, rfl⟩; simp only [RepC] at h; subst h; rfl
  · rintro rfl; exact ⟨[.int k x], rfl, rfl⟩
theorem rep_bool {x : Bool} {u : Value} : RepA m L w S (.v .bool x) u ↔ u = .bool x := by
  rw [rep_v]
  constructor
  · rintro ⟨cs, h, rfl⟩; simp only [RepC] at h; subst h; rfl
  · rintro rfl; exact ⟨[.bool x], rfl, rfl⟩
theorem rep_str {x : ByteArray} {u : Value} : RepA m L w S (.v .str x) u ↔ u = .string x := by
  rw [rep_v]
  constructor
  · rintro ⟨cs, h, rfl⟩; simp only [RepC] at h; subst h; rfl
  · rintro rfl; exact ⟨[.string x], rfl, rfl⟩
theorem rep_const (c : Value) : RepA m L w S (constA c) c := by
  cases c <;> first | exact rep_int.2 rfl | exact rep_bool.2 rfl | exact rep_str.2 rfl | (show RepA m L w S (.v (.raw .iface) .nilIface) .nilIface; rw [rep_v]; exact ⟨[.nilIface], ⟨rfl, rfl⟩, rfl⟩) | (simp only [constA, RepA])
structure RepE (m : Nat → Value) (L : Heap) (w : World) (S : Nat → Nat → Prop) (env : List AV) (tmps : Array Value) : Prop where
  size : env.length = tmps.size
  at_ : ∀ t, RepA m L w S (env.getD t .dead) (tmps.getD t undef)
theorem RepE.put {env : List AV} {a : Act} (h : RepE m L w S env a.tmps) {av : AV} {u : Value} (hu : RepA m L w S av u) (d : Nat) :
    RepE m L w S (env.set d av) (a.put (some d) u).tmps := by
  refine ⟨by simp [Act.put, h.size], fun t => ?_⟩
  have := h.at_ t
  by_cases hd : t = d
  · subst hd
    by_cases hl : t < env.length
    · have hl' : t < a.tmps.size := by rw [← h.size]; exact hl
      simp only [Act.put, List.getD_eq_getElem?_getD, List.getElem?_set_self hl, Option.getD_some]
      simp only [Array.getD, Array.size_setIfInBounds, hl', dif_pos, Array.getInternal_eq_getElem, Array.getElem_setIfInBounds_self]
      exact hu
    · have hl' : ¬ t < a.tmps.size := by rw [← h.size]; exact hl
      simp only [Act.put, List.getD_eq_getElem?_getD]
      rw [List.getElem?_eq_none (by simp; omega)]
      simp only [Option.getD_none, RepA]
  · simp only [Act.put, List.getD_eq_getElem?_getD, List.getElem?_set_ne (Ne.symm hd)]
    rw [← List.getD_eq_getElem?_getD]
    have e : (a.tmps.setIfInBounds d u).getD t undef = a.tmps.getD t undef := by
      simp only [Array.getD_eq_getD_getElem?, Array.getElem?_setIfInBounds_ne (Ne.symm hd)]
    rw [e]; exact this
theorem RepE.evalB {B : Nat} {env : List AV} {a : Act} (hG : GlobOK C B w S) (h : RepE m L w S env a.tmps) (x : Operand) : RepA m L w S (evB C env x) (a.eval x) := by
  cases x with
  | tmp t => exact h.at_ t
  | const c => exact rep_const c
  | global g =>
    simp only [evB, Act.eval]
    cases hg : C.G g with
    | none => simp only [RepA]
    | some d =>
      obtain ⟨cs, h1, h2⟩ := hG.cells hg
      simp only [RepA]
      exact ⟨by simp [okP], g, 0, cs, by simp [off], h1, fun j hj => by simpa using h2 j hj⟩
  | func f => simp only [evB, Act.eval, RepA]; exact ⟨[], rfl, by simp only [RepAs]⟩
theorem RepE.eval {B : Nat} {env : List AV} {a : Act} (hG : GlobOK C B w S) (h : RepE m L w S env a.tmps) (x : Operand) : RepA m L w S (evA C env x) (a.eval x) := datA_rep (h.evalB hG x)
def Gives (C : Cfg) (m : Nat → Value) (L : Heap) (w : World) (S : Nat → Nat → Prop) (s : Sem Value) (r : R) : Prop :=
  ∀ a, r = some (true, a) → ∃ u, s.run C.P w = .ok u w ∧ RepA m L w S a u
theorem gives_none {s : Sem Value} : Gives C m L w S s none := fun a h => by simp at h
theorem gives_ok1 {s : Sem Value} {a : AV} {u : Value} (h : s.run C.P w = .ok u w) (hr : RepA m L w S a u) : Gives C m L w S s (ok1 a) := by
  intro b hb
  simp only [ok1, Option.some.injEq, Prod.mk.injEq, true_and] at hb
  subst hb
  exact ⟨u, h, hr⟩
theorem gives_if {s : Sem Value} {c : Bool} {a : AV} {u : Value} (h : c = true → s.run C.P w = .ok u w) (hr : RepA m L w S a u) : Gives C m L w S s (some (c, a)) := by
  intro b hb
  simp only [Option.some.injEq, Prod.mk.injEq] at hb
  obtain ⟨rfl, rfl⟩ := hb
  exact ⟨u, h rfl, hr⟩
theorem pick_rep {c : Bool} {x y : AV} {u v : Value} (hx : RepA m L w S x u) (hy : RepA m L w S y v) : RepA m L w S (pickA c x y) (if c = true then u else v) := by
  have key : ∀ {z : AV}, z = (bif c then x else y) → RepA m L w S z (if c = true then u else v) := by
    rintro z rfl
    cases c <;> simp <;> assumption
  unfold pickA
  split
  · rw [rep_bool] at hx hy; subst hx; subst hy; cases c <;> simp [rep_bool]
  · rename_i k x k' y
    split
    · rename_i e; subst e; rw [rep_int] at hx hy; subst hx; subst hy; cases c <;> simp [rep_int]
    · exact key rfl
  · rw [rep_str] at hx hy; subst hx; subst hy; cases c <;> simp [rep_str]
  · exact key rfl
theorem wf_noagg {op : BinOp} {t : TypeId} {x y : Operand} {k k' : IntKind} {a b : Int} : (eqGuard op t x y (.int k a) (.int k' b)).run C.P w = .ok () w := by
  unfold eqGuard; split <;> simp [Sem.run_pure]
theorem gives_intOp {op : BinOp} {t : TypeId} {k : IntKind} {x y : Int} (hop : isShift op = false) : Gives C m L w S (binOp op t (.int k x) (.int k y)) (intOp op k x y) := by
  cases op <;> simp [isShift] at hop <;> simp only [intOp, binOp, ne_eq, not_true_eq_false, if_false] <;>
    first
    | exact gives_none
    | exact gives_ok1 rfl (rep_int.2 rfl)
    | exact gives_ok1 rfl (rep_bool.2 rfl)
    | (refine gives_if (u := .int k _) (fun h => ?_) (rep_int.2 rfl); have h' : ¬ y = 0 := by simpa using h
       simp [Op.intDiv, h', Sem.run_pure])
theorem gives_strOp {op : BinOp} {t : TypeId} {x y : ByteArray} (hop : isShift op = false) : Gives C m L w S (binOp op t (.string x) (.string y)) (strOp op x y) := by
  cases op <;> simp [isShift] at hop <;> simp only [strOp, binOp, Op.stringOp, ← Go.Lib.toList_data] <;>
    first
    | exact gives_none
    | exact gives_ok1 rfl (rep_bool.2 rfl)
    | (refine gives_if (u := .string (x ++ y)) (fun h => ?_) (rep_str.2 rfl); have h' : x.size + y.size ≤ catMax := by simpa using h
       have : ¬ ((x.size + y.size : Nat) : Int) > IntKind.i64.max := by
         have : IntKind.i64.max = 9223372036854775807 := rfl
         unfold catMax at h'
         omega
       rw [if_neg this]; rfl)
end
end
section
set_option linter.unusedVariables false
set_option linter.unusedSimpArgs false
set_option maxHeartbeats 40000
section
variable {C : Cfg} {m : Nat → Value} {L : Heap} {w : World} {S : Nat → Nat → Prop}
theorem eqGuard_ok {op : BinOp} {t : TypeId} {x y : Operand} {a b : Value} (h : C.P.eqGuardType C.P.depth t = false) (ha : a ≠ .nilIface) : (eqGuard op t x y a b).run C.P w = .ok () w := by
  unfold eqGuard
  split
  all_goals simp only [Bool.not_true, Bool.not_false, Bool.false_eq_true, if_false, if_true]
  all_goals first
    | rfl
    | (split
       · exact absurd rfl ha
       · simp [h, Sem.run_pure, program, Sem.run]
       · simp [Sem.run_pure])
theorem noAgg_guard {op : BinOp} {t : TypeId} {x y : Operand} {a b : Value} (ha : a ≠ .nilIface) (hb : ∀ c, a ≠ .agg c) : (eqGuard op t x y a b).run C.P w = .ok () w := by
  unfold eqGuard
  split
  all_goals simp only [Bool.not_true, Bool.not_false, Bool.false_eq_true, if_false, if_true]
  all_goals first
    | rfl
    | (split
       · exact absurd rfl ha
       · exact absurd rfl (hb _)
       · simp [Sem.run_pure])
theorem gives_guarded {op : BinOp} {t : TypeId} {x y : Operand} {a b : Value} {r : R} (hg : (eqGuard op t x y a b).run C.P w = .ok () w) (h : Gives C m L w S (binOp op t a b) r) :
    Gives C m L w S (do eqGuard op t x y a b; binOp op t a b) r := by
  intro z hz
  obtain ⟨u, h1, h2⟩ := h z hz
  exact ⟨u, by simp only [Sem.run_bind, hg, Result.andThen_ok, h1], h2⟩
theorem gives_eqOp {op : BinOp} {t : TypeId} {τ : ETy} {x y : τ.I} {u v : Value} {xo yo : Operand} (hx : RepV w S τ x u) (hy : RepV w S τ y v)
    (hbin : binOp .eql t u v = (do pure (.bool (← Op.equal t u v)))) (hbin' : binOp .neq t u v = (do pure (.bool (!(← Op.equal t u v))))) (hu : u ≠ .nilIface) :
    Gives C m L w S (do eqGuard op t xo yo u v; binOp op t u v) (eqOp C op t τ x y) := by
  unfold eqOp
  split
  · rename_i h
    simp only [Bool.and_eq_true, Bool.not_eq_true', decide_eq_true_eq] at h
    obtain ⟨⟨h1, h2⟩, h3⟩ := h
    obtain ⟨cx, hx1, rfl⟩ := hx
    obtain ⟨cy, hy1, rfl⟩ := hy
    have e := run_eqI (P := C.P) (w := w) (D := Op.maxDepth) h1 h3 hx1 hy1
    cases op <;> first
      | exact gives_none
      | (refine gives_guarded (eqGuard_ok h2 hu) (gives_ok1 ?_ (rep_bool.2 rfl)); rw [hbin]; simp only [Op.equal, Sem.run_bind, e, Result.andThen_ok, Sem.run_pure])
      | (refine gives_guarded (eqGuard_ok h2 hu) (gives_ok1 ?_ (rep_bool.2 rfl)); rw [hbin']; simp only [Op.equal, Sem.run_bind, e, Result.andThen_ok, Sem.run_pure])
  · exact gives_none
theorem rep_agg {τ : ETy} {x : τ.I} {u : Value} (ha : τ.agg = true) (h : RepV w S τ x u) : ∃ cs : List Value, u = .agg cs.toArray ∧ RepC w S τ x cs := by
  obtain ⟨cs, h1, rfl⟩ := h
  exact ⟨cs, by simp [valOf, ha], h1⟩
theorem gives_bin {op : BinOp} {t : TypeId} {a b : AV} {u v : Value} {xo yo : Operand} (hx : RepA m L w S a u) (hy : RepA m L w S b v) :
    Gives C m L w S (do eqGuard op t xo yo u v; binOp op t u v) (binA C op t a b) := by
  have aggcase : ∀ (τ : ETy), τ.agg = true → ∀ (x : τ.I) (σ : ETy) (y : σ.I), RepA m L w S (.v τ x) u → RepA m L w S (.v σ y) v →
      Gives C m L w S (do eqGuard op t xo yo u v; binOp op t u v) ((castI σ τ y).bind fun y => eqOp C op t τ x y) := by
    intro τ ha x σ y hx hy
    cases hc : castI σ τ y with
    | some y' =>
      obtain ⟨rfl, rfl⟩ := castI_eq hc
      simp only [Option.bind_some]
      rw [rep_v] at hx hy
      obtain ⟨cx, rfl, hx1⟩ := rep_agg ha hx
      obtain ⟨cy, rfl, hy1⟩ := rep_agg ha hy
      exact gives_eqOp hx hy rfl rfl (by simp)
    | none => exact gives_none
  unfold binA
  split
  · rename_i k x k' y
    rw [rep_int] at hx hy
    subst hx; subst hy
    refine gives_guarded wf_noagg ?_
    split
    · refine gives_if (u := .int k _) (fun h => ?_) (rep_int.2 rfl)
      have h' : ¬ (y : Int) < 0 := Int.not_lt.2 (of_decide_eq_true h)
      simp [binOp, Op.shift, h', Sem.run_pure]
    · refine gives_if (u := .int k _) (fun h => ?_) (rep_int.2 rfl)
      have h' : ¬ (y : Int) < 0 := Int.not_lt.2 (of_decide_eq_true h)
      simp [binOp, Op.shift, h', Sem.run_pure]
    · rename_i h1 h2
      split
      · rename_i e; subst e
        exact gives_intOp (by cases op <;> first | rfl | exact absurd rfl h1 | exact absurd rfl h2)
      · exact gives_none
  · rename_i x y
    have hx' := hx; have hy' := hy
    rw [rep_bool] at hx' hy'
    subst hx'; subst hy'
    rw [rep_v] at hx hy
    exact gives_eqOp hx hy rfl rfl (by simp)
  · rename_i x y
    rw [rep_str] at hx hy
    subst hx; subst hy
    refine gives_guarded (noAgg_guard (by simp) (by simp)) ?_
    by_cases hs : isShift op = true
    · have : strOp op x y = none := by cases op <;> simp [isShift] at hs <;> rfl
      rw [this]; exact gives_none
    · exact gives_strOp (by simpa using hs)
  · rename_i a b x σ y
    exact aggcase (.pair a b) rfl x σ y hx hy
  · rename_i n e x σ y
    exact aggcase (.arr n e) rfl x σ y hx hy
  · exact gives_none
theorem gives_un {op : UnOp} {a : AV} {u : Value} (hx : RepA m L w S a u) : Gives C m L w S (Op.unary op u) (unA op a) := by
  unfold unA
  split
  · rename_i k x
    rw [rep_int] at hx
    subst hx
    cases op <;> first | exact gives_none | exact gives_ok1 rfl (rep_int.2 rfl)
  · rename_i b
    rw [rep_bool] at hx
    subst hx
    cases op <;> first | exact gives_none | exact gives_ok1 rfl (rep_bool.2 rfl)
  · exact gives_none
theorem und_int {t : TypeId} {k : IntKind} (h : GoodTy C.P t (.int k)) : C.P.underlying t = some (.int k) := by
  obtain ⟨d, hd, _ha, h2⟩ := h.und
  cases d <;> simp [descOK] at h2
  subst h2; exact hd
theorem und_str {t : TypeId} (h : GoodTy C.P t .str) : C.P.underlying t = some .string := by
  obtain ⟨d, hd, _ha, h2⟩ := h.und
  cases d <;> simp [descOK] at h2
  exact hd
theorem isAgg_of {te : TypeId} {e : ETy} (h : (C.P.underlying te).map aggD = some e.agg) (w : World) : (isAgg te).run C.P w = .ok e.agg w := by
  cases hu : C.P.underlying te with
  | none => simp [hu] at h
  | some d =>
    simp [hu] at h
    simp only [isAgg, Sem.run_bind, run_underlying hu, Result.andThen_ok]
    cases d <;> simp [aggD] at h <;> simp [← h, Sem.run_pure]
theorem und_slice {t : TypeId} {e : ETy} (h : GoodTy C.P t (.slice e)) : ∃ te i, C.P.underlying t = some (.slice te) ∧ C.P.info? te = some i ∧ i.size = e.size ∧ i.bytes ≤ 65536 ∧ (C.P.underlying te).map aggD = some e.agg := by
  obtain ⟨d, hd, _ha, h2⟩ := h.und
  clear _ha
  cases d <;> simp [descOK] at h2
  rename_i te
  obtain ⟨⟨⟨i, hi, h3⟩, h5⟩, h4⟩ := h2
  simp [hi] at h4
  exact ⟨te, i, hd, hi, h3, h4, by simpa using h5⟩
theorem und_arr {t : TypeId} {n : Nat} {e : ETy} (h : GoodTy C.P t (.arr n e)) : ∃ te i, C.P.underlying t = some (.array n te) ∧ C.P.info? te = some i ∧ i.size = e.size ∧ (C.P.underlying te).map aggD = some e.agg := by
  obtain ⟨d, hd, _ha, h2⟩ := h.und
  clear _ha
  cases d <;> simp [descOK] at h2
  rename_i m te
  obtain ⟨⟨rfl, i, hi, h3⟩, h4⟩ := h2
  exact ⟨te, i, hd, hi, h3, by simpa using h4⟩
theorem gives_conv (hC : C.OK) {s d : TypeId} {a : AV} {u : Value} (hx : RepA m L w S a u) : Gives C m L w S (convert s d u) (convA C s d a) := by
  unfold convA
  split
  · rename_i k x
    rw [rep_int] at hx
    subst hx
    split
    · rename_i k1 k2 h1 h2
      refine gives_ok1 ?_ (rep_int.2 rfl)
      simp [convert, run_underlying (und_int (hC.ty _ _ h1)), run_underlying (und_int (hC.ty _ _ h2)), Conv.intToInt, Sem.run_pure]
    · rename_i k1 h1 h2
      refine gives_ok1 ?_ (rep_str.2 rfl)
      simp [convert, run_underlying (und_int (hC.ty _ _ h1)), run_underlying (und_str (hC.ty _ _ h2)), Conv.intToString, Sem.run_pure]
    · exact gives_none
  · rename_i x
    rw [rep_str] at hx
    subst hx
    split
    · rename_i h1 h2
      refine gives_ok1 ?_ (rep_str.2 rfl)
      simp [convert, run_underlying (und_str (hC.ty _ _ h1)), run_underlying (und_str (hC.ty _ _ h2)), Sem.run_pure]
    · exact gives_none
  · exact gives_none
def extractA (i : Nat) : AV → R
  | .tup l => (l[i]?).map fun a => (true, a)
  | _ => none
theorem repAs_get : ∀ {l : List AV} {vs : List Value}, RepAs m L w S l vs → ∀ (i : Nat) (a : AV), l[i]? = some a → ∃ u, vs[i]? = some u ∧ RepA m L w S a u
  | [], vs, h, i, a, hi => by simp at hi
  | x :: l, vs, h, 0, a, hi => by
    simp only [RepAs] at h
    obtain ⟨u, r, rfl, h1, h2⟩ := h
    simp at hi; subst hi
    exact ⟨u, by simp, h1⟩
  | x :: l, vs, h, i + 1, a, hi => by
    simp only [RepAs] at h
    obtain ⟨u, r, rfl, h1, h2⟩ := h
    simpa using repAs_get h2 i a (by simpa using hi)
theorem gives_extract {i : Nat} {a : AV} {u : Value} (hx : RepA m L w S a u) : Gives C m L w S (Instr.extract u i) (extractA i a) := by
  unfold extractA
  split
  · rename_i l
    simp only [RepA] at hx
    obtain ⟨vs, rfl, h⟩ := hx
    intro b hb
    simp only [Option.map_eq_some_iff, Prod.mk.injEq, true_and] at hb
    obtain ⟨a, ha, rfl⟩ := hb
    obtain ⟨u, hu, hr⟩ := repAs_get h i a ha
    exact ⟨u, by simp [Instr.extract, hu, Sem.run_pure], hr⟩
  · exact gives_none
theorem tyP_fld_none {τ : ETy} {i : Nat} (h : tyP τ [.fld i] = none) : tyP τ [.fld (i + 1)] = none := by
  induction τ generalizing i with
  | pair a b iha ihb => cases i with
    | zero => simp [tyP] at h
    | succ i => simp only [tyP] at h ⊢; exact ihb h
  | _ => simp [tyP]
theorem field_of {t : TypeId} {τ σ : ETy} (h : GoodTy C.P t τ) {f : Nat} (hs : tyP τ [.fld f] = some σ) :
    ∃ fs fd i, C.P.underlying t = some (.struct fs) ∧ fs[f]? = some fd ∧ fd.offset = off τ [.fld f] ∧ C.P.info? fd.type = some i ∧ i.size = σ.size ∧ (C.P.underlying fd.type).map aggD = some σ.agg := by
  obtain ⟨d, hd, _ha, h2⟩ := h.und
  have hp : ∃ a b, τ = .pair a b := by
    cases τ with
    | pair a b => exact ⟨a, b, rfl⟩
    | _ => simp [tyP] at hs
  obtain ⟨a, b, rfl⟩ := hp
  cases d <;> simp [descOK] at h2
  rename_i fs
  have key : ∀ (l : List Field) (k : Nat), fieldsOK C.P (.pair a b) k l = true → ∀ j σ, tyP (.pair a b) [.fld (k + j)] = some σ → ∃ g i, l[j]? = some g ∧ g.offset = off (.pair a b) [.fld (k + j)] ∧ C.P.info? g.type = some i ∧ i.size = σ.size ∧ (C.P.underlying g.type).map aggD = some σ.agg := by
    intro l
    induction l with
    | nil =>
      intro k hk j σ hj
      simp only [fieldsOK, Option.isNone_iff_eq_none] at hk
      exfalso
      have : ∀ j, tyP (.pair a b) [.fld (k + j)] = none := by
        intro j
        induction j with
        | zero => exact hk
        | succ j ih => exact tyP_fld_none ih
      rw [this j] at hj
      cases hj
    | cons g l ih =>
      intro k hk j σ hj
      simp only [fieldsOK, Bool.and_eq_true] at hk
      cases j with
      | zero =>
        rw [Nat.add_zero] at hj
        obtain ⟨hk, _⟩ := hk
        rw [hj] at hk
        simp only [Bool.and_eq_true, beq_iff_eq] at hk
        obtain ⟨⟨h1, h2⟩, h4⟩ := hk
        obtain ⟨i, h2, h3⟩ := Option.map_eq_some_iff.1 h2
        rw [Nat.add_zero]
        exact ⟨g, i, rfl, h1, h2, h3, h4⟩
      | succ j =>
        have := ih (k + 1) hk.2 j σ (by rwa [show k + 1 + j = k + (j + 1) by omega])
        rw [show k + 1 + j = k + (j + 1) by omega] at this
        obtain ⟨g', i', q1, q⟩ := this
        exact ⟨g', i', by simpa using q1, q⟩
  obtain ⟨g, i, h1, h3, h4, h5, h6⟩ := key fs.toList 0 h2.2 f σ (by rw [Nat.zero_add]; exact hs)
  rw [Nat.zero_add] at h3
  exact ⟨fs, g, i, hd, by simpa using h1, h3, h4, h5, h6⟩
end
end
section
set_option linter.unusedVariables false
set_option linter.unusedSimpArgs false
set_option maxHeartbeats 100000
def fieldA (C : Cfg) (t : TypeId) (f : Nat) : AV → R
  | .v τ x => if C.Ty t = some τ then (getP τ x [.fld f]).map fun d => (true, .v d.τ d.x) else none
  | _ => none
def idxOK (i : Int) (n : Nat) : Bool := decide (0 ≤ i) && decide (i < (n : Int))
def indexA (C : Cfg) (t : TypeId) : AV → AV → R
  | .v (.arr n e) xs, .v (.int _) i => if C.Ty t = some (.arr n e) then some (idxOK i n, .v e (List.getD xs (Int.toNat i) e.z)) else none
  | .v .str s, .v (.int _) i => if C.Ty t = some .str then some (idxOK i (ByteArray.size s), .v (.int .u8) (bAt s (Int.toNat i))) else none
  | _, _ => none
def fieldAddrA (C : Cfg) (t : TypeId) (L : Heap) (f : Nat) : AV → R
  | .vp T x p => (tyP T p).bind fun τ => if C.Ty t = some τ then (tyP τ [.fld f]).bind fun σ => if σ.size = 0 then none else ok1 (.vp T x (p ++ [.fld f])) else none
  | .ref id p => match L[id]? with
    | some (.box T _ _) => (tyP T p).bind fun τ => if C.Ty t = some τ then (tyP τ [.fld f]).bind fun σ => if σ.size = 0 then none else ok1 (.ref id (p ++ [.fld f])) else none
    | _ => none
  | .rref id i p => match L[id]? with
    | some (.row _ e _ _) => (tyP e p).bind fun τ => if C.Ty t = some τ then (tyP τ [.fld f]).bind fun σ => if σ.size = 0 then none else ok1 (.rref id i (p ++ [.fld f])) else none
    | _ => none
  | _ => none
def loadA (C : Cfg) (t : TypeId) (L : Heap) : AV → R
  | .vp T x p => (getP T x p).bind fun d => if C.Ty t = some d.τ then ok1 (.v d.τ d.x) else none
  | .ref id p => match L[id]? with
    | some (.box T x _) => (getP T x p).bind fun d => if C.Ty t = some d.τ then ok1 (.v d.τ d.x) else none
    | _ => none
  | .rref id i p => match L[id]? with
    | some (.row _ e xs _) => (getP e (xs.getD i e.z) p).bind fun d => if C.Ty t = some d.τ then ok1 (.v d.τ d.x) else none
    | _ => none
  | _ => none
section
variable {C : Cfg} {B : Nat} {m : Nat → Value} {L : Heap} {w : World} {S : Nat → Nat → Prop}
theorem toNat_lt {i : Int} {n : Nat} (h0 : 0 ≤ i) (h1 : i < n) : i.toNat < n := by omega
theorem idxOK_iff {i : Int} {n : Nat} : idxOK i n = true ↔ 0 ≤ i ∧ i < (n : Int) := by simp [idxOK]
theorem rep_agg_v {τ : ETy} {x : τ.I} {u : Value} (ha : τ.agg = true) (h : RepA m L w S (.v τ x) u) : ∃ cs : List Value, u = .agg cs.toArray ∧ RepC w S τ x cs := by
  rw [rep_v] at h; exact rep_agg ha h
theorem valOf_rep {τ : ETy} {x : τ.I} {cs : List Value} (h : RepC w S τ x cs) : RepA m L w S (.v τ x) (valOf τ cs) := by rw [rep_v]; exact ⟨cs, h, rfl⟩
theorem okP_fld {τ : ETy} {f : Nat} {σ : ETy} (h : tyP τ [.fld f] = some σ) : okP τ [.fld f] := by
  induction τ generalizing f with
  | pair a b iha ihb => cases f with
    | zero => simp [okP]
    | succ f => simp only [tyP] at h; simp only [okP]; exact ihb h
  | _ => simp [tyP] at h
theorem getP_ty : ∀ {T : ETy} {x : T.I} {p : List PStep} {d : Dat}, getP T x p = some d → tyP T p = some d.τ
  | T, x, [], d, h => by simp only [getP, Option.some.injEq] at h; subst h; simp [tyP]
  | .pair a b, x, .fld 0 :: p, d, h => by simp only [getP] at h; simp only [tyP]; exact getP_ty h
  | .pair a b, x, .fld (k + 1) :: p, d, h => by simp only [getP] at h; simp only [tyP]; exact getP_ty h
  | .arr n e, x, .idx i :: p, d, h => by simp only [getP] at h; simp only [tyP]; exact getP_ty h
  | .int _, _, .fld _ :: _, _, h | .int _, _, .idx _ :: _, _, h | .bool, _, .fld _ :: _, _, h | .bool, _, .idx _ :: _, _, h
  | .str, _, .fld _ :: _, _, h | .str, _, .idx _ :: _, _, h | .raw _, _, .fld _ :: _, _, h | .raw _, _, .idx _ :: _, _, h
  | .unit, _, .fld _ :: _, _, h | .unit, _, .idx _ :: _, _, h | .slice _, _, .fld _ :: _, _, h | .slice _, _, .idx _ :: _, _, h
  | .pair _ _, _, .idx _ :: _, _, h | .arr _ _, _, .fld _ :: _, _, h => by simp [getP] at h
theorem run_field {t : TypeId} {τ σ : ETy} {f : Nat} {cs pre mid post : List Value} (ht : GoodTy C.P t τ) (hs : tyP τ [.fld f] = some σ) (hc : cs = pre ++ mid ++ post) (ho : pre.length = off τ [.fld f]) (hl : mid.length = σ.size) :
    (Instr.field t (.agg cs.toArray) f).run C.P w = .ok (valOf σ mid) w := by
  obtain ⟨fs, fd, i, h1, h2, h3, h4, h5, h6⟩ := field_of ht hs
  have := run_part' (P := C.P) (w := w) (t := fd.type) (τ := σ) (xs := cs.toArray) (pre := pre) (mid := mid) (post := post) (by simp [hc]) (isAgg_of h6 w) (by rw [h4]; rfl) (by simp [Program.cellsOf, h4, h5]) hl
  rw [ho, ← h3] at this
  simp only [Instr.field, Sem.run_bind, run_underlying h1, Result.andThen_ok, h2, asAgg, Sem.run_pure, this]
theorem off_append : ∀ {T : ETy} {p : List PStep} {σ : ETy} {q : List PStep}, tyP T p = some σ → off T (p ++ q) = off T p + off σ q ∧ tyP T (p ++ q) = tyP σ q ∧ (okP T p → okP σ q → okP T (p ++ q))
  | T, [], σ, q, h => by simp only [tyP, Option.some.injEq] at h; subst h; simp [off, okP]
  | .pair a b, .fld 0 :: p, σ, q, h => by
    simp only [tyP] at h
    obtain ⟨h1, h2, h3⟩ := off_append (q := q) h
    exact ⟨by simp only [List.cons_append, off, h1], by simp only [List.cons_append, tyP, h2], by simpa only [List.cons_append, okP] using h3⟩
  | .pair a b, .fld (k + 1) :: p, σ, q, h => by
    simp only [tyP] at h
    obtain ⟨h1, h2, h3⟩ := off_append (q := q) h
    simp only [List.cons_append] at h1 h2 h3
    exact ⟨by simp only [List.cons_append, off, h1, Nat.add_assoc], by simp only [List.cons_append, tyP, h2], by simpa only [List.cons_append, okP] using h3⟩
  | .arr n e, .idx i :: p, σ, q, h => by
    simp only [tyP] at h
    obtain ⟨h1, h2, h3⟩ := off_append (q := q) h
    exact ⟨by simp only [List.cons_append, off, h1, Nat.add_assoc], by simp only [List.cons_append, tyP, h2], by simp only [List.cons_append, okP]; exact fun a b => ⟨a.1, h3 a.2 b⟩⟩
  | .int _, .fld _ :: _, _, _, h | .int _, .idx _ :: _, _, _, h | .bool, .fld _ :: _, _, _, h | .bool, .idx _ :: _, _, _, h
  | .str, .fld _ :: _, _, _, h | .str, .idx _ :: _, _, _, h | .raw _, .fld _ :: _, _, _, h | .raw _, .idx _ :: _, _, _, h
  | .unit, .fld _ :: _, _, _, h | .unit, .idx _ :: _, _, _, h | .slice _, .fld _ :: _, _, _, h | .slice _, .idx _ :: _, _, _, h
  | .pair _ _, .idx _ :: _, _, _, h | .arr _ _, .fld _ :: _, _, _, h => by simp [tyP] at h
theorem run_fieldAt {t : TypeId} {τ σ : ETy} {b o f : Nat} (ht : GoodTy C.P t τ) (hs : tyP τ [.fld f] = some σ) (hz : σ.size ≠ 0) :
    (Instr.fieldAt t (.pointer (some ⟨b, o, none⟩)) f).run C.P w = .ok (.pointer (some ⟨b, o + off τ [.fld f], none⟩)) w := by
  obtain ⟨fs, fd, i, h1, h2, h3, h4, h5, h6⟩ := field_of ht hs
  have hne : C.P.cellsOf fd.type ≠ 0 := by simp [Program.cellsOf, h4, h5, hz]
  simp only [Instr.fieldAt, Sem.run_bind, run_underlying h1, Result.andThen_ok, h2, Instr.sureAddr, Sem.run_pure, fieldPlace, run_sizeOf w h4, hne, if_false, add_at, h3]
theorem gives_field (hC : C.OK) {t : TypeId} {f : Nat} {a : AV} {u : Value} (hx : RepA m L w S a u) : Gives C m L w S (Instr.field t u f) (fieldA C t f a) := by
  unfold fieldA
  split
  · rename_i τ x
    split
    · rename_i ht
      intro b hb
      simp only [Option.map_eq_some_iff, Prod.mk.injEq, true_and] at hb
      obtain ⟨d, hd, rfl⟩ := hb
      have hty := getP_ty hd
      have hag : τ.agg = true := by
        cases τ with
        | pair a b => rfl
        | _ => simp [tyP] at hty
      obtain ⟨cs, rfl, hr⟩ := rep_agg_v hag hx
      obtain ⟨pre, mid, post, e1, e2, e3, _⟩ := getP_rep (okP_fld hty) hr hd
      exact ⟨_, run_field (hC.ty _ _ ht) hty e1 e2 e3.length, valOf_rep e3⟩
    · exact gives_none
  · exact gives_none
theorem gives_index (hC : C.OK) {t : TypeId} {a i : AV} {u v : Value} (hx : RepA m L w S a u) (hi : RepA m L w S i v) : Gives C m L w S (Instr.index t u v) (indexA C t a i) := by
  unfold indexA
  split
  · rename_i n e xs k i
    rw [rep_int] at hi
    subst hi
    split
    · rename_i ht
      obtain ⟨cs, rfl, hr⟩ := rep_agg_v rfl hx
      obtain ⟨h0, h1⟩ := hr
      obtain ⟨te, inf, hu, hinf, hsz, hag⟩ := und_arr (hC.ty _ _ ht)
      · by_cases hb : 0 ≤ (i : Int) ∧ (i : Int) < (n : Int)
        · obtain ⟨pre, mid, post, e1, e2, e3, _⟩ := RepL.at_ (s := e.size) (fun x c h => RepC.length h) e.z (Int.toNat i) h1 (by rw [h0]; exact toNat_lt hb.1 hb.2)
          refine gives_if (u := valOf e mid) (fun h => ?_) (valOf_rep e3)
          have := run_part' (P := C.P) (w := w) (t := te) (τ := e) (xs := cs.toArray) (pre := pre) (mid := mid) (post := post) (by simp [e1]) (isAgg_of hag w) (by rw [hinf]; rfl) (by simp [Program.cellsOf, hinf, hsz]) e3.length
          rw [e2] at this
          have hc : C.P.cellsOf te = e.size := by simp [Program.cellsOf, hinf, hsz]
          simp only [Instr.index, asIntOf, Sem.run_bind, Sem.run_pure, Result.andThen_ok, run_underlying hu, hb, and_self, if_true, run_sizeOf w hinf, hc, this]
        · intro b hbb
          simp only [Option.some.injEq, Prod.mk.injEq] at hbb
          exact absurd (idxOK_iff.1 hbb.1) hb
    · exact gives_none
  · rename_i s k i
    rw [rep_int] at hi
    rw [rep_str] at hx
    subst hi; subst hx
    split
    · rename_i ht
      refine gives_if (u := .int .u8 (bAt s (Int.toNat i))) (fun h => ?_) (rep_int.2 rfl)
      obtain ⟨h1, h2⟩ := idxOK_iff.1 h
      have hu := und_str (hC.ty _ _ ht)
      have hlt : Int.toNat i < s.size := by omega
      have hg : s[Int.toNat i]? = some s[Int.toNat i] := by simp [hlt]
      simp only [Instr.index, asIntOf, Sem.run_bind, Sem.run_pure, Result.andThen_ok, run_underlying hu, h1, if_true, hg]
      congr 2
      unfold bAt
      simp [List.getD_eq_getElem?_getD, ByteArray.getElem_eq_getElem_data, hlt]
    · exact gives_none
  · exact gives_none
end
end
section
set_option linter.unusedVariables false
set_option linter.unusedSimpArgs false
set_option maxHeartbeats 200000
def elemTy : Option ETy → Option (Nat × ETy)
  | some (.arr n e) => some (n, e)
  | _ => none
def indexAddrA (C : Cfg) (t : TypeId) (L : Heap) : AV → AV → R
  | .vp T x p, .v (.int _) i => (elemTy (tyP T p)).bind fun q => if C.Ty t = some (.arr q.1 q.2) then some (idxOK i q.1, .vp T x (p ++ [.idx (Int.toNat i)])) else none
  | .ref id p, .v (.int _) i => match L[id]? with
    | some (.box T _ _) => (elemTy (tyP T p)).bind fun q => if C.Ty t = some (.arr q.1 q.2) then some (idxOK i q.1, .ref id (p ++ [.idx (Int.toNat i)])) else none
    | _ => none
  | .v (.slice e) xs, .v (.int _) i => if C.Ty t = some (.slice e) then some (idxOK i (List.length xs), .vp (.arr (List.length xs) e) xs [.idx (Int.toNat i)]) else none
  | .ls id p lo n, .v (.int _) i => match L[id]? with
    | some (.box T _ _) => (elemTy (tyP T p)).bind fun q => if C.Ty t = some (.slice q.2) then some (idxOK i n, .ref id (p ++ [.idx (lo + Int.toNat i)])) else none
    | _ => none
  | .rs id, .v (.int _) i => match L[id]? with
    | some (.row _ e xs _) => if C.Ty t = some (.slice e) then some (idxOK i (List.length xs), .rref id (Int.toNat i) []) else none
    | _ => none
  | .lr id lo n, .v (.int _) i => match L[id]? with
    | some (.row _ e _ _) => if C.Ty t = some (.slice e) then some (idxOK i n, .rref id (lo + Int.toNat i) []) else none
    | _ => none
  | _, _ => none
def subC : Option Int → Option Int → Nat → Bool
  | none, none, _ => true
  | some l, none, n => decide (0 ≤ l) && decide (l ≤ (n : Int))
  | none, some h, n => decide (0 ≤ h) && decide (h ≤ (n : Int))
  | some l, some h, n => decide (0 ≤ l) && decide (l ≤ h) && decide (h ≤ (n : Int))
def subLo : Option Int → Nat
  | none => 0
  | some l => l.toNat
def subHi : Option Int → Nat → Nat
  | none, n => n
  | some h, _ => h.toNat
def subL {α : Type} : Option Int → Option Int → List α → List α
  | none, none, xs => xs
  | some l, none, xs => xs.drop l.toNat
  | none, some h, xs => xs.take h.toNat
  | some l, some h, xs => (xs.take h.toNat).drop l.toNat
def subS (lo hi : Option Int) (s : ByteArray) : ByteArray := s.extract (subLo lo) (subHi hi s.size)
def bndA : Option AV → Option (Option Int)
  | none => some none
  | some (.v (.int _) i) => some (some i)
  | _ => none
def sliceA (C : Cfg) (t : TypeId) (L : Heap) (a : AV) (lo hi : Option AV) : R :=
  (bndA lo).bind fun l => (bndA hi).bind fun h =>
  match a with
  | .v .str s => if C.Ty t = some .str then some (subC l h (ByteArray.size s), .v .str (subS l h s)) else none
  | .v (.slice e) xs => if C.Ty t = some (.slice e) then some (subC l h (List.length xs), .v (.slice e) (subL l h xs)) else none
  | .ref id p => match L[id]? with
    | some (.box T _ _) => (elemTy (tyP T p)).bind fun q => if C.Ty t = some (.arr q.1 q.2) then some (subC l h q.1, .ls id p (subLo l) (subHi h q.1 - subLo l)) else none
    | _ => none
  | .ls id p o n => match L[id]? with
    | some (.box T _ _) => (elemTy (tyP T p)).bind fun q => if C.Ty t = some (.slice q.2) then some (subC l h n, .ls id p (o + subLo l) (subHi h n - subLo l)) else none
    | _ => none
  | .rs id => match L[id]? with
    | some (.row _ e xs _) => if C.Ty t = some (.slice e) then some (subC l h (List.length xs), .lr id (subLo l) (subHi h (List.length xs) - subLo l)) else none
    | _ => none
  | .lr id o n => match L[id]? with
    | some (.row _ e _ _) => if C.Ty t = some (.slice e) then some (subC l h n, .lr id (o + subLo l) (subHi h n - subLo l)) else none
    | _ => none
  | _ => none
def intA (k : IntKind) (n : Int) : AV := .v (.int k) n
def lenA (C : Cfg) (t : TypeId) (L : Heap) (a : AV) : R :=
  match C.Ty t with
  | some .str => match a with | .v .str s => ok1 (intA .i64 (ByteArray.size s)) | _ => none
  | some (.slice _) => match a with
    | .v (.slice _) xs => ok1 (intA .i64 (List.length xs))
    | .ls id p _ n => match L[id]? with | some (.box T _ _) => (elemTy (tyP T p)).bind fun _ => ok1 (intA .i64 n) | _ => none
    | .cst (.slice _ n _) => ok1 (intA .i64 n)
    | .rs id => match L[id]? with | some (.row _ _ xs _) => ok1 (intA .i64 xs.length) | _ => none
    | .lr id _ n => match L[id]? with | some (.row _ _ _ _) => ok1 (intA .i64 n) | _ => none
    | _ => none
  | some (.arr n _) => ok1 (intA .i64 n)
  | _ => none
section
variable {C : Cfg} {B : Nat} {m : Nat → Value} {L : Heap} {w : World} {S : Nat → Nat → Prop}
theorem elemTy_eq {o : Option ETy} {q : Nat × ETy} (h : elemTy o = some q) : o = some (.arr q.1 q.2) := by
  unfold elemTy at h
  split at h
  · simp only [Option.some.injEq] at h; subst h; rfl
  · cases h
theorem gives_bind {α : Type} {s : Sem Value} {o : Option α} {f : α → R} (h : ∀ x, o = some x → Gives C m L w S s (f x)) : Gives C m L w S s (o.bind f) := by
  cases o with
  | none => exact gives_none
  | some x => exact h x rfl
theorem gives_ite {s : Sem Value} {c : Prop} [Decidable c] {r : R} (h : c → Gives C m L w S s r) : Gives C m L w S s (if c then r else none) := by
  split
  · rename_i hc; exact h hc
  · exact gives_none
theorem gives_fieldAddr (hC : C.OK) {t : TypeId} {f : Nat} {a : AV} {u : Value} (hx : RepA m L w S a u) : Gives C m L w S (Instr.fieldAt t u f) (fieldAddrA C t L f a) := by
  unfold fieldAddrA
  split
  · rename_i T x p
    refine gives_bind fun τ hp => gives_ite fun ht => gives_bind fun σ hσ => ?_
    split
    · exact gives_none
    · rename_i hz
      simp only [RepA] at hx
      obtain ⟨h0, b, o, cs, rfl, h1, h2⟩ := hx
      obtain ⟨q1, q2, q3⟩ := off_append (q := [.fld f]) hp
      refine gives_ok1 (run_fieldAt (hC.ty _ _ ht) hσ hz) ?_
      simp only [RepA]
      exact ⟨q3 h0 (okP_fld hσ), b, o, cs, by rw [q1, Nat.add_assoc], h1, h2⟩
  · rename_i id p
    split
    · rename_i T x ro hL
      refine gives_bind fun τ hp => gives_ite fun ht => gives_bind fun σ hσ => ?_
      split
      · exact gives_none
      · rename_i hz
        simp only [RepA] at hx
        obtain ⟨s, h1, h2, h3⟩ := hx
        rw [hL] at h1; cases h1
        obtain ⟨h0, b, hm, rfl⟩ := h3.1 T rfl
        obtain ⟨q1, q2, q3⟩ := off_append (q := [.fld f]) hp
        refine gives_ok1 (run_fieldAt (hC.ty _ _ ht) hσ hz) ?_
        simp only [RepA]
        refine ⟨_, hL, h2, fun T' e => ?_, fun o e => by cases e⟩
        cases e
        exact ⟨q3 h0 (okP_fld hσ), b, hm, by rw [q1]⟩
    · exact gives_none
  · rename_i id i p
    split
    · rename_i t' e xs ro hL
      refine gives_bind fun τ hp => gives_ite fun ht => gives_bind fun σ hσ => ?_
      split
      · exact gives_none
      · rename_i hz
        simp only [RepA] at hx
        obtain ⟨s, h1, h2, h3⟩ := hx
        rw [hL] at h1; cases h1
        obtain ⟨hi, h0, b, n, c, hm, rfl⟩ := h3 t' e xs ro rfl
        obtain ⟨q1, q2, q3⟩ := off_append (q := [.fld f]) hp
        refine gives_ok1 (run_fieldAt (hC.ty _ _ ht) hσ hz) ?_
        simp only [RepA]
        refine ⟨_, hL, h2, fun t'' e' xs' ro' e => ?_⟩
        cases e
        exact ⟨hi, q3 h0 (okP_fld hσ), b, n, c, hm, by rw [q1, Nat.add_assoc]⟩
    · exact gives_none
  · exact gives_none
theorem cellsAt_mid {b o : Nat} {pre mid post : List Value} (h : CellsAt w b o (pre ++ mid ++ post)) : CellsAt w b (o + pre.length) mid := by
  intro j hj
  have := h (pre.length + j) (by simp; omega)
  rw [Nat.add_assoc, this]
  simp [List.getElem_append, hj]
theorem cellsAt_block {b : Nat} {cs : List Value} {el : TypeId} {fr : Nat × Nat} (h : w.heap[b]? = some (.cells cs.toArray el fr)) : CellsAt w b 0 cs := by
  intro j hj
  rw [cell_of_block h]
  simp [hj]
theorem row_cells {t : TypeId} {sz n : Nat} {v : Value} {cs : List Value} (h : w.ownsRow B t sz v n cs) {b c k : Nat} (hv : v = .slice (some ⟨b, 0, none⟩) k c) : CellsAt w b 0 cs := by
  intro j hj
  have := h.cells (g := b) (by rw [hv]; rfl) j cs[j] (by simp)
  rw [add_at] at this
  exact this
theorem gives_load (hC : C.OK) (hI : Inv B m L w S) {t : TypeId} {a : AV} {u : Value} (hx : RepA m L w S a u) : Gives C m L w S (Instr.loadAt t u) (loadA C t L a) := by
  unfold loadA
  split
  · rename_i T x p
    refine gives_bind fun d hd => gives_ite fun ht => ?_
    simp only [RepA] at hx
    obtain ⟨h0, b, o, cs, rfl, h1, h2⟩ := hx
    obtain ⟨pre, mid, post, rfl, e2, e3, _⟩ := getP_rep h0 h1 hd
    refine gives_ok1 ?_ (valOf_rep e3)
    simp only [Instr.loadAt, Instr.sureAddr, Sem.run_bind, Sem.run_pure, Result.andThen_ok]
    rw [← e2]
    exact run_loadVar' (hC.ty _ _ ht) e3.length (cellsAt_mid fun j hj => (h2 j hj).1)
  · rename_i id p
    split
    · rename_i T x ro hL
      refine gives_bind fun d hd => gives_ite fun ht => ?_
      simp only [RepA] at hx
      obtain ⟨s, h1, h2, h3⟩ := hx
      rw [hL] at h1; cases h1
      obtain ⟨h0, b, hm, rfl⟩ := h3.1 T rfl
      obtain ⟨b', cs, el, fr, hm', hB, hb, hfr, hr⟩ := hI.box id T x ro hL
      rw [hm] at hm'; cases hm'
      obtain ⟨pre, mid, post, rfl, e2, e3, _⟩ := getP_rep h0 hr hd
      refine gives_ok1 ?_ (valOf_rep e3)
      simp only [Instr.loadAt, Instr.sureAddr, Sem.run_bind, Sem.run_pure, Result.andThen_ok]
      rw [← e2]
      have := cellsAt_mid (cellsAt_block hb)
      rw [Nat.zero_add] at this
      exact run_loadVar' (hC.ty _ _ ht) e3.length this
    · exact gives_none
  · rename_i id i p
    split
    · rename_i t' e xs ro hL
      refine gives_bind fun d hd => gives_ite fun ht => ?_
      simp only [RepA] at hx
      obtain ⟨s, h1, h2, h3⟩ := hx
      rw [hL] at h1; cases h1
      obtain ⟨hi, h0, b, n, c, hm, rfl⟩ := h3 t' e xs ro rfl
      obtain ⟨cs, ho, hr⟩ := hI.row id t' e xs ro hL
      obtain ⟨pre, mid, post, rfl, e2, e3, _⟩ := RepL.at_ (s := e.size) (fun x c h => RepC.length h) e.z i hr hi
      obtain ⟨pre', mid', post', rfl, e2', e3', _⟩ := getP_rep h0 e3 hd
      refine gives_ok1 ?_ (valOf_rep e3')
      simp only [Instr.loadAt, Instr.sureAddr, Sem.run_bind, Sem.run_pure, Result.andThen_ok]
      have h5 : CellsAt w b 0 ((pre ++ pre') ++ mid' ++ (post' ++ post)) := by
        have := row_cells ho hm
        simpa using this
      have := cellsAt_mid h5
      rw [Nat.zero_add, List.length_append, e2, e2'] at this
      exact run_loadVar' (hC.ty _ _ ht) e3'.length this
    · exact gives_none
  · exact gives_none
theorem run_indexAt_arr {t te : TypeId} {n : Nat} {e : ETy} {i : TypeInfo} {b o : Nat} {k : IntKind} {ix : Int} (hu : C.P.underlying t = some (.array n te)) (hi : C.P.info? te = some i) (hs : i.size = e.size) (h0 : 0 ≤ ix) (h1 : ix < (n : Int)) :
    (Instr.indexAt t (.pointer (some ⟨b, o, none⟩)) (.int k ix)).run C.P w = .ok (.pointer (some ⟨b, o + ix.toNat * e.size, none⟩)) w := by
  have hc : C.P.cellsOf te = e.size := by simp [Program.cellsOf, hi, hs]
  simp only [Instr.indexAt, asIntOf, Sem.run_bind, Sem.run_pure, Result.andThen_ok, run_underlying hu, Instr.sureAddr, h0, h1, and_self, if_true, run_sizeOf w hi, hc, add_at]
theorem run_indexAt_slice {t te : TypeId} {n c : Nat} {e : ETy} {i : TypeInfo} {b o : Nat} {k : IntKind} {ix : Int} (hu : C.P.underlying t = some (.slice te)) (hi : C.P.info? te = some i) (hs : i.size = e.size) (h0 : 0 ≤ ix) (h1 : ix < (n : Int)) :
    (Instr.indexAt t (.slice (some ⟨b, o, none⟩) n c) (.int k ix)).run C.P w = .ok (.pointer (some ⟨b, o + ix.toNat * e.size, none⟩)) w := by
  have hc : C.P.cellsOf te = e.size := by simp [Program.cellsOf, hi, hs]
  simp only [Instr.indexAt, asIntOf, Sem.run_bind, Sem.run_pure, Result.andThen_ok, run_underlying hu, h0, h1, and_self, if_true, run_sizeOf w hi, hc, add_at]
theorem okP_idx {n i : Nat} {e : ETy} (h : i < n) : okP (.arr n e) [.idx i] := by simp [okP, h]
theorem gives_indexAddr (hC : C.OK) (hI : Inv B m L w S) {t : TypeId} {a i : AV} {u v : Value} (hx : RepA m L w S a u) (hi : RepA m L w S i v) : Gives C m L w S (Instr.indexAt t u v) (indexAddrA C t L a i) := by
  unfold indexAddrA
  split
  · rename_i T x p k i
    rw [rep_int] at hi; subst hi
    refine gives_bind fun q hq => gives_ite fun ht => ?_
    intro z hz
    simp only [Option.some.injEq, Prod.mk.injEq] at hz
    obtain ⟨hb, rfl⟩ := hz
    obtain ⟨b1, b2⟩ := idxOK_iff.1 hb
    simp only [RepA] at hx
    obtain ⟨h0, b, o, cs, rfl, h1, h2⟩ := hx
    obtain ⟨te, inf, hu, hinf, hsz, hag⟩ := und_arr (hC.ty _ _ ht)
    obtain ⟨q1, q2, q3⟩ := off_append (q := [.idx (Int.toNat i)]) (elemTy_eq hq)
    refine ⟨_, run_indexAt_arr hu hinf hsz b1 b2, ?_⟩
    simp only [RepA]
    exact ⟨q3 h0 (okP_idx (toNat_lt b1 b2)), b, o, cs, by rw [q1]; simp [off, Nat.add_assoc], h1, h2⟩
  · rename_i id p k i
    rw [rep_int] at hi; subst hi
    split
    · rename_i T x ro hL
      refine gives_bind fun q hq => gives_ite fun ht => ?_
      intro z hz
      simp only [Option.some.injEq, Prod.mk.injEq] at hz
      obtain ⟨hb, rfl⟩ := hz
      obtain ⟨b1, b2⟩ := idxOK_iff.1 hb
      simp only [RepA] at hx
      obtain ⟨s, h1, h2, h3⟩ := hx
      rw [hL] at h1; cases h1
      obtain ⟨h0, b, hm, rfl⟩ := h3.1 T rfl
      obtain ⟨te, inf, hu, hinf, hsz, hag⟩ := und_arr (hC.ty _ _ ht)
      obtain ⟨q1, q2, q3⟩ := off_append (q := [.idx (Int.toNat i)]) (elemTy_eq hq)
      refine ⟨_, run_indexAt_arr hu hinf hsz b1 b2, ?_⟩
      simp only [RepA]
      refine ⟨_, hL, h2, fun T' e => ?_, fun o e => by cases e⟩
      cases e
      exact ⟨q3 h0 (okP_idx (toNat_lt b1 b2)), b, hm, by rw [q1]; simp [off]⟩
    · exact gives_none
  · rename_i e xs k i
    rw [rep_int] at hi; subst hi
    refine gives_ite fun ht => ?_
    intro z hz
    simp only [Option.some.injEq, Prod.mk.injEq] at hz
    obtain ⟨hb, rfl⟩ := hz
    obtain ⟨b1, b2⟩ := idxOK_iff.1 hb
    rw [rep_v] at hx
    obtain ⟨cs, hr, rfl⟩ := hx
    obtain ⟨A, cap, rfl, hcap, hr⟩ := hr
    have hlt := toNat_lt b1 b2
    rcases hr with rfl | ⟨b, o, ds, rfl, h1, h2⟩
    · simp at hlt
    · obtain ⟨te, inf, hu, hinf, hsz, _, hag⟩ := und_slice (hC.ty _ _ ht)
      refine ⟨_, run_indexAt_slice hu hinf hsz b1 b2, ?_⟩
      simp only [RepA]
      exact ⟨okP_idx hlt, b, o, ds, by simp [off], ⟨rfl, h1⟩, h2⟩
  · rename_i id p lo n k i
    rw [rep_int] at hi; subst hi
    split
    · rename_i T x ro hL
      refine gives_bind fun q hq => gives_ite fun ht => ?_
      intro z hz
      simp only [Option.some.injEq, Prod.mk.injEq] at hz
      obtain ⟨hb, rfl⟩ := hz
      obtain ⟨b1, b2⟩ := idxOK_iff.1 hb
      simp only [RepA] at hx
      obtain ⟨s, h1, h2, h3⟩ := hx
      rw [hL] at h1; cases h1
      obtain ⟨h0, hn, b, A, c, hc, hm, rfl, hA⟩ := h3 T rfl q.1 q.2 (elemTy_eq hq)
      have hlt := toNat_lt b1 b2
      obtain rfl := hA.resolve_left (by omega)
      obtain ⟨te, inf, hu, hinf, hsz, _, hag⟩ := und_slice (hC.ty _ _ ht)
      obtain ⟨q1, q2, q3⟩ := off_append (q := [.idx (lo + Int.toNat i)]) (elemTy_eq hq)
      refine ⟨_, run_indexAt_slice hu hinf hsz b1 b2, ?_⟩
      simp only [RepA]
      refine ⟨_, hL, h2, fun T' e => ?_, fun o e => by cases e⟩
      cases e
      refine ⟨q3 h0 (okP_idx (by omega)), b, hm, ?_⟩
      rw [q1]
      simp only [off, Nat.add_zero, Nat.add_mul, Nat.add_assoc]
    · exact gives_none
  · rename_i id k i
    rw [rep_int] at hi; subst hi
    split
    · rename_i t' e xs ro hL
      refine gives_ite fun ht => ?_
      intro z hz
      simp only [Option.some.injEq, Prod.mk.injEq] at hz
      obtain ⟨hb, rfl⟩ := hz
      obtain ⟨b1, b2⟩ := idxOK_iff.1 hb
      simp only [RepA] at hx
      obtain ⟨s, h1, h2, h3⟩ := hx
      rw [hL] at h1; cases h1
      obtain rfl := h3 t' e xs ro rfl
      obtain ⟨cs, ho, hr⟩ := hI.row id t' e xs ro hL
      have hlt := toNat_lt b1 b2
      rcases ho.2 with ⟨hv, hn⟩ | ⟨g, cap, cur, hv, hg⟩
      · omega
      · obtain ⟨te, inf, hu, hinf, hsz, _, hag⟩ := und_slice (hC.ty _ _ ht)
        rw [hv]
        refine ⟨_, run_indexAt_slice hu hinf hsz b1 b2, ?_⟩
        simp only [RepA]
        refine ⟨_, hL, h2, fun t'' e' xs' ro' e => ?_⟩
        cases e
        exact ⟨hlt, by simp [okP], g, _, cap, hv, by simp [off]⟩
    · exact gives_none
  · rename_i id lo n k i
    rw [rep_int] at hi; subst hi
    split
    · rename_i t' e xs ro hL
      refine gives_ite fun ht => ?_
      intro z hz
      simp only [Option.some.injEq, Prod.mk.injEq] at hz
      obtain ⟨hb, rfl⟩ := hz
      obtain ⟨b1, b2⟩ := idxOK_iff.1 hb
      simp only [RepA] at hx
      obtain ⟨s, h1, h2, h3⟩ := hx
      rw [hL] at h1; cases h1
      obtain ⟨hn, A, c, hc, rfl, hA⟩ := h3 t' e xs ro rfl
      have hlt := toNat_lt b1 b2
      obtain ⟨g, k, c1, hm, rfl⟩ := hA.resolve_left (by omega)
      obtain ⟨te, inf, hu, hinf, hsz, _, hag⟩ := und_slice (hC.ty _ _ ht)
      refine ⟨_, run_indexAt_slice hu hinf hsz b1 b2, ?_⟩
      simp only [RepA]
      refine ⟨_, hL, h2, fun t'' e' xs' ro' e => ?_⟩
      cases e
      exact ⟨by omega, by simp [okP], g, k, c1, hm, by simp [off, Nat.add_mul]⟩
    · exact gives_none
  · exact gives_none
end
end
section
set_option linter.unusedVariables false
set_option linter.unusedSimpArgs false
set_option maxHeartbeats 200000
section
variable {C : Cfg} {B : Nat} {m : Nat → Value} {L : Heap} {w : World} {S : Nat → Nat → Prop}
def RepO (m : Nat → Value) (L : Heap) (w : World) (S : Nat → Nat → Prop) : Option AV → Option Value → Prop
  | none, none => True
  | some a, some u => RepA m L w S a u
  | _, _ => False
theorem bnd_rep {a : Option AV} {u : Option Value} {l : Option Int} (h : RepO m L w S a u) (hb : bndA a = some l) : (a = none ∧ u = none ∧ l = none) ∨ ∃ k i, u = some (.int k i) ∧ l = some i := by
  cases a with
  | none => cases u with
    | none => simp only [bndA, Option.some.injEq] at hb; exact .inl ⟨rfl, rfl, hb.symm⟩
    | some _ => simp [RepO] at h
  | some a => cases u with
    | none => simp [RepO] at h
    | some u =>
      simp only [RepO] at h
      unfold bndA at hb
      split at hb
      · rename_i ha; cases ha
      · rename_i k i ha
        cases ha
        simp only [Option.some.injEq] at hb
        rw [rep_int] at h
        exact .inr ⟨k, i, by rw [h], hb.symm⟩
      · cases hb
theorem run_sliceBound {k : IntKind} {i : Int} {y : Nat} {code : BoundsCode} (h0 : 0 ≤ i) (h1 : i ≤ (y : Int)) : (Instr.sliceBound (.int k i) y code).run C.P w = .ok i.toNat w := by
  simp only [Instr.sliceBound, asIntOf, Sem.run_bind, Sem.run_pure, Result.andThen_ok, h0, h1, and_self, if_true]
theorem run_sliceBounds {sl : Bool} {n cap : Nat} {lo hi : Option AV} {lv hv : Option Value} {l h : Option Int} (hl : RepO m L w S lo lv) (hh : RepO m L w S hi hv) (bl : bndA lo = some l) (bh : bndA hi = some h)
    (hc : subC l h n = true) (hn : n ≤ cap) : (Instr.sliceBounds sl n cap lv hv none).run C.P w = .ok (subLo l, subHi h n, cap) w ∧ subLo l ≤ subHi h n ∧ subHi h n ≤ n := by
  rcases bnd_rep hl bl with ⟨_, rfl, rfl⟩ | ⟨k, i, rfl, rfl⟩ <;> rcases bnd_rep hh bh with ⟨_, rfl, rfl⟩ | ⟨k', j, rfl, rfl⟩ <;> simp only [subC, Bool.and_eq_true, decide_eq_true_eq] at hc <;>
    refine ⟨?_, ?_, ?_⟩ <;> (try simp only [subLo, subHi]) <;> (try omega)
  · simp only [Instr.sliceBounds, Sem.run_bind, Sem.run_pure, Result.andThen_ok]
  · simp only [Instr.sliceBounds, Sem.run_bind, Sem.run_pure, Result.andThen_ok]
    rw [run_sliceBound hc.1 (by omega)]; rfl
  · simp only [Instr.sliceBounds, Sem.run_bind, Sem.run_pure, Result.andThen_ok]
    rw [run_sliceBound hc.1 hc.2]; rfl
  · simp only [Instr.sliceBounds, Sem.run_bind, Sem.run_pure, Result.andThen_ok]
    rw [run_sliceBound (by omega) (by omega)]
    simp only [Result.andThen_ok]
    rw [run_sliceBound hc.1.1 (by omega)]; rfl
theorem subL_eq {α : Type} (l h : Option Int) (xs : List α) : subL l h xs = (xs.take (subHi h xs.length)).drop (subLo l) := by
  cases l <;> cases h <;> simp [subL, subLo, subHi]
theorem rep_sub {e : ETy} {xs : List e.I} {ds : List Value} {b o lo hi : Nat} (h1 : RepL (RepC w S e) xs ds) (h2 : ∀ j (h : j < ds.length), w.cell? ⟨b, o + j, none⟩ = some ds[j] ∧ S b (o + j)) (hlo : lo ≤ hi) (hhi : hi ≤ xs.length) :
    ∃ es, RepL (RepC w S e) ((xs.take hi).drop lo) es ∧ ∀ j (h : j < es.length), w.cell? ⟨b, o + lo * e.size + j, none⟩ = some es[j] ∧ S b (o + lo * e.size + j) := by
  have hl : ∀ x c, RepC w S e x c → c.length = e.size := fun x c h => RepC.length h
  have t1 := (RepL.take hl hi h1).1
  have t2 := (RepL.take hl lo t1).2
  refine ⟨_, t2, fun j hj => ?_⟩
  simp only [List.length_drop, List.length_take] at hj
  have := h2 (lo * e.size + j) (by omega)
  rw [Nat.add_assoc]
  simpa using this
theorem gives_slice (hC : C.OK) (hI : Inv B m L w S) {t : TypeId} {a : AV} {u : Value} {lo hi : Option AV} {lv hv : Option Value} (hx : RepA m L w S a u) (hl : RepO m L w S lo lv) (hh : RepO m L w S hi hv) :
    Gives C m L w S (Instr.sliceAt t u lv hv none) (sliceA C t L a lo hi) := by
  unfold sliceA
  refine gives_bind fun l bl => gives_bind fun h bh => ?_
  split
  · rename_i s
    rw [rep_str] at hx; subst hx
    refine gives_ite fun ht => ?_
    refine gives_if (u := .string (subS l h s)) (fun hc => ?_) (rep_str.2 rfl)
    obtain ⟨r1, r2, r3⟩ := run_sliceBounds (C := C) (sl := false) (cap := s.size) hl hh bl bh hc (Nat.le_refl _)
    have hu := und_str (hC.ty _ _ ht)
    simp only [Instr.sliceAt, Instr.slice, Sem.run_bind, run_underlying hu, Result.andThen_ok, Option.isSome_none, Bool.false_eq_true, if_false, Sem.run_pure, r1]
    rfl
  · rename_i e xs
    refine gives_ite fun ht => ?_
    rw [rep_v] at hx
    obtain ⟨cs, hr, rfl⟩ := hx
    obtain ⟨A, cap, rfl, hcap, hr⟩ := hr
    intro z hz
    simp only [Option.some.injEq, Prod.mk.injEq] at hz
    obtain ⟨hc, rfl⟩ := hz
    obtain ⟨r1, r2, r3⟩ := run_sliceBounds (C := C) (sl := true) (cap := cap) hl hh bl bh hc hcap
    obtain ⟨te, inf, hu, hinf, hsz, _, hag⟩ := und_slice (hC.ty _ _ ht)
    have hce : C.P.cellsOf te = e.size := by simp [Program.cellsOf, hinf, hsz]
    have hrun : (Instr.sliceAt t (.slice A (List.length xs) cap) lv hv none).run C.P w = .ok (.slice (if cap = subLo l then A else A.map (·.add (subLo l * e.size))) (subHi h xs.length - subLo l) (cap - subLo l)) w := by
      simp only [Instr.sliceAt, Instr.slice, Sem.run_bind, run_underlying hu, Result.andThen_ok, Sem.run_pure, r1, run_sizeOf w hinf, hce]
    refine ⟨_, hrun, ?_⟩
    rw [rep_v, subL_eq]
    have hlen : ((xs.take (subHi h xs.length)).drop (subLo l)).length = subHi h xs.length - subLo l := by simp; omega
    refine ⟨[_], ?_, rfl⟩
    simp only [RepC]
    refine ⟨_, cap - subLo l, by rw [hlen], by rw [hlen]; omega, ?_⟩
    rcases hr with rfl | ⟨b, o, ds, rfl, h1, h2⟩
    · left; simp
    · by_cases hcl : cap = subLo l
      · left
        apply List.eq_nil_of_length_eq_zero
        rw [hlen]; omega
      · right
        obtain ⟨es, q1, q2⟩ := rep_sub (lo := subLo l) (hi := subHi h xs.length) h1 h2 r2 r3
        exact ⟨b, o + subLo l * e.size, es, by simp [hcl, add_at], q1, q2⟩
  · rename_i id p
    split
    · rename_i T x ro hL
      refine gives_bind fun q hq => gives_ite fun ht => ?_
      intro z hz
      simp only [Option.some.injEq, Prod.mk.injEq] at hz
      obtain ⟨hc, rfl⟩ := hz
      simp only [RepA] at hx
      obtain ⟨s, h1, h2, h3⟩ := hx
      rw [hL] at h1; cases h1
      obtain ⟨h0, b, hm, rfl⟩ := h3.1 T rfl
      obtain ⟨r1, r2, r3⟩ := run_sliceBounds (C := C) (sl := false) (cap := q.1) hl hh bl bh hc (Nat.le_refl _)
      obtain ⟨te, inf, hu, hinf, hsz, hag⟩ := und_arr (hC.ty _ _ ht)
      have hce : C.P.cellsOf te = q.2.size := by simp [Program.cellsOf, hinf, hsz]
      refine ⟨.slice (some (if q.1 = subLo l then ⟨b, off T p, none⟩ else (⟨b, off T p, none⟩ : Addr).add (subLo l * q.2.size))) (subHi h q.1 - subLo l) (q.1 - subLo l), ?_, ?_⟩
      · simp only [Instr.sliceAt, Sem.run_bind, run_underlying hu, Result.andThen_ok, Instr.sureAddr, Sem.run_pure, r1, run_sizeOf w hinf, hce]
      · simp only [RepA]
        refine ⟨_, hL, h2, fun T' e => ?_⟩
        cases e
        intro N e' hN
        rw [elemTy_eq hq] at hN
        cases hN
        refine ⟨h0, by omega, b, _, _, by omega, hm, rfl, ?_⟩
        by_cases hq1 : q.1 = subLo l
        · left; omega
        · right; simp [hq1, add_at]
    · exact gives_none
  · rename_i id p o n
    split
    · rename_i T x ro hL
      refine gives_bind fun q hq => gives_ite fun ht => ?_
      intro z hz
      simp only [Option.some.injEq, Prod.mk.injEq] at hz
      obtain ⟨hc, rfl⟩ := hz
      simp only [RepA] at hx
      obtain ⟨s, h1, h2, h3⟩ := hx
      rw [hL] at h1; cases h1
      obtain ⟨h0, hn, b, A, cap, hcap, hm, rfl, hA⟩ := h3 T rfl q.1 q.2 (elemTy_eq hq)
      obtain ⟨r1, r2, r3⟩ := run_sliceBounds (C := C) (sl := true) (cap := cap) hl hh bl bh hc hcap
      obtain ⟨te, inf, hu, hinf, hsz, _, hag⟩ := und_slice (hC.ty _ _ ht)
      have hce : C.P.cellsOf te = q.2.size := by simp [Program.cellsOf, hinf, hsz]
      refine ⟨.slice (if cap = subLo l then A else A.map (·.add (subLo l * q.2.size))) (subHi h n - subLo l) (cap - subLo l), ?_, ?_⟩
      · simp only [Instr.sliceAt, Instr.slice, Sem.run_bind, run_underlying hu, Result.andThen_ok, Sem.run_pure, r1, run_sizeOf w hinf, hce]
      · simp only [RepA]
        refine ⟨_, hL, h2, fun T' e => ?_⟩
        cases e
        intro N e' hN
        rw [elemTy_eq hq] at hN
        cases hN
        refine ⟨h0, by omega, b, _, _, by omega, hm, rfl, ?_⟩
        by_cases hq1 : cap = subLo l
        · left; omega
        · rcases hA with hA | rfl
          · left; omega
          · right; simp [hq1, add_at, Nat.add_mul, Nat.add_assoc]
    · exact gives_none
  · rename_i id
    split
    · rename_i t' e xs ro hL
      refine gives_ite fun ht => ?_
      intro z hz
      simp only [Option.some.injEq, Prod.mk.injEq] at hz
      obtain ⟨hc, rfl⟩ := hz
      simp only [RepA] at hx
      obtain ⟨s, h1, h2, h3⟩ := hx
      rw [hL] at h1; cases h1
      obtain rfl := h3 t' e xs ro rfl
      obtain ⟨cs, ho, hr⟩ := hI.row id t' e xs ro hL
      obtain ⟨te, inf, hu, hinf, hsz, _, hag⟩ := und_slice (hC.ty _ _ ht)
      have hce : C.P.cellsOf te = e.size := by simp [Program.cellsOf, hinf, hsz]
      obtain ⟨A, cap, hm, hle, hA⟩ : ∃ A cap, m id = .slice A (List.length xs) cap ∧ List.length xs ≤ cap ∧ (List.length xs = 0 ∨ ∃ b, A = some ⟨b, 0, none⟩) := by
        rcases ho.2 with ⟨hv, hn⟩ | ⟨g, cap, cur, hv, hg, hh, hle, _⟩
        · exact ⟨none, 0, by rw [hv, hn], by omega, .inl hn⟩
        · exact ⟨_, cap, hv, hle, .inr ⟨g, rfl⟩⟩
      obtain ⟨r1, r2, r3⟩ := run_sliceBounds (C := C) (sl := true) (cap := cap) hl hh bl bh hc hle
      refine ⟨.slice (if cap = subLo l then A else A.map (·.add (subLo l * e.size))) (subHi h (List.length xs) - subLo l) (cap - subLo l), ?_, ?_⟩
      · rw [hm]
        simp only [Instr.sliceAt, Instr.slice, Sem.run_bind, run_underlying hu, Result.andThen_ok, Sem.run_pure, r1, run_sizeOf w hinf, hce]
      · simp only [RepA]
        refine ⟨_, hL, h2, fun t'' e' xs' ro' e => ?_⟩
        cases e
        refine ⟨by omega, _, _, by omega, rfl, ?_⟩
        by_cases hq1 : cap = subLo l
        · left; omega
        · rcases hA with hA | ⟨b, rfl⟩
          · left; omega
          · right; exact ⟨b, _, _, hm, by simp [hq1, add_at]⟩
    · exact gives_none
  · rename_i id o n
    split
    · rename_i t' e xs ro hL
      refine gives_ite fun ht => ?_
      intro z hz
      simp only [Option.some.injEq, Prod.mk.injEq] at hz
      obtain ⟨hc, rfl⟩ := hz
      simp only [RepA] at hx
      obtain ⟨s, h1, h2, h3⟩ := hx
      rw [hL] at h1; cases h1
      obtain ⟨hn, A, cap, hcap, rfl, hA⟩ := h3 t' e xs ro rfl
      obtain ⟨r1, r2, r3⟩ := run_sliceBounds (C := C) (sl := true) (cap := cap) hl hh bl bh hc hcap
      obtain ⟨te, inf, hu, hinf, hsz, _, hag⟩ := und_slice (hC.ty _ _ ht)
      have hce : C.P.cellsOf te = e.size := by simp [Program.cellsOf, hinf, hsz]
      refine ⟨.slice (if cap = subLo l then A else A.map (·.add (subLo l * e.size))) (subHi h n - subLo l) (cap - subLo l), ?_, ?_⟩
      · simp only [Instr.sliceAt, Instr.slice, Sem.run_bind, run_underlying hu, Result.andThen_ok, Sem.run_pure, r1, run_sizeOf w hinf, hce]
      · simp only [RepA]
        refine ⟨_, hL, h2, fun t'' e' xs' ro' e => ?_⟩
        cases e
        refine ⟨by omega, _, _, by omega, rfl, ?_⟩
        by_cases hq1 : cap = subLo l
        · left; omega
        · rcases hA with hA | ⟨b, k, c1, hm, rfl⟩
          · left; omega
          · right; exact ⟨b, k, c1, hm, by simp [hq1, add_at, Nat.add_mul]⟩
    · exact gives_none
  · exact gives_none
theorem run_len_str {t ty : TypeId} {s : ByteArray} {ts : Array TypeId} {us : Array Value} (ht : ts[0]? = some t) (hu0 : us[0]? = some (.string s)) (hu : C.P.underlying t = some .string) : (Builtin.len_ ts ty us).run C.P w = .ok (.int .i64 s.size) w := by
  simp only [Builtin.len_, ht, hu0, Sem.run_bind, run_underlying hu, Result.andThen_ok]; rfl
theorem run_len_slice {t ty te : TypeId} {A : Option Addr} {n c : Nat} {ts : Array TypeId} {us : Array Value} (ht : ts[0]? = some t) (hu0 : us[0]? = some (.slice A n c)) (hu : C.P.underlying t = some (.slice te)) : (Builtin.len_ ts ty us).run C.P w = .ok (.int .i64 n) w := by
  simp only [Builtin.len_, ht, hu0, Sem.run_bind, run_underlying hu, Result.andThen_ok]; rfl
theorem run_len_arr {t ty te : TypeId} {u : Value} {n : Nat} {ts : Array TypeId} {us : Array Value} (ht : ts[0]? = some t) (hu0 : us[0]? = some u) (hu : C.P.underlying t = some (.array n te)) : (Builtin.len_ ts ty us).run C.P w = .ok (.int .i64 n) w := by
  simp only [Builtin.len_, ht, hu0, Sem.run_bind, run_underlying hu, Result.andThen_ok]; rfl
theorem gives_len (hC : C.OK) (hI : Inv B m L w S) {t ty : TypeId} {a : AV} {u : Value} {ts : Array TypeId} {us : Array Value} (ht : ts[0]? = some t) (hu0 : us[0]? = some u) (hx : RepA m L w S a u) : Gives C m L w S (Builtin.len_ ts ty us) (lenA C t L a) := by
  unfold lenA
  split
  · rename_i hty
    have hu := und_str (hC.ty _ _ hty)
    split
    · rename_i s
      rw [rep_str] at hx; subst hx
      exact gives_ok1 (run_len_str ht hu0 hu) (rep_int.2 rfl)
    · exact gives_none
  · rename_i e hty
    obtain ⟨te, inf, hu, _⟩ := und_slice (hC.ty _ _ hty)
    split
    · rename_i e' xs
      rw [rep_v] at hx
      obtain ⟨cs, hr, rfl⟩ := hx
      obtain ⟨A, cap, rfl, hcap, hr⟩ := hr
      exact gives_ok1 (run_len_slice ht hu0 hu) (rep_int.2 rfl)
    · rename_i id p lo n
      split
      · rename_i T x ro hL
        refine gives_bind fun q hq => ?_
        simp only [RepA] at hx
        obtain ⟨s, h1, h2, h3⟩ := hx
        rw [hL] at h1; cases h1
        obtain ⟨h0, hn, b, A, cap, hcap, hm, rfl, hA⟩ := h3 T rfl q.1 q.2 (elemTy_eq hq)
        exact gives_ok1 (run_len_slice ht hu0 hu) (rep_int.2 rfl)
      · exact gives_none
    · rename_i A n c
      simp only [RepA] at hx
      subst hx
      exact gives_ok1 (run_len_slice ht hu0 hu) (rep_int.2 rfl)
    · rename_i id
      split
      · rename_i t' e' xs ro hL
        simp only [RepA] at hx
        obtain ⟨s, h1, h2, h3⟩ := hx
        rw [hL] at h1; cases h1
        obtain rfl := h3 t' e' xs ro rfl
        obtain ⟨cs, ho, hr⟩ := hI.row id t' e' xs ro hL
        refine gives_ok1 (u := .int .i64 xs.length) ?_ (rep_int.2 rfl)
        rcases ho.2 with ⟨hv, hn⟩ | ⟨g, cap, cur, hv, hg⟩
        · rw [hn]; rw [hv] at hu0; exact run_len_slice ht hu0 hu
        · rw [hv] at hu0; exact run_len_slice ht hu0 hu
      · exact gives_none
    · rename_i id lo n
      split
      · rename_i t' e' xs ro hL
        simp only [RepA] at hx
        obtain ⟨s, h1, h2, h3⟩ := hx
        rw [hL] at h1; cases h1
        obtain ⟨hn, A, cap, hcap, rfl, hA⟩ := h3 t' e' xs ro rfl
        exact gives_ok1 (run_len_slice ht hu0 hu) (rep_int.2 rfl)
      · exact gives_none
    · exact gives_none
  · rename_i n e hty
    obtain ⟨te, inf, hu, _⟩ := und_arr (hC.ty _ _ hty)
    exact gives_ok1 (run_len_arr ht hu0 hu) (rep_int.2 rfl)
  · exact gives_none
end
end
section
set_option linter.unusedVariables false
set_option linter.unusedSimpArgs false
set_option maxHeartbeats 400000
def maxA : List AV → AV → R
  | [], a => ok1 a
  | .v (.int k') y :: r, .v (.int k) x => maxA r (.v (.int k) (if (y : Int) > x then y else x))
  | _, _ => none
def minA : List AV → AV → R
  | [], a => ok1 a
  | .v (.int k') y :: r, .v (.int k) x => minA r (.v (.int k) (if (y : Int) < x then y else x))
  | _, _ => none
def foldA (f : List AV → AV → R) : List AV → R
  | a :: r => f r a
  | [] => none
def nilA (L : Heap) : AV → R
  | .ref id p => match L[id]? with | some (.box T x ro) => ok1 (.ref id p) | _ => none
  | .rref id i p => match L[id]? with | some (.row t e xs ro) => ok1 (.rref id i p) | _ => none
  | .vp T x p => ok1 (.vp T x p)
  | _ => none
def builtinA (C : Cfg) (L : Heap) (b : Builtin) (ts : List TypeId) (as : List AV) : R :=
  match b with
  | .len => match ts, as with | t :: _, a :: _ => lenA C t L a | _, _ => none
  | .max => foldA maxA as
  | .min => foldA minA as
  | _ => none
def rop (C : Cfg) (ρ : Operand → AV) (L : Heap) : Op → R
  | .move x => ok1 (ρ x)
  | .assign x => ok1 (ρ x)
  | .pick c a b => match ρ c with | .v .bool cb => ok1 (pickA cb (ρ a) (ρ b)) | _ => none
  | .binOp op t x y _ => binA C op t (ρ x) (ρ y)
  | .unOp op _ x => unA op (ρ x)
  | .convert s d x => convA C s d (ρ x)
  | .extract t i => extractA i (ρ t)
  | .field t x f => fieldA C t f (ρ x)
  | .index t x i => indexA C t (ρ x) (ρ i)
  | .fieldAddr t x f => fieldAddrA C t L f (ρ x)
  | .indexAddr t x i => indexAddrA C t L (ρ x) (ρ i)
  | .load t a => loadA C t L (ρ a)
  | .slice t x lo hi none => sliceA C t L (ρ x) (lo.map ρ) (hi.map ρ)
  | .nilCheck x => nilA L (ρ x)
  | .makeFunc (.func f) first caps => if first.size = 0 then ok1 (.fn f (caps.toList.map ρ)) else if caps.size = 0 then ok1 (.bm f (first.toList.map ρ)) else none
  | .call ⟨.builtin b, args, ts⟩ => builtinA C L b ts.toList (args.toList.map ρ)
  | _ => none
section
variable {C : Cfg} {B : Nat} {m : Nat → Value} {L : Heap} {w : World} {S : Nat → Nat → Prop}
theorem repAs_map {ρ : Operand → AV} {σ : Operand → Value} (h : ∀ x, RepA m L w S (ρ x) (σ x)) : ∀ l : List Operand, RepAs m L w S (l.map ρ) (l.map σ)
  | [] => by simp [RepAs]
  | x :: l => by simp only [List.map_cons, RepAs]; exact ⟨_, _, rfl, h x, repAs_map h l⟩
theorem repO_map {ρ : Operand → AV} {σ : Operand → Value} (h : ∀ x, RepA m L w S (ρ x) (σ x)) (o : Option Operand) : RepO m L w S (o.map ρ) (o.map σ) := by
  cases o with
  | none => trivial
  | some x => exact h x
theorem gives_max {l : List AV} {vs : List Value} {a : AV} {u : Value} (hl : RepAs m L w S l vs) (ha : RepA m L w S a u) : Gives C m L w S (vs.foldlM Builtin.max2 u) (maxA l a) := by
  induction l generalizing vs a u with
  | nil => simp only [RepAs] at hl; subst hl; cases a <;> exact gives_ok1 rfl ha
  | cons b l ih =>
    simp only [RepAs] at hl
    obtain ⟨v, r, rfl, h1, h2⟩ := hl
    unfold maxA
    split
    · rename_i h; cases h
    · rename_i k' y r' k x h
      cases h
      rw [rep_int] at h1 ha
      subst h1; subst ha
      intro z hz
      obtain ⟨u, q1, q2⟩ := ih h2 (rep_int.2 rfl) z hz
      exact ⟨u, by simp only [List.foldlM_cons, Sem.run_bind, Builtin.max2, Sem.run_pure, Result.andThen_ok]; exact q1, q2⟩
    · exact gives_none
theorem gives_min {l : List AV} {vs : List Value} {a : AV} {u : Value} (hl : RepAs m L w S l vs) (ha : RepA m L w S a u) : Gives C m L w S (vs.foldlM Builtin.min2 u) (minA l a) := by
  induction l generalizing vs a u with
  | nil => simp only [RepAs] at hl; subst hl; cases a <;> exact gives_ok1 rfl ha
  | cons b l ih =>
    simp only [RepAs] at hl
    obtain ⟨v, r, rfl, h1, h2⟩ := hl
    unfold minA
    split
    · rename_i h; cases h
    · rename_i k' y r' k x h
      cases h
      rw [rep_int] at h1 ha
      subst h1; subst ha
      intro z hz
      obtain ⟨u, q1, q2⟩ := ih h2 (rep_int.2 rfl) z hz
      exact ⟨u, by simp only [List.foldlM_cons, Sem.run_bind, Builtin.min2, Sem.run_pure, Result.andThen_ok]; exact q1, q2⟩
    · exact gives_none
def GivesN (C : Cfg) (m : Nat → Value) (L : Heap) (w : World) (S : Nat → Nat → Prop) (s : Sem Next) (r : R) : Prop :=
  ∀ a, r = some (true, a) → ∃ u, s.run C.P w = .ok (.value u) w ∧ RepA m L w S a u
theorem givesN_of {s : Sem Value} {r : R} (h : Gives C m L w S s r) : GivesN C m L w S (do pure (.value (← s))) r := by
  intro a ha
  obtain ⟨u, h1, h2⟩ := h a ha
  exact ⟨u, by simp only [Sem.run_bind, h1, Result.andThen_ok, Sem.run_pure], h2⟩
theorem givesN_none {s : Sem Next} : GivesN C m L w S s none := fun a h => by simp at h
theorem nil_rep {a z : AV} {u : Value} (hx : RepA m L w S a u) (hz : nilA L a = some (true, z)) : z = a ∧ ∃ ad, u = .pointer (some ad) := by
  unfold nilA at hz
  split at hz
  · rename_i id p
    split at hz
    · rename_i T x ro hL
      simp only [ok1, Option.some.injEq, Prod.mk.injEq, true_and] at hz
      subst hz
      simp only [RepA] at hx
      obtain ⟨s, h1, h2, h3⟩ := hx
      rw [hL] at h1; cases h1
      obtain ⟨h0, b, hm, rfl⟩ := h3.1 T rfl
      exact ⟨rfl, _, rfl⟩
    · cases hz
  · rename_i id i p
    split at hz
    · rename_i t e xs ro hL
      simp only [ok1, Option.some.injEq, Prod.mk.injEq, true_and] at hz
      subst hz
      simp only [RepA] at hx
      obtain ⟨s, h1, h2, h3⟩ := hx
      rw [hL] at h1; cases h1
      obtain ⟨hi, h0, b, n, c, hm, rfl⟩ := h3 t e xs ro rfl
      exact ⟨rfl, _, rfl⟩
    · cases hz
  · rename_i T x p
    simp only [ok1, Option.some.injEq, Prod.mk.injEq, true_and] at hz
    subst hz
    simp only [RepA] at hx
    obtain ⟨h0, b, o, cs, rfl, h1, h2⟩ := hx
    exact ⟨rfl, _, rfl⟩
  · cases hz
theorem rop_gives (hC : C.OK) (hI : Inv B m L w S) {ρ : Operand → AV} {σ : Operand → Value} (h : ∀ x, RepA m L w S (ρ x) (σ x)) (o : Oper) : GivesN C m L w S (execOp σ o) (rop C ρ L o.op) := by
  unfold rop
  split <;> rename_i ho <;> (first | (refine givesN_none; done) | (unfold execOp; rw [ho]; dsimp only))
  · intro a ha
    simp only [ok1, Option.some.injEq, Prod.mk.injEq, true_and] at ha
    subst ha
    exact ⟨_, rfl, h _⟩
  · intro a ha
    simp only [ok1, Option.some.injEq, Prod.mk.injEq, true_and] at ha
    subst ha
    exact ⟨_, rfl, h _⟩
  · rename_i c a b
    split
    · rename_i cb hcb
      have hc := h c
      rw [hcb, rep_bool] at hc
      intro z hz
      simp only [ok1, Option.some.injEq, Prod.mk.injEq, true_and] at hz
      subst hz
      refine ⟨_, ?_, pick_rep (h a) (h b)⟩
      simp only [hc, asBool, Sem.run_bind, Sem.run_pure, Result.andThen_ok]
    · exact givesN_none
  · exact givesN_of (gives_bin (h _) (h _))
  · exact givesN_of (gives_un (h _))
  · exact givesN_of (gives_conv hC (h _))
  · exact givesN_of (gives_extract (h _))
  · exact givesN_of (gives_field hC (h _))
  · exact givesN_of (gives_index hC (h _) (h _))
  · exact givesN_of (gives_fieldAddr hC (h _))
  · exact givesN_of (gives_indexAddr hC hI (h _) (h _))
  · exact givesN_of (gives_load hC hI (h _))
  · exact givesN_of (gives_slice hC hI (h _) (repO_map h _) (repO_map h _))
  · rename_i x
    intro z hz
    obtain ⟨rfl, ad, hu⟩ := nil_rep (h x) hz
    have hx := h x
    rw [hu] at hx ⊢
    exact ⟨_, rfl, hx⟩
  · rename_i f first caps
    split
    · rename_i hf
      intro z hz
      simp only [ok1, Option.some.injEq, Prod.mk.injEq, true_and] at hz
      subst hz
      have hfirst : first = #[] := Array.eq_empty_of_size_eq_zero hf
      have hmap : Array.map σ caps = (caps.toList.map σ).toArray := by rw [← Array.toList_map]
      refine ⟨.func (.func f) #[] (caps.toList.map σ).toArray, by subst hfirst; rw [hmap]; simp [Instr.makeFunc, Sem.run_pure], ?_⟩
      simp only [RepA]
      refine ⟨caps.toList.map σ, rfl, repAs_map h _⟩
    · split
      · rename_i hf
        intro z hz
        simp only [ok1, Option.some.injEq, Prod.mk.injEq, true_and] at hz
        subst hz
        have hcaps : caps = #[] := Array.eq_empty_of_size_eq_zero hf
        have hmap : Array.map σ first = (first.toList.map σ).toArray := by rw [← Array.toList_map]
        refine ⟨.func (.func f) (first.toList.map σ).toArray #[], by subst hcaps; rw [hmap]; simp [Instr.makeFunc, Sem.run_pure], ?_⟩
        simp only [RepA]
        refine ⟨first.toList.map σ, rfl, repAs_map h _⟩
      · exact givesN_none
  · rename_i b args ts
    have hr : (resolve σ ⟨.builtin b, args, ts⟩ o.type) = (pure { target := .builtin b ts o.type (args.map fun | .const _ => true | _ => false), args := args.map σ } : Sem Deferred) := rfl
    have hrun : ∀ s, builtin b ts o.type (args.map fun | .const _ => true | _ => false) (args.map σ) = s →
        ((do let d ← resolve σ ⟨.builtin b, args, ts⟩ o.type; invoke d.target d.args : Sem Next)).run C.P w = s.run C.P w := by
      intro s hs
      rw [hr]
      simp only [Sem.run_bind, Sem.run_pure, Result.andThen_ok, invoke, hs]
    intro z hz
    rw [hrun _ rfl]
    revert z hz
    unfold builtinA
    split
    · split
      · rename_i t ts' a as' e1 e2
        have hts : ts[0]? = some t := by
          have := congrArg (·[0]?) e1
          simpa using this
        cases hargs : args.toList with
        | nil => rw [hargs] at e2; cases e2
        | cons x xs =>
          rw [hargs] at e2
          simp only [List.map_cons, List.cons.injEq] at e2
          obtain ⟨rfl, rfl⟩ := e2
          have hus : (args.map σ)[0]? = some (σ x) := by
            have : args = (x :: xs).toArray := by rw [← hargs]
            subst this; simp
          exact givesN_of (gives_len hC hI hts hus (h x))
      · exact givesN_none
    · unfold foldA
      split
      · rename_i a r e
        cases hargs : args.toList with
        | nil => rw [hargs] at e; cases e
        | cons x xs =>
          rw [hargs] at e
          simp only [List.map_cons, List.cons.injEq] at e
          obtain ⟨rfl, rfl⟩ := e
          have := gives_max (C := C) (repAs_map h xs) (h x)
          refine givesN_of ?_
          have e : Builtin.max_ ts o.type (args.map σ) = (xs.map σ).foldlM Builtin.max2 (σ x) := by
            have : args = (x :: xs).toArray := by rw [← hargs]
            subst this
            simp [Builtin.max_]
          rw [e]; exact this
      · exact givesN_none
    · unfold foldA
      split
      · rename_i a r e
        cases hargs : args.toList with
        | nil => rw [hargs] at e; cases e
        | cons x xs =>
          rw [hargs] at e
          simp only [List.map_cons, List.cons.injEq] at e
          obtain ⟨rfl, rfl⟩ := e
          have := gives_min (C := C) (repAs_map h xs) (h x)
          refine givesN_of ?_
          have e : Builtin.min_ ts o.type (args.map σ) = (xs.map σ).foldlM Builtin.min2 (σ x) := by
            have : args = (x :: xs).toArray := by rw [← hargs]
            subst this
            simp [Builtin.min_]
          rw [e]; exact this
      · exact givesN_none
    · exact givesN_none
end
end
section
set_option linter.unusedVariables false
set_option linter.unusedSimpArgs false
set_option maxHeartbeats 400000
def upd (m : Nat → Value) (id : Nat) (v : Value) : Nat → Value := fun j => if j = id then v else m j
theorem upd_same (m : Nat → Value) (id : Nat) (v : Value) : upd m id v id = v := by simp [upd]
theorem upd_ne {m : Nat → Value} {id j : Nat} {v : Value} (h : j ≠ id) : upd m id v j = m j := by simp [upd, h]
structure Goes (B : Nat) (X : Nat → Bool) (m : Nat → Value) (L : Heap) (w : World) (S : Nat → Nat → Prop) (m' : Nat → Value) (L' : Heap) (w' : World) (S' : Nat → Nat → Prop) : Prop where
  inv : Inv B m' L' w' S'
  safe : Safe S S' w w'
  below : Below B w w'
  ext : Ext X m L m' L'
  new : ∀ b o, S' b o → S b o ∨ B ≤ b
structure Grows (w w' : World) : Prop where
  os : w'.os = w.os
  tape : w'.tape = w.tape
  output : w'.output = w.output
  size : w.heap.size ≤ w'.heap.size
  block : ∀ k, k < w.heap.size → w'.heap[k]? = w.heap[k]?
section
variable {C : Cfg} {B : Nat} {m : Nat → Value} {L : Heap} {w w' : World} {S S' : Nat → Nat → Prop}
theorem Grows.refl (w : World) : Grows w w := ⟨rfl, rfl, rfl, Nat.le_refl _, fun _ _ => rfl⟩
theorem Grows.alloc (w : World) (o : Obj) : Grows w (w.alloc o) := ⟨rfl, rfl, rfl, by simp, fun k hk => Below.heap_alloc _ _ _ hk⟩
theorem Grows.below (h : Grows w w') (hB : B ≤ w.heap.size) : Below B w w' := ⟨h.os, h.tape, h.output, h.size, fun k hk => h.block k (by omega)⟩
theorem Grows.of_below (h : Below w.heap.size w w') : Grows w w' := ⟨h.os, h.tape, h.output, h.size, h.block⟩
theorem Grows.cell (h : Grows w w') {b o : Nat} (hb : b < w.heap.size) : w'.cell? ⟨b, o, none⟩ = w.cell? ⟨b, o, none⟩ := World.cell?_of_block (a := ⟨b, o, none⟩) (h.block b hb)
theorem Grows.safe (hI : Inv B m L w S) (h : Grows w w') : Safe S S w w' := ⟨fun _ _ h => h, fun b o hs => h.cell (hI.prot b o hs).1⟩
theorem blk_of_row {t : TypeId} {sz n : Nat} {v : Value} {cs : List Value} (h : w.ownsRow B t sz v n cs) : ∀ b, blk v = some b → B ≤ b ∧ b < w.heap.size := by
  intro b hb
  rcases h.2 with ⟨rfl, _⟩ | ⟨g, cap, cur, rfl, hg, hh, _⟩
  · simp [blk] at hb
  · simp [blk] at hb
    subst hb
    exact ⟨hg, (Array.getElem?_eq_some_iff.1 hh).1⟩
theorem blk_own {t : TypeId} {sz n : Nat} {v : Value} {cs : List Value} (h : w.ownsRow B t sz v n cs) : v.ownBlock = blk v := by
  rcases h.2 with ⟨rfl, _⟩ | ⟨g, cap, cur, rfl, _⟩ <;> rfl
theorem single_row {t : TypeId} {sz n : Nat} {v : Value} {cs : List Value} (h : w.ownsRow B t sz v n cs) : single v = true := by
  rcases h.2 with ⟨rfl, _⟩ | ⟨g, cap, cur, rfl, _⟩ <;> rfl
theorem single_ptr {v : Value} {p : Option Addr} (h : v = .pointer p) : single v = true := by rw [h]; rfl
theorem ObjOK.lt {v : Value} {o : Obj'} (h : ObjOK B v w o) {b : Nat} (hb : b ∈ blks v) : B ≤ b ∧ b < w.heap.size := by
  cases o with
  | bld T te s =>
    obtain ⟨b0, sv, p, rfl, h1, _, h2, h3, _⟩ := h
    rw [blks_pair, List.mem_append, Option.mem_toList, Option.mem_toList] at hb
    rcases hb with hb | hb
    · simp [blk] at hb; subst hb
      exact ⟨h1, (Array.getElem?_eq_some_iff.1 h2).1⟩
    · exact blk_of_row h3 b hb
theorem Inv.lt (hI : Inv B m L w S) {i : Nat} {s : Slot} (hs : L[i]? = some s) (hl : s.live = true) {b : Nat} (hb : b ∈ blks (m i)) : B ≤ b ∧ b < w.heap.size := by
  cases s with
  | box T x ro =>
    obtain ⟨b', cs, el, fr, hm, h1, h2, _⟩ := hI.box i T x ro hs
    rw [mem_blks (single_ptr hm), hm] at hb
    simp [blk] at hb
    subst hb
    exact ⟨h1, (Array.getElem?_eq_some_iff.1 h2).1⟩
  | row t e xs ro =>
    obtain ⟨cs, h1, _⟩ := hI.row i t e xs ro hs
    rw [mem_blks (single_row h1)] at hb
    exact blk_of_row h1 b hb
  | obj o => exact (hI.obj i o hs).lt hb
  | lbx T x h =>
    obtain ⟨b', cs, ds, el, fr, hm, h1, h2, _⟩ := hI.lbx i T x h hs
    rw [mem_blks (single_ptr hm), hm] at hb
    simp [blk] at hb
    subst hb
    exact ⟨h1, (Array.getElem?_eq_some_iff.1 h2).1⟩
  | gone => simp [Slot.live] at hl
  | resv => simp [Slot.live] at hl
theorem row_grows {t : TypeId} {sz n : Nat} {v : Value} {cs : List Value} (hg : Grows w w') (h : w.ownsRow B t sz v n cs) : w'.ownsRow B t sz v n cs := by
  refine ⟨h.1, h.2.imp id ?_⟩
  rintro ⟨g, cap, cur, hv, hb, hh, r⟩
  exact ⟨g, cap, cur, hv, hb, by rw [hg.block g (Array.getElem?_eq_some_iff.1 hh).1]; exact hh, r⟩
theorem ObjOK.kept {v : Value} {o : Obj'} (h : ObjOK B v w o) (hb : ∀ b, b ∈ blks v → w'.heap[b]? = w.heap[b]?) : ObjOK B v w' o := by
  cases o with
  | bld T te s =>
    obtain ⟨b0, sv, p, rfl, h1, h2, h3, h4, h5⟩ := h
    refine ⟨b0, sv, p, rfl, h1, h2, ?_, ?_, h5⟩
    · rw [hb b0 (by rw [blks_pair]; simp [blk])]; exact h3
    · refine ⟨h4.1, h4.2.imp id ?_⟩
      rintro ⟨g, cap, cur, rfl, hg, hh, r⟩
      exact ⟨g, cap, cur, rfl, hg, by rw [hb g (by rw [blks_pair]; simp [blk])]; exact hh, r⟩
theorem Inv.grows (hI : Inv B m L w S) (hg : Grows w w') : Inv B m L w' S := by
  have hs := hg.safe hI
  refine ⟨Nat.le_trans hI.base hg.size, ?_, ?_, fun id o h => (hI.obj id o h).kept fun b hb => hg.block b (hI.lt h rfl hb).2, fun id T x h q => (hI.lbx id T x h q).same hs (Ext.refl _ _ _) fun b hb => hg.block b (hI.lt q rfl hb).2, hI.apart, ?_⟩
  · intro id T x ro h
    obtain ⟨b, cs, el, fr, hm, h1, h2, h3, h4⟩ := hI.box id T x ro h
    exact ⟨b, cs, el, fr, hm, h1, by rw [hg.block b (Array.getElem?_eq_some_iff.1 h2).1]; exact h2, h3, h4.safe hs⟩
  · intro id t e xs ro h
    obtain ⟨cs, h1, h2⟩ := hI.row id t e xs ro h
    exact ⟨cs, row_grows hg h1, RepL.mono (fun x c h => h.safe hs) h2⟩
  · intro b o h
    obtain ⟨h1, h2⟩ := hI.prot b o h
    exact ⟨Nat.lt_of_lt_of_le h1 hg.size, h2⟩
theorem Goes.grows (hI : Inv B m L w S) (hg : Grows w w') (X : Nat → Bool) : Goes B X m L w S m L w' S :=
  ⟨hI.grows hg, hg.safe hI, hg.below hI.base, Ext.refl X m L, fun _ _ h => .inl h⟩
theorem Goes.trans {X : Nat → Bool} {m1 m2 : Nat → Value} {L1 L2 : Heap} {w1 w2 : World} {S1 S2 : Nat → Nat → Prop} (h : Goes B X m L w S m1 L1 w1 S1) (k : Goes B X m1 L1 w1 S1 m2 L2 w2 S2) : Goes B X m L w S m2 L2 w2 S2 :=
  ⟨k.inv, h.safe.trans k.safe, h.below.trans k.below, h.ext.trans k.ext, fun b o hs => (k.new b o hs).elim (h.new b o) .inr⟩
theorem get_set {id : Nat} {s : Slot} (h : ∃ r, L[id]? = some r) (j : Nat) : (L.set id s)[j]? = if j = id then some s else L[j]? := by
  obtain ⟨r, h⟩ := h
  have hlt : id < L.length := by
    rcases Nat.lt_or_ge id L.length with h' | h'
    · exact h'
    · rw [List.getElem?_eq_none h'] at h; cases h
  by_cases e : j = id
  · subst e; simp [hlt]
  · rw [List.getElem?_set_ne (Ne.symm e), if_neg e]
theorem Goes.fresh' (hI : Inv B m L w S) (hg : Grows w w') {id : Nat} (hid : L[id]? = some .resv) {s : Slot} {v : Value} (hv : ∀ b, b ∈ blks v → w.heap.size ≤ b)
    (hbox : ∀ T x ro, s = .box T x ro → ∃ b cs el fr, v = .pointer (some ⟨b, 0, none⟩) ∧ B ≤ b ∧ w'.heap[b]? = some (.cells cs.toArray el fr) ∧ (∀ o, o < cs.length → ¬ (fr.1 ≤ o ∧ o < fr.2)) ∧ RepC w' S T x cs)
    (hrow : ∀ t e (xs : List e.I) ro, s = .row t e xs ro → ∃ cs, w'.ownsRow B t e.size v xs.length cs ∧ RepL (RepC w' S e) xs cs) (hobj : ∀ o, s = .obj o → ObjOK B v w' o) (X : Nat → Bool) (hlbx : ∀ T x h, s = .lbx T x h → LbxOK B (upd m id v) (L.set id s) v w' S T x h := by intro T x h e; cases e) :
    Goes B X m L w S (upd m id v) (L.set id s) w' S := by
  have hI' := hI.grows hg
  have gs := get_set (s := s) ⟨_, hid⟩
  have he : ∀ X, Ext X m L (upd m id v) (L.set id s) := by
    intro X
    refine ⟨?_⟩
    intro j r hr hne
    have hj : j ≠ id := fun e => by subst e; rw [hid] at hr; cases hr; exact hne rfl
    refine ⟨r, by rw [gs, if_neg hj]; exact hr, hne, fun T e => ⟨upd_ne hj, e⟩, fun o e => ⟨fun u sv h => ⟨sv, by rw [upd_ne hj]; exact h⟩, o, e⟩, fun t e xs ro _ h => ⟨upd_ne hj, xs, ro, h, Nat.le_refl _⟩⟩
  refine ⟨⟨hI'.base, ?_, ?_, ?_, ?_, ?_, ?_⟩, hg.safe hI, hg.below hI.base, he X, fun _ _ h => .inl h⟩
  · intro j T x ro h
    rw [gs] at h
    split at h
    · rename_i e; subst e; cases h; rw [upd_same]; exact hbox T x ro rfl
    · rename_i e; rw [upd_ne e]; exact hI'.box j T x ro h
  · intro j t e xs ro h
    rw [gs] at h
    split at h
    · rename_i e'; subst e'; cases h; rw [upd_same]; exact hrow t e xs ro rfl
    · rename_i e'; rw [upd_ne e']; exact hI'.row j t e xs ro h
  · intro j o h
    rw [gs] at h
    split at h
    · rename_i e'; subst e'; cases h; rw [upd_same]; exact hobj o rfl
    · rename_i e'; rw [upd_ne e']; exact hI'.obj j o h
  · intro j T x h q
    rw [gs] at q
    split at q
    · rename_i e'; subst e'; cases q; rw [upd_same]; exact hlbx T x h rfl
    · rename_i e'; rw [upd_ne e']; exact (hI'.lbx j T x h q).same (Safe.refl _ _) (he _) fun _ _ => rfl
  · intro i j s1 s2 hne h1 h2 l1 l2
    rw [gs] at h1 h2
    have old : ∀ k r, k ≠ id → L[k]? = some r → r.live = true → ∀ b, b ∈ blks v → b ∈ blks (m k) → False := by
      intro k r hk hr hl b hb e
      have := hI.lt hr hl e
      have := hv b hb
      omega
    split at h1
    · rename_i e; subst e
      split at h2
      · rename_i e; exact absurd e.symm hne
      · rename_i e; rw [upd_same, upd_ne e]; exact old j s2 e h2 l2
    · rename_i e
      split at h2
      · rename_i e2; subst e2
        rw [upd_same, upd_ne e]
        exact fun b h h' => old i s1 e h1 l1 b h' h
      · rename_i e2; rw [upd_ne e, upd_ne e2]; exact hI.apart i j s1 s2 hne h1 h2 l1 l2
  · intro b o hs
    obtain ⟨p1, p2⟩ := hI'.prot b o hs
    refine ⟨p1, fun i r hr hl hb => ?_⟩
    rw [gs] at hr
    split at hr
    · rename_i e; subst e
      rw [upd_same] at hb
      have := hv b hb
      have := (hI.prot b o hs).1
      omega
    · rename_i e; rw [upd_ne e] at hb; exact p2 i r hr hl hb
theorem Goes.fresh (hI : Inv B m L w S) (hg : Grows w w') {id : Nat} (hid : L[id]? = some .resv) {s : Slot} {v : Value} (hv : ∀ b, blk v = some b → w.heap.size ≤ b)
    (hbox : ∀ T x ro, s = .box T x ro → ∃ b cs el fr, v = .pointer (some ⟨b, 0, none⟩) ∧ B ≤ b ∧ w'.heap[b]? = some (.cells cs.toArray el fr) ∧ (∀ o, o < cs.length → ¬ (fr.1 ≤ o ∧ o < fr.2)) ∧ RepC w' S T x cs)
    (hrow : ∀ t e (xs : List e.I) ro, s = .row t e xs ro → ∃ cs, w'.ownsRow B t e.size v xs.length cs ∧ RepL (RepC w' S e) xs cs) (X : Nat → Bool) (hsv : single v = true := by rfl) (hno : ∀ o, s ≠ .obj o := by intro o e; cases e) (hnl : ∀ T x h, s ≠ .lbx T x h := by intro T x h e; cases e) :
    Goes B X m L w S (upd m id v) (L.set id s) w' S :=
  Goes.fresh' hI hg hid (fun b hb => hv b (blk_in hsv hb)) hbox hrow (fun o e => absurd e (hno o)) X (fun T x h e => absurd e (hnl T x h))
def Slot.mark : Slot → Slot
  | .box T x _ => .box T x true
  | .row t e xs _ => .row t e xs true
  | s => s
theorem Slot.mark_live (s : Slot) : s.mark.live = s.live := by cases s <;> rfl
theorem Slot.mark_cells (s : Slot) : s.mark.cells = s.cells := by cases s <;> rfl
theorem Slot.mark_ro (s : Slot) (h : s.live = true) (h' : ∀ o, s ≠ .obj o) (h'' : ∀ T x q, s ≠ .lbx T x q) : s.mark.ro = true := by cases s <;> first | rfl | (exact absurd rfl (h' _)) | (exact absurd rfl (h'' _ _ _)) | simp [Slot.live] at h
theorem Slot.mark_resv {s : Slot} : s.mark = .resv ↔ s = .resv := by cases s <;> simp [Slot.mark]
def addS (S : Nat → Nat → Prop) (m : Nat → Value) (L : Heap) (id : Nat) : Nat → Nat → Prop :=
  fun b o => S b o ∨ ∃ s, L[id]? = some s ∧ s.live = true ∧ b ∈ blks (m id) ∧ o < s.cells
theorem Goes.mark (hI : Inv B m L w S) {id : Nat} {s : Slot} (hid : L[id]? = some s) (X : Nat → Bool) : Goes B X m L w S m (L.set id s.mark) w (addS S m L id) := by
  have gs := get_set (s := s.mark) ⟨_, hid⟩
  have hs : Safe S (addS S m L id) w w := ⟨fun _ _ h => .inl h, fun _ _ _ => rfl⟩
  have back : ∀ j r, (L.set id s.mark)[j]? = some r → ∃ r', L[j]? = some r' ∧ r'.live = r.live ∧ r'.cells = r.cells ∧ (r'.ro = true → r.ro = true) ∧ (j = id → r.live = true → 0 < r.cells → r.ro = true) ∧ (j ≠ id → r' = r) := by
    intro j r hr
    rw [gs] at hr
    split at hr
    · rename_i e; subst e; cases hr
      exact ⟨s, hid, (Slot.mark_live s).symm, (Slot.mark_cells s).symm, fun h => by cases s <;> first | rfl | simp [Slot.ro] at h, fun _ hl hc => Slot.mark_ro s (by rwa [Slot.mark_live] at hl) (fun o e => by subst e; simp [Slot.mark, Slot.cells] at hc) (fun T x q e => by subst e; simp [Slot.mark, Slot.cells] at hc), fun h => absurd rfl h⟩
    · rename_i e; exact ⟨r, hr, rfl, rfl, fun h => h, fun h => absurd h e, fun _ => rfl⟩
  have he : ∀ X, Ext X m L m (L.set id s.mark) := by
    intro X
    refine ⟨?_⟩
    intro j r hr hne
    by_cases e : j = id
    · subst e
      rw [hid] at hr; cases hr
      refine ⟨s.mark, by rw [gs, if_pos rfl], fun h => hne (Slot.mark_resv.1 h), ?_, ?_, ?_⟩
      · intro T h
        cases s <;> simp [Slot.mark, Slot.bty] at h
        · subst h; exact ⟨rfl, rfl⟩
        · subst h; exact ⟨rfl, rfl⟩
      · intro o h
        cases s <;> simp [Slot.mark] at h
        exact ⟨fun u sv h => ⟨sv, h⟩, _, rfl⟩
      · intro t e xs ro _ h
        cases s <;> simp [Slot.mark] at h
        obtain ⟨rfl, rfl, h, _⟩ := h
        cases h
        exact ⟨rfl, _, _, rfl, Nat.le_refl _⟩
    · exact ⟨r, by rw [gs, if_neg e]; exact hr, hne, fun T h => ⟨rfl, h⟩, fun o h => ⟨fun u sv h => ⟨sv, h⟩, o, h⟩, fun t e xs ro _ h => ⟨rfl, xs, ro, h, Nat.le_refl _⟩⟩
  refine ⟨⟨hI.base, ?_, ?_, ?_, ?_, ?_, ?_⟩, hs, Below.refl _ _, he X, ?_⟩
  · intro j T x ro h
    rw [gs] at h
    have : ∃ ro', L[j]? = some (.box T x ro') := by
      split at h
      · rename_i e; subst e
        cases s <;> simp [Slot.mark] at h
        obtain ⟨rfl, h, _⟩ := h
        cases h
        exact ⟨_, hid⟩
      · exact ⟨_, h⟩
    obtain ⟨ro', h'⟩ := this
    obtain ⟨b, cs, el, fr, h1, h2, h3, h4, h5⟩ := hI.box j T x ro' h'
    exact ⟨b, cs, el, fr, h1, h2, h3, h4, h5.safe hs⟩
  · intro j t e xs ro h
    rw [gs] at h
    have : ∃ ro', L[j]? = some (.row t e xs ro') := by
      split at h
      · rename_i e'; subst e'
        cases s <;> simp [Slot.mark] at h
        obtain ⟨rfl, rfl, h, _⟩ := h
        cases h
        exact ⟨_, hid⟩
      · exact ⟨_, h⟩
    obtain ⟨ro', h'⟩ := this
    obtain ⟨cs, h1, h2⟩ := hI.row j t e xs ro' h'
    exact ⟨cs, h1, RepL.mono (fun x c h => h.safe hs) h2⟩
  · intro j o h
    rw [gs] at h
    split at h
    · rename_i e'; subst e'
      cases s <;> simp [Slot.mark] at h
      subst h
      exact hI.obj j _ hid
    · exact hI.obj j o h
  · intro j T x h q
    rw [gs] at q
    have q' : L[j]? = some (.lbx T x h) := by
      split at q
      · rename_i e'; subst e'
        cases s <;> simp [Slot.mark] at q
        obtain ⟨rfl, q, rfl⟩ := q
        cases q
        exact hid
      · exact q
    exact (hI.lbx j T x h q').same hs (he _) fun _ _ => rfl
  · intro i j s1 s2 hne h1 h2 l1 l2
    obtain ⟨r1, e1, e1l, _⟩ := back i s1 h1
    obtain ⟨r2, e2, e2l, _⟩ := back j s2 h2
    exact hI.apart i j r1 r2 hne e1 e2 (by rw [e1l]; exact l1) (by rw [e2l]; exact l2)
  · intro b o hb
    rcases hb with hb | ⟨s', e', hl, hbk, ho⟩
    · obtain ⟨p1, p2⟩ := hI.prot b o hb
      refine ⟨p1, fun i r hr hl hbi => ?_⟩
      obtain ⟨r', e1, e2, e3, e4, _⟩ := back i r hr
      obtain ⟨q1, q2⟩ := p2 i r' e1 (by rw [e2]; exact hl) hbi
      exact ⟨e4 q1, by rw [← e3]; exact q2⟩
    · rw [hid] at e'; cases e'
      have hlt := hI.lt hid hl hbk
      refine ⟨hlt.2, fun i r hr hlr hbi => ?_⟩
      obtain ⟨r', e1, e2, e3, e4, e5, e6⟩ := back i r hr
      by_cases hi : i = id
      · subst hi
        rw [hid] at e1; cases e1
        exact ⟨e5 rfl hlr (by rw [← e3]; omega), by rw [← e3]; exact ho⟩
      · exact (hI.apart i id r' s hi e1 hid (by rw [e2]; exact hlr) hl b hbi hbk).elim
  · intro b o hb
    rcases hb with hb | ⟨s', e', hl, hbk, ho⟩
    · exact .inl hb
    · rw [hid] at e'; cases e'
      exact .inr (hI.lt hid hl hbk).1
end
end
section
set_option linter.unusedVariables false
set_option linter.unusedSimpArgs false
set_option maxHeartbeats 400000
def liftA (L : Heap) (τ : ETy) : AV → Option τ.I
  | .v σ x => castI σ τ x
  | .cst (.slice none 0 0) => match τ with | .slice e => some [] | _ => none
  | .rs id => match L[id]? with | some (.row _ e xs _) => castI (.slice e) τ xs | _ => none
  | .ls id p lo n => match L[id]? with
    | some (.box T x _) => (getP T x p).bind fun d => match d with | ⟨.arr N e, xs⟩ => castI (.slice e) τ ((List.drop lo xs).take n) | _ => none
    | _ => none
  | .lr id lo n => match L[id]? with | some (.row _ e xs _) => castI (.slice e) τ ((List.drop lo xs).take n) | _ => none
  | .fn f [] => castI (.raw .func) τ (Value.func (.func f) #[] #[])
  | _ => none
def markA : AV → Option Nat
  | .rs id => some id
  | .ls id _ _ _ => some id
  | .lr id _ _ => some id
  | _ => none
def mark1 (L : Heap) (id : Nat) : Heap := match L[id]? with | some s => L.set id s.mark | none => L
def markL (L : Heap) : List AV → Heap
  | [] => L
  | a :: l => match markA a with | some id => markL (mark1 L id) l | none => markL L l
section
variable {C : Cfg} {B : Nat} {m : Nat → Value} {L : Heap} {w w' : World} {S S' : Nat → Nat → Prop}
def Kept (m : Nat → Value) (L : Heap) (S : Nat → Nat → Prop) (id : Nat) : Prop := ∀ s b o, L[id]? = some s → s.live = true → b ∈ blks (m id) → o < s.cells → S b o
theorem lift_rep (hI : Inv B m L w S) {τ : ETy} {x : τ.I} {a : AV} {u : Value} (hx : RepA m L w S a u) (hk : ∀ id, markA a = some id → Kept m L S id) (hl : liftA L τ a = some x) : RepV w S τ x u := by
  unfold liftA at hl
  split at hl
  · obtain ⟨rfl, rfl⟩ := castI_eq hl
    rwa [rep_v] at hx
  · simp only [RepA] at hx
    subst hx
    split at hl
    · cases hl
      exact ⟨[.slice none 0 0], ⟨none, 0, rfl, Nat.le_refl _, .inl rfl⟩, rfl⟩
    · cases hl
  · rename_i id
    split at hl
    · rename_i t e xs ro hL
      obtain ⟨rfl, rfl⟩ := castI_eq hl
      simp only [RepA] at hx
      obtain ⟨s, h1, h2, h3⟩ := hx
      rw [hL] at h1; cases h1
      obtain rfl := h3 t e _ ro rfl
      obtain ⟨cs, ho, hr⟩ := hI.row id t e _ ro hL
      have hk := hk id rfl
      have hcl := RepL.length (fun x c h => RepC.length h) hr
      rcases ho.2 with ⟨hv, hn⟩ | ⟨g, cap, cur, hv, hg, hh, hle, _⟩
      · refine ⟨[m id], ?_, rfl⟩
        refine ⟨none, 0, by rw [hv, hn], by omega, .inl (List.eq_nil_of_length_eq_zero hn)⟩
      · refine ⟨[m id], ?_, rfl⟩
        refine ⟨some ⟨g, 0, none⟩, cap, by rw [hv], hle, .inr ⟨g, 0, cs, rfl, hr, fun j hj => ⟨?_, ?_⟩⟩⟩
        · have := row_cells ho hv j hj
          exact this
        · exact hk _ g (0 + j) hL rfl (by rw [hv]; exact in_slc _ _ _ _) (by simp only [Slot.cells]; omega)
    · cases hl
  · rename_i id p lo n
    split at hl
    · rename_i T y ro hL
      cases hg : getP T y p with
      | none => rw [hg] at hl; cases hl
      | some d =>
        rw [hg] at hl
        simp only [Option.bind_some] at hl
        split at hl
        · rename_i N e xs
          obtain ⟨rfl, rfl⟩ := castI_eq hl
          simp only [RepA] at hx
          obtain ⟨s, h1, h2, h3⟩ := hx
          rw [hL] at h1; cases h1
          obtain ⟨h0, hn, b, A, cap, hcap, hm, rfl, hA⟩ := h3 T rfl N e (getP_ty hg)
          obtain ⟨b', cs, el, fr, hm', hB, hb, hfr, hr⟩ := hI.box id T y ro hL
          rw [hm] at hm'; cases hm'
          obtain ⟨pre, mid, post, rfl, e2, e3, _⟩ := getP_rep h0 hr hg
          obtain ⟨hxl, hxr⟩ := e3
          have hxl : List.length xs = N := hxl
          have hlen : ((List.drop lo xs).take n).length = n := by simp; omega
          have hml := RepL.length (fun x c h => RepC.length h) hxr
          refine ⟨[.slice A n cap], ⟨A, cap, by rw [hlen], by rw [hlen]; exact hcap, ?_⟩, rfl⟩
          rcases hA with rfl | rfl
          · left; simp
          · right
            have t1 := (RepL.take (s := e.size) (fun x c h => RepC.length h) lo hxr).2
            have t2 := (RepL.take (s := e.size) (fun x c h => RepC.length h) n t1).1
            refine ⟨_, _, _, rfl, t2, fun j hj => ?_⟩
            simp only [List.length_take, List.length_drop] at hj
            have hcell := cellsAt_mid (cellsAt_block hb) (lo * e.size + j) (by omega)
            rw [Nat.zero_add, e2] at hcell
            have hsz := hr.length
            refine ⟨?_, hk id rfl _ b _ hL rfl (by rw [hm]; exact in_ptr _ _) ?_⟩
            · rw [Nat.add_assoc]
              simpa using hcell
            · simp only [Slot.cells, ← hsz]
              simp only [List.length_append]
              omega
        · cases hl
    · cases hl
  · rename_i id lo n
    split at hl
    · rename_i t e xs ro hL
      obtain ⟨rfl, rfl⟩ := castI_eq hl
      simp only [RepA] at hx
      obtain ⟨s, h1, h2, h3⟩ := hx
      rw [hL] at h1; cases h1
      obtain ⟨hn, A, c, hc, rfl, hA⟩ := h3 t e _ ro rfl
      obtain ⟨cs, ho, hr⟩ := hI.row id t e _ ro hL
      have hk := hk id rfl
      have hcl := RepL.length (fun x c h => RepC.length h) hr
      have hlen : ((List.drop lo xs).take n).length = n := by simp; omega
      refine ⟨[.slice A n c], ⟨A, c, by rw [hlen], by rw [hlen]; exact hc, ?_⟩, rfl⟩
      rcases hA with rfl | ⟨b, k, c1, hm, rfl⟩
      · left; simp
      · right
        have t1 := (RepL.take (s := e.size) (fun x c h => RepC.length h) lo hr).2
        have t2 := (RepL.take (s := e.size) (fun x c h => RepC.length h) n t1).1
        refine ⟨b, lo * e.size, _, rfl, t2, fun j hj => ?_⟩
        simp only [List.length_take, List.length_drop] at hj
        have hcell := row_cells ho hm (lo * e.size + j) (by omega)
        rw [Nat.zero_add] at hcell
        refine ⟨by simpa using hcell, hk _ b _ hL rfl (by rw [hm]; exact in_slc _ _ _ _) ?_⟩
        simp only [Slot.cells]
        omega
    · cases hl
  · obtain ⟨rfl, rfl⟩ := castI_eq hl
    simp only [RepA, RepAs] at hx
    obtain ⟨vs, rfl, rfl⟩ := hx
    exact ⟨[_], ⟨rfl, rfl⟩, rfl⟩
  · cases hl
theorem mark1_goes (hI : Inv B m L w S) (id : Nat) (X : Nat → Bool) : ∃ S', Goes B X m L w S m (mark1 L id) w S' ∧ Kept m (mark1 L id) S' id := by
  unfold mark1
  cases h : L[id]? with
  | none => exact ⟨S, ⟨hI, Safe.refl _ _, Below.refl _ _, Ext.refl X m L, fun _ _ h => .inl h⟩, fun s b o hs => by simp only [h] at hs; cases hs⟩
  | some s =>
    refine ⟨addS S m L id, Goes.mark hI h X, fun r b o hr hl hb ho => ?_⟩
    rw [get_set ⟨_, h⟩, if_pos rfl] at hr
    cases hr
    rw [Slot.mark_live] at hl
    rw [Slot.mark_cells] at ho
    exact .inr ⟨s, h, hl, hb, ho⟩
theorem mark1_kept {id j : Nat} {S' : Nat → Nat → Prop} (hS : ∀ b o, S b o → S' b o) (h : Kept m L S j) : Kept m (mark1 L id) S' j := by
  intro s b o hs hl hb ho
  unfold mark1 at hs
  cases hid : L[id]? with
  | none => simp only [hid] at hs; exact hS _ _ (h s b o hs hl hb ho)
  | some r =>
    simp only [hid] at hs
    rw [get_set ⟨_, hid⟩] at hs
    split at hs
    · rename_i e; subst e; cases hs
      rw [Slot.mark_live] at hl
      rw [Slot.mark_cells] at ho
      exact hS _ _ (h r b o hid hl hb ho)
    · exact hS _ _ (h s b o hs hl hb ho)
theorem markL_goes (X : Nat → Bool) : ∀ (l : List AV) {L : Heap} {S : Nat → Nat → Prop} (hI : Inv B m L w S), ∃ S', Goes B X m L w S m (markL L l) w S' ∧ (∀ j, Kept m L S j → Kept m (markL L l) S' j) ∧ ∀ a ∈ l, ∀ id, markA a = some id → Kept m (markL L l) S' id
  | [], L, S, hI => ⟨S, ⟨hI, Safe.refl _ _, Below.refl _ _, Ext.refl X m L, fun _ _ h => .inl h⟩, fun _ h => h, fun a ha => by simp at ha⟩
  | a :: l, L, S, hI => by
    unfold markL
    split
    · rename_i id ha
      obtain ⟨S1, g1, k1⟩ := mark1_goes hI id X
      obtain ⟨S2, g2, k2, k3⟩ := markL_goes X l g1.inv
      refine ⟨S2, g1.trans g2, fun j hj => k2 j (mark1_kept g1.safe.sub hj), fun b hb i hi => ?_⟩
      rcases List.mem_cons.1 hb with rfl | hb
      · rw [ha] at hi; cases hi; exact k2 _ k1
      · exact k3 b hb i hi
    · rename_i ha
      obtain ⟨S2, g2, k2, k3⟩ := markL_goes X l hI
      refine ⟨S2, g2, k2, fun b hb i hi => ?_⟩
      rcases List.mem_cons.1 hb with rfl | hb
      · rw [ha] at hi; cases hi
      · exact k3 b hb i hi
theorem Goes.wrote (hI : Inv B m L w S) {id b : Nat} {s s' : Slot} (hid : L[id]? = some s) (hl : s.live = true) (hro : s.ro = false) (hb0 : blk (m id) = some b) {cs : List Value} {el : TypeId} {fr : Nat × Nat} (hw : Wrote b cs el fr w w')
    (hs' : s'.live = true ∧ s'.cells = s.cells)
    (hbox : ∀ T x ro, s' = .box T x ro → (∃ y, s = .box T y ro) ∧ (∀ o, o < cs.length → ¬ (fr.1 ≤ o ∧ o < fr.2)) ∧ RepC w S T x cs)
    (hrow : ∀ t e (xs : List e.I) ro, s' = .row t e xs ro → (∃ ys, s = .row t e ys ro ∧ ys.length = xs.length) ∧ ∃ ds, w'.ownsRow B t e.size (m id) xs.length ds ∧ RepL (RepC w S e) xs ds) (X : Nat → Bool) (hno : ∀ o, s ≠ .obj o := by intro o e; cases e) (hno' : ∀ o, s' ≠ .obj o := by intro o e; cases e) (hnl : ∀ T x h, s ≠ .lbx T x h := by intro T x h e; cases e) (hnl' : ∀ T x h, s' ≠ .lbx T x h := by intro T x h e; cases e) :
    Goes B X m L w S m (L.set id s') w' S := by
  have hb := in_blk hb0
  have gs := get_set (s := s') ⟨_, hid⟩
  have hnS : ∀ o, ¬ S b o := fun o h => by
    have := ((hI.prot b o h).2 id s hid hl hb).1
    rw [hro] at this; cases this
  have hsafe : Safe S S w w' := ⟨fun _ _ h => h, fun b' o h => World.cell?_of_block (a := ⟨b', o, none⟩) (hw.there b' (fun e => by subst e; exact hnS o h))⟩
  have hlt := hI.lt hid hl hb
  have hother : ∀ j r, j ≠ id → L[j]? = some r → r.live = true → ∀ b', b' ∈ blks (m j) → b' ≠ b := by
    intro j r hj hr hrl b' hb' e
    subst e
    exact hI.apart j id r s hj hr hid hrl hl b' hb' hb
  have he : ∀ X, Ext X m L m (L.set id s') := by
    intro X
    refine ⟨?_⟩
    intro j r hr hne
    by_cases e : j = id
    · subst e
      rw [hid] at hr; cases hr
      refine ⟨s', by rw [gs, if_pos rfl], fun h => by rw [h] at hs'; simp [Slot.live] at hs', ?_, fun o h => absurd h (hno' o), ?_⟩
      · intro T h
        cases hq : s' with
        | box T' x ro =>
          obtain ⟨⟨y, h1⟩, _⟩ := hbox T' x ro hq
          rw [hq] at h
          exact ⟨rfl, by rw [h1]; exact h⟩
        | lbx T' x q => exact absurd hq (hnl' _ _ _)
        | row => rw [hq] at h; cases h
        | obj => rw [hq] at h; cases h
        | gone => rw [hq] at h; cases h
        | resv => rw [hq] at h; cases h
      · intro t e xs ro _ h
        obtain ⟨⟨ys, h1, h2⟩, _⟩ := hrow t e xs ro h
        exact ⟨rfl, ys, ro, h1, by omega⟩
    · exact ⟨r, by rw [gs, if_neg e]; exact hr, hne, fun T h => ⟨rfl, h⟩, fun o h => ⟨fun u sv h => ⟨sv, h⟩, o, h⟩, fun t e xs ro _ h => ⟨rfl, xs, ro, h, Nat.le_refl _⟩⟩
  refine ⟨⟨by rw [hw.size]; exact hI.base, ?_, ?_, ?_, ?_, ?_, ?_⟩, hsafe, ⟨hw.os, hw.tape, hw.output, by rw [hw.size]; exact Nat.le_refl _, fun k hk => hw.there k (by omega)⟩, he X, fun _ _ h => .inl h⟩
  · intro j T x ro h
    rw [gs] at h
    split at h
    · rename_i e; subst e; cases h
      obtain ⟨⟨y, rfl⟩, h2, h3⟩ := hbox T x ro rfl
      obtain ⟨b', cs', el', fr', hm, h4, h5, h6, h7⟩ := hI.box j T y ro hid
      have hbb : b' = b := by rw [mem_blks (single_ptr hm), hm] at hb; simpa [blk] using hb
      subst hbb
      exact ⟨b', cs, el, fr, hm, h4, hw.here, h2, h3.safe hsafe⟩
    · rename_i e
      obtain ⟨b', cs', el', fr', hm, h4, h5, h6, h7⟩ := hI.box j T x ro h
      refine ⟨b', cs', el', fr', hm, h4, ?_, h6, h7.safe hsafe⟩
      rw [hw.there b' (hother j _ e h rfl b' (by rw [mem_blks (single_ptr hm), hm]; rfl))]
      exact h5
  · intro j t e xs ro h
    rw [gs] at h
    split at h
    · rename_i e'; subst e'; cases h
      obtain ⟨_, ds, h1, h2⟩ := hrow t e xs ro rfl
      exact ⟨ds, h1, RepL.mono (fun x c h => h.safe hsafe) h2⟩
    · rename_i e'
      obtain ⟨ds, h1, h2⟩ := hI.row j t e xs ro h
      refine ⟨ds, ⟨h1.1, h1.2.imp (fun h => h) ?_⟩, RepL.mono (fun x c h => h.safe hsafe) h2⟩
      rintro ⟨g, cap, cur, hv, hg, hh, r⟩
      refine ⟨g, cap, cur, hv, hg, ?_, r⟩
      rw [hw.there g (hother j _ e' h rfl g (by rw [mem_blks (by rw [hv]; rfl), hv]; rfl))]
      exact hh
  · intro j o h
    rw [gs] at h
    split at h
    · cases h; exact absurd rfl (hno' _)
    · rename_i e'
      exact (hI.obj j o h).kept fun b' hb' => hw.there b' (hother j _ e' h rfl b' hb')
  · intro j T x h q
    rw [gs] at q
    split at q
    · cases q; exact absurd rfl (hnl' _ _ _)
    · rename_i e'
      exact (hI.lbx j T x h q).same hsafe (he _) fun b' hb' => hw.there b' (hother j _ e' q rfl b' hb')
  · intro i j s1 s2 hne h1 h2 l1 l2
    rw [gs] at h1 h2
    have f : ∀ i s1, (if i = id then some s' else L[i]?) = some s1 → s1.live = true → ∃ r, L[i]? = some r ∧ r.live = true := by
      intro i s1 h l
      split at h
      · rename_i e; subst e; exact ⟨s, hid, hl⟩
      · exact ⟨s1, h, l⟩
    obtain ⟨r1, e1, e2⟩ := f i s1 h1 l1
    obtain ⟨r2, e3, e4⟩ := f j s2 h2 l2
    exact hI.apart i j r1 r2 hne e1 e3 e2 e4
  · intro b' o h
    obtain ⟨p1, p2⟩ := hI.prot b' o h
    refine ⟨by rw [hw.size]; exact p1, fun i r hr hrl hbi => ?_⟩
    rw [gs] at hr
    split at hr
    · rename_i e; subst e
      have hbb : b' = b := by
        cases s with
        | box T x ro =>
          obtain ⟨b1, cs', el', fr', hm, _⟩ := hI.box i T x ro hid
          rw [mem_blks (single_ptr hm), hm] at hb hbi
          simp [blk] at hb hbi
          exact hbi.symm.trans hb
        | row t e xs ro =>
          obtain ⟨cs', h1, _⟩ := hI.row i t e xs ro hid
          rw [mem_blks (single_row h1)] at hb hbi
          rw [hb] at hbi; cases hbi; rfl
        | obj o => exact absurd rfl (hno o)
        | lbx T x h => exact absurd rfl (hnl _ _ _)
        | gone => cases hl
        | resv => cases hl
      subst hbb
      exact absurd h (hnS o)
    · exact p2 i r hr hrl hbi
end
end
section
set_option linter.unusedVariables false
set_option linter.unusedSimpArgs false
set_option maxHeartbeats 400000
abbrev A3 := Option (Bool × AV × Heap)
def setParts (T : ETy) (st : Nat → PStep) (L : Heap) : T.I → List (Nat × AV) → Option T.I
  | x, [] => some x
  | x, (i, a) :: r => (tyP T [st i]).bind fun σ => (liftA L σ a).bind fun y => (setP T x [st i] ⟨σ, y⟩).bind fun x' => setParts T st L x' r
def okSt (T : ETy) (st : Nat → PStep) : List (Nat × AV) → Bool
  | [] => true
  | (i, _) :: r => (match T, st i with | .arr n _, .idx j => decide (j < n) | _, _ => true) && okSt T st r
def lkUse (b : Bool) : List (Nat × TypeId × ETy) → List (Nat × TypeId × ETy)
  | [] => []
  | p :: r => bif p.1 == 1000000 then (bif b then [] else r) else p :: r
def isNilA : List (Nat × AV) → Bool
  | [] => true
  | _ => false
def awayP (T : ETy) (o : Nat) : List (Nat × AV) → Bool
  | [] => true
  | (i, _) :: r => (match tyP T [.fld i] with | some σ => Nat.blt o (off T [.fld i]) || Nat.ble (off T [.fld i] + σ.size) o | none => false) && awayP T o r
def nilO (T : ETy) (parts : List (Nat × AV)) : List (Nat × TypeId × ETy) → List Nat
  | [] => []
  | (o, _, _) :: l => bif (match (zc T)[o]? with | some (.slice none 0 0) => true | _ => false) && awayP T o parts then o :: nilO T parts l else nilO T parts l
def bzA (T : ETy) (x : T.I) : List Nat → AV
  | [] => .v T x
  | os => .bz T x os
def buildA (C : Cfg) (L : Heap) (t : TypeId) (parts : List (Nat × AV)) : A3 :=
  (C.Ty t).bind fun τ =>
    let L1 := markL L (parts.map (·.2))
    match τ with
    | .pair a b => (setParts (.pair a b) .fld L1 (ETy.pair a b).z parts).map fun x => (true, bzA (.pair a b) x (nilO (.pair a b) parts (lkUse (isNilA parts) (C.Lk t))), L1)
    | .arr n e => if okSt (.arr n e) .idx parts then (setParts (.arr n e) .idx L1 (ETy.arr n e).z parts).map fun x => (true, .v (.arr n e) x, L1) else none
    | _ => none
def elId (C : Cfg) (t : TypeId) : Option TypeId := match C.P.underlying t with | some (.slice e) => some e | _ => none
def buildSliceA (C : Cfg) (L : Heap) (id : Nat) (t : TypeId) (len : Nat) (parts : List (Nat × AV)) : A3 :=
  (C.Ty t).bind fun τ => (elId C t).bind fun te =>
    let L1 := markL L (parts.map (·.2))
    match τ with
    | .slice e => if okSt (.arr len e) .idx parts && decide (C.Ty te = some e) && !(e.size == 0) && decide (len * e.size ≤ 16777216) then (setParts (.arr len e) .idx L1 (ETy.arr len e).z parts).map fun x => (true, .rs id, L1.set id (.row te e x false)) else none
    | _ => none
def allocA (C : Cfg) (L : Heap) (id : Nat) (t : TypeId) : A3 := match C.Ob t with
  | some te => some (true, .ref id [], L.set id (.obj (.bld t te ⟨#[]⟩)))
  | none => (C.Ty t).map fun τ => (true, .ref id [], L.set id (.box τ τ.z false))
def boxA (C : Cfg) (L : Heap) (id : Nat) (t : TypeId) (a : AV) : A3 :=
  (C.Ty t).bind fun τ =>
    let L1 := mark1' L a
    (liftA L1 τ a).map fun x => (true, .ref id [], L1.set id (.box τ x false))
where mark1' (L : Heap) (a : AV) : Heap := markL L [a]
def makeA (C : Cfg) (L : Heap) (id : Nat) (t : TypeId) (l c : AV) : A3 :=
  match C.Ty t, elId C t with
  | some (.slice e), some te => if decide (C.Ty te = some e) && !(e.size == 0) then
      match l, c with
      | .v (.int _) n, .v (.int _) k => some (decide ((n : Int) = k) && decide ((0 : Int) ≤ n) && decide (n ≤ (2147483648 : Int)), .rs id, L.set id (.row te e (List.replicate (Int.toNat n) e.z) false))
      | _, _ => none
    else none
  | _, _ => none
def nilRowA (C : Cfg) (L : Heap) (id : Nat) (t : TypeId) : A3 :=
  match C.Ty t, elId C t with
  | some (.slice e), some te => some (true, .rs id, L.set id (.row te e [] false))
  | _, _ => none
def storeA (C : Cfg) (L : Heap) (t : TypeId) (p a : AV) : A3 :=
  (C.Ty t).bind fun τ =>
    let L1 := markL L [a]
    (liftA L1 τ a).bind fun y =>
      match p with
      | .ref id q => match L1[id]? with
        | some (.box T x false) => (setP T x q ⟨τ, y⟩).map fun x' => (true, .dead, L1.set id (.box T x' false))
        | _ => none
      | .rref id i q => match L1[id]? with
        | some (.row te e xs false) => (setP e (xs.getD i e.z) q ⟨τ, y⟩).map fun x' => (true, .dead, L1.set id (.row te e (xs.set i x') false))
        | _ => none
      | _ => none
def All2 {α β : Type} (R : α → β → Prop) : List α → List β → Prop
  | [], [] => True
  | x :: xs, y :: ys => R x y ∧ All2 R xs ys
  | _, _ => False
theorem getP_some : ∀ {T : ETy} {x : T.I} {s : PStep} {σ : ETy}, tyP T [s] = some σ → ∃ d, getP T x [s] = some d
  | .pair a b, x, .fld 0, σ, h => ⟨_, by simp only [getP]; rfl⟩
  | .pair a b, x, .fld (k + 1), σ, h => by simp only [tyP] at h; simp only [getP]; exact getP_some h
  | .arr n e, x, .idx i, σ, h => ⟨_, by simp only [getP]; rfl⟩
  | .int _, _, .fld _, _, h | .int _, _, .idx _, _, h | .bool, _, .fld _, _, h | .bool, _, .idx _, _, h
  | .str, _, .fld _, _, h | .str, _, .idx _, _, h | .raw _, _, .fld _, _, h | .raw _, _, .idx _, _, h
  | .unit, _, .fld _, _, h | .unit, _, .idx _, _, h | .slice _, _, .fld _, _, h | .slice _, _, .idx _, _, h
  | .pair _ _, _, .idx _, _, h | .arr _ _, _, .fld _, _, h => by simp [tyP] at h
theorem getP_of_set : ∀ {T : ETy} {x y : T.I} {p : List PStep} {e : Dat}, setP T x p e = some y → ∃ d, getP T x p = some d
  | T, x, y, [], e, h => ⟨_, by simp only [getP]; rfl⟩
  | .pair a b, x, y, .fld 0 :: p, e, h => by
    simp only [setP, Option.map_eq_some_iff] at h
    obtain ⟨z, hz, _⟩ := h
    simp only [getP]
    exact getP_of_set hz
  | .pair a b, x, y, .fld (k + 1) :: p, e, h => by
    simp only [setP, Option.map_eq_some_iff] at h
    obtain ⟨z, hz, _⟩ := h
    simp only [getP]
    exact getP_of_set hz
  | .arr n c, x, y, .idx i :: p, e, h => by
    simp only [setP, Option.map_eq_some_iff] at h
    obtain ⟨z, hz, _⟩ := h
    simp only [getP]
    exact getP_of_set hz
  | .int _, _, _, .fld _ :: _, _, h | .int _, _, _, .idx _ :: _, _, h | .bool, _, _, .fld _ :: _, _, h | .bool, _, _, .idx _ :: _, _, h
  | .str, _, _, .fld _ :: _, _, h | .str, _, _, .idx _ :: _, _, h | .raw _, _, _, .fld _ :: _, _, h | .raw _, _, _, .idx _ :: _, _, h
  | .unit, _, _, .fld _ :: _, _, h | .unit, _, _, .idx _ :: _, _, h | .slice _, _, _, .fld _ :: _, _, h | .slice _, _, _, .idx _ :: _, _, h
  | .pair _ _, _, _, .idx _ :: _, _, h | .arr _ _, _, _, .fld _ :: _, _, h => by simp [setP] at h
section
variable {C : Cfg} {B : Nat} {m : Nat → Value} {L : Heap} {w w' : World} {S S' : Nat → Nat → Prop}
theorem fold_set : ∀ (ms pre mid post : List Value) (o k : Nat), pre.length = o + k → mid.length = ms.length →
    (ms.zipIdx k).foldl (fun cs (c, j) => cs.setIfInBounds (o + j) c) (pre ++ mid ++ post).toArray = (pre ++ ms ++ post).toArray
  | [], pre, mid, post, o, k, h1, h2 => by
    obtain rfl : mid = [] := List.length_eq_zero_iff.1 (by simpa using h2)
    simp
  | c :: ms, pre, [], post, o, k, h1, h2 => by simp at h2
  | c :: ms, pre, d :: mid, post, o, k, h1, h2 => by
    have ih := fold_set ms (pre ++ [c]) mid post o (k + 1) (by simp [h1]; omega) (by simpa using h2)
    simp only [List.zipIdx_cons, List.foldl_cons] at ih ⊢
    have e : ((pre ++ d :: mid ++ post).toArray.setIfInBounds (o + k) c) = (pre ++ [c] ++ mid ++ post).toArray := by
      rw [← h1]
      simp
    rw [e, ih]
    simp
theorem fill_rep {T : ETy} {st : Nat → PStep} {place : Nat → Option (Nat × Nat)} (hp : ∀ i σ, tyP T [st i] = some σ → (match T, st i with | .arr n _, .idx j => decide (j < n) | _, _ => true) = true → place i = some (off T [st i], σ.size) ∧ okP T [st i]) :
    ∀ {parts : List (Nat × AV)} {vs : List (Nat × Value)} {x x' : T.I} {cs : List Value}, okSt T st parts = true → RepC w S T x cs →
      (All2 (fun (p : Nat × AV) (q : Nat × Value) => p.1 = q.1 ∧ ∀ σ y, liftA L σ p.2 = some y → RepV w S σ y q.2) parts vs) → setParts T st L x parts = some x' →
      ∃ cs', Instr.fill place cs.toArray vs = some cs'.toArray ∧ RepC w S T x' cs'
  | [], [], x, x', cs, ho, hr, hv, hs => by
    simp only [setParts, Option.some.injEq] at hs
    subst hs
    exact ⟨cs, rfl, hr⟩
  | (i, a) :: parts, (j, v) :: vs, x, x', cs, ho, hr, hv, hs => by
    obtain ⟨⟨rfl, h1⟩, h2⟩ := hv
    simp only [setParts] at hs
    cases hσ : tyP T [st i] with
    | none => rw [hσ] at hs; cases hs
    | some σ =>
      rw [hσ] at hs
      simp only [Option.bind_some] at hs
      cases hy : liftA L σ a with
      | none => rw [hy] at hs; cases hs
      | some y =>
        rw [hy] at hs
        simp only [Option.bind_some] at hs
        cases hx : setP T x [st i] ⟨σ, y⟩ with
        | none => rw [hx] at hs; cases hs
        | some x1 =>
          rw [hx] at hs
          simp only [Option.bind_some] at hs
          simp only [okSt, Bool.and_eq_true] at ho
          obtain ⟨p1, p2⟩ := hp i σ hσ ho.1
          obtain ⟨ms, hm, rfl⟩ := h1 σ y hy
          have hg : ∃ d, getP T x [st i] = some d := getP_some hσ
          obtain ⟨d, hd⟩ := hg
          have hdτ : d.τ = σ := by have := getP_ty hd; rw [hσ] at this; cases this; rfl
          obtain ⟨pre, mid, post, rfl, e1, e2, e3⟩ := getP_rep p2 hr hd
          obtain ⟨_, e4⟩ := e3 ⟨σ, y⟩ x1 ms hm hx
          obtain ⟨cs', f1, f2⟩ := fill_rep hp ho.2 e4 h2 hs
          refine ⟨cs', ?_, f2⟩
          rw [Instr.fill, p1]
          simp only
          rw [cells_valOf hm]
          have hml := hm.length
          have hmid := e2.length
          rw [hdτ] at hmid
          rw [if_neg (by simp [hml]; omega)]
          rw [← e1]
          have := fold_set ms pre mid post pre.length 0 (by simp) (by omega)
          rw [← Array.foldl_toList, Array.toList_zipIdx, this]
          exact f1
  | [], _ :: _, x, x', cs, ho, hr, hv, hs => by cases hv
  | _ :: _, [], x, x', cs, ho, hr, hv, hs => by cases hv
end
end
section
set_option linter.unusedVariables false
set_option linter.unusedSimpArgs false
set_option maxHeartbeats 400000
section
variable {C : Cfg} {B : Nat} {m : Nat → Value} {L : Heap} {w w' : World} {S S' : Nat → Nat → Prop}
def Does (C : Cfg) (B : Nat) (X : Nat → Bool) (m : Nat → Value) (L : Heap) (w : World) (S : Nat → Nat → Prop) (s : Sem Value) (av : AV) (L' : Heap) : Prop :=
  ∃ u m' w' S', s.run C.P w = .ok u w' ∧ Goes B X m L w S m' L' w' S' ∧ RepA m' L' w' S' av u
theorem mark_resv {l : List AV} {id : Nat} : ∀ {L : Heap}, L[id]? = some .resv → (markL L l)[id]? = some .resv := by
  induction l with
  | nil => exact fun h => h
  | cons a l ih =>
    intro L h
    unfold markL
    split
    · rename_i j hj
      apply ih
      unfold mark1
      cases hL : L[j]? with
      | none => exact h
      | some s =>
        rw [get_set ⟨_, hL⟩]
        split
        · rename_i e; subst e; rw [h] at hL; cases hL; rfl
        · exact h
    · exact ih h
theorem goes_noX {X : Nat → Bool} {m1 : Nat → Value} {L1 : Heap} {w1 : World} {S1 : Nat → Nat → Prop} (hX : ∀ i, X i = false) (hg : Goes B X m L w S m1 L1 w1 S1) {a : AV} {u : Value} (h : RepA m L w S a u) : RepA m1 L1 w1 S1 a u := by
  refine RepA.go hg.safe hg.ext ?_ h
  have : ∀ (f : Bool → Nat → Bool), (∀ r i, f r i = true) → (∀ a : AV, a.ids f = true) := by
    intro f hf a
    exact AV.rec (motive_1 := fun a => a.ids f = true) (motive_2 := fun l => AV.idsL f l = true) (fun _ _ => by simp only [AV.ids]) (fun _ => by simp only [AV.ids]) (fun _ _ _ => by simp only [AV.ids]) (fun _ _ => by simp only [AV.ids]; exact hf _ _) (fun _ _ _ => by simp only [AV.ids]; exact hf _ _)
      (fun _ _ _ _ => by simp only [AV.ids]; exact hf _ _) (fun _ => by simp only [AV.ids]; exact hf _ _) (fun _ _ _ => by simp only [AV.ids]; exact hf _ _) (fun _ _ h => by simp only [AV.ids]; exact h) (fun _ _ h => by simp only [AV.ids]; exact h) (fun _ h => by simp only [AV.ids]; exact h) (fun _ _ hs => by simp only [AV.ids, List.all_eq_true]; rintro ⟨_, r⟩ _; cases r <;> first | rfl | exact hf _ _) (fun _ _ _ => by simp only [AV.ids]) (by simp only [AV.ids]) (by simp only [AV.idsL])
      (fun a l h1 h2 => by simp only [AV.idsL, h1, h2, Bool.and_self]) a
  exact this _ (fun r i => by simp [noX, hX]) a
theorem all2_parts {σ : Operand → Value} {ρ : Operand → AV} {m1 : Nat → Value} {L1 : Heap} {w1 : World} {S1 : Nat → Nat → Prop} (hI : Inv B m1 L1 w1 S1) (h : ∀ x, RepA m1 L1 w1 S1 (ρ x) (σ x)) : ∀ (parts : List (Nat × Operand)), (∀ p ∈ parts, ∀ id, markA (ρ p.2) = some id → Kept m1 L1 S1 id) →
    All2 (fun (p : Nat × AV) (q : Nat × Value) => p.1 = q.1 ∧ ∀ τ y, liftA L1 τ p.2 = some y → RepV w1 S1 τ y q.2) (parts.map fun (i, x) => (i, ρ x)) (parts.map fun (i, x) => (i, σ x))
  | [], hk => trivial
  | (i, x) :: r, hk => ⟨⟨rfl, fun τ y hy => lift_rep hI (h x) (fun id hid => hk (i, x) (by simp) id hid) hy⟩, all2_parts hI h r (fun p hp => hk p (List.mem_cons_of_mem _ hp))⟩
theorem map_snd (ρ : Operand → AV) (parts : List (Nat × Operand)) : (parts.map fun (i, x) => (i, ρ x)).map (·.2) = parts.map fun p => ρ p.2 := by simp
theorem places_of {τ : ETy} : ∀ (fs : List Field) (k : Nat), fieldsOK C.P τ k fs = true → ∃ places : List (Nat × Nat), fs.mapM (fun f => (C.P.info? f.type).map fun i => (f.offset, i.size)) = some places ∧ ∀ j σ, tyP τ [.fld (k + j)] = some σ → places[j]? = some (off τ [.fld (k + j)], σ.size)
  | [], k, h => by
    refine ⟨[], by simp, fun j σ hj => ?_⟩
    exfalso
    simp only [fieldsOK, Option.isNone_iff_eq_none] at h
    have : ∀ j, tyP τ [.fld (k + j)] = none := by
      intro j
      induction j with
      | zero => exact h
      | succ j ih => exact tyP_fld_none ih
    rw [this j] at hj
    cases hj
  | f :: fs, k, h => by
    simp only [fieldsOK, Bool.and_eq_true] at h
    obtain ⟨h1, h2⟩ := h
    obtain ⟨places, q1, q2⟩ := places_of fs (k + 1) h2
    cases hty : tyP τ [.fld k] with
    | none => rw [hty] at h1; cases h1
    | some σ =>
      rw [hty] at h1
      simp only [Bool.and_eq_true, beq_iff_eq] at h1
      obtain ⟨⟨e1, e2⟩, e3⟩ := h1
      obtain ⟨i, hi, e2⟩ := Option.map_eq_some_iff.1 e2
      refine ⟨(f.offset, i.size) :: places, by simp [List.mapM_cons, hi, q1], fun j σ' hj => ?_⟩
      cases j with
      | zero =>
        rw [Nat.add_zero, hty] at hj
        cases hj
        simp [e1, e2]
      | succ j =>
        have := q2 j σ' (by rwa [show k + 1 + j = k + (j + 1) by omega])
        rw [show k + 1 + j = k + (j + 1) by omega] at this
        simpa using this
theorem awayP_at {T : ETy} {o : Nat} : ∀ {parts : List (Nat × AV)}, awayP T o parts = true → ∀ p ∈ parts, ∃ σ, tyP T [.fld p.1] = some σ ∧ (o < off T [.fld p.1] ∨ off T [.fld p.1] + σ.size ≤ o)
  | [], _, p, hp => by cases hp
  | (i, a) :: r, h, p, hp => by
    simp only [awayP, Bool.and_eq_true] at h
    rcases List.mem_cons.1 hp with rfl | hp
    · cases hσ : tyP T [.fld i] with
      | none => rw [hσ] at h; cases h.1
      | some σ =>
        rw [hσ] at h
        exact ⟨σ, rfl, by simpa [Nat.blt_eq, Nat.ble_eq] using h.1⟩
    · exact awayP_at h.2 p hp
theorem nilO_at {T : ETy} {parts : List (Nat × AV)} : ∀ {l : List (Nat × TypeId × ETy)} {o : Nat}, o ∈ nilO T parts l → (zc T)[o]? = some (.slice none 0 0) ∧ awayP T o parts = true
  | [], o, h => by cases h
  | (a, te, e) :: l, o, h => by
    unfold nilO at h
    cases hc : ((match (zc T)[a]? with | some (.slice none 0 0) => true | _ => false) && awayP T a parts) with
    | false => rw [hc, cond_false] at h; exact nilO_at h
    | true =>
      rw [hc, cond_true] at h
      rw [Bool.and_eq_true] at hc
      rcases List.mem_cons.1 h with rfl | h
      · refine ⟨?_, hc.2⟩
        have := hc.1
        split at this
        · rename_i q; exact q
        · cases this
      · exact nilO_at h
theorem fold_away (vs : List Value) (a k o : Nat) (ho : o < a + k ∨ a + k + vs.length ≤ o) : ∀ (cs : Array Value), ((vs.zipIdx k).foldl (fun cs (c, j) => cs.setIfInBounds (a + j) c) cs)[o]? = cs[o]? := by
  induction vs generalizing k with
  | nil => intro cs; rfl
  | cons v r ih =>
    intro cs
    simp only [List.zipIdx_cons, List.foldl_cons]
    rw [ih (k + 1) (by simp only [List.length_cons] at ho; omega)]
    rw [Array.getElem?_setIfInBounds_ne (by simp only [List.length_cons] at ho; omega)]
theorem fill_away {place : Nat → Option (Nat × Nat)} {o : Nat} : ∀ (vs : List (Nat × Value)) (cs cs' : List Value) (_ : Unit), Instr.fill place cs.toArray vs = some cs'.toArray → (∀ p ∈ vs, ∃ a n, place p.1 = some (a, n) ∧ (o < a ∨ a + n ≤ o)) → cs'[o]? = cs[o]? := by
  intro vs
  have key : ∀ (vs : List (Nat × Value)) (cs cs' : Array Value), Instr.fill place cs vs = some cs' → (∀ p ∈ vs, ∃ a n, place p.1 = some (a, n) ∧ (o < a ∨ a + n ≤ o)) → cs'[o]? = cs[o]? := by
    intro vs
    induction vs with
    | nil => intro cs cs' h _; cases h; rfl
    | cons p r ih =>
      intro cs cs' h hp
      obtain ⟨i, v⟩ := p
      obtain ⟨a, n, h1, h2⟩ := hp (i, v) List.mem_cons_self
      rw [Instr.fill, h1] at h
      simp only at h
      split at h
      · cases h
      · rename_i hc
        rw [ih _ _ h (fun p hp' => hp p (List.mem_cons_of_mem _ hp'))]
        rw [← Array.foldl_toList, Array.toList_zipIdx]
        have hn : v.cells.size = n := by
          simp only [ne_eq, Bool.or_eq_true, decide_eq_true_eq, not_or, Decidable.not_not] at hc
          exact hc.1
        exact fold_away v.cells.toList a 0 o (by rw [Array.length_toList, hn]; omega) cs
  intro cs cs' _ h hp
  have := key vs _ _ h hp
  simpa using this
theorem does_build (hC : C.OK) (hI : Inv B m L w S) {ρ : Operand → AV} {σ : Operand → Value} (h : ∀ x, RepA m L w S (ρ x) (σ x)) {t : TypeId} {parts : Array (Nat × Operand)} {av : AV} {L' : Heap}
    (hb : buildA C L t (parts.toList.map fun (i, x) => (i, ρ x)) = some (true, av, L')) : Does C B (fun _ => false) m L w S (Instr.build t (parts.map fun (i, x) => (i, σ x))) av L' := by
  unfold buildA at hb
  cases hτ : C.Ty t with
  | none => rw [hτ] at hb; cases hb
  | some τ =>
    rw [hτ] at hb
    simp only [Option.bind_some, map_snd] at hb
    obtain ⟨S1, g1, _, k1⟩ := markL_goes (m := m) (w := w) (fun _ => false) (parts.toList.map fun p => ρ p.2) hI
    have h1 : ∀ x, RepA m (markL L (parts.toList.map fun p => ρ p.2)) w S1 (ρ x) (σ x) := fun x => goes_noX (fun _ => rfl) g1 (h x)
    have hall := all2_parts g1.inv h1 parts.toList (fun p hp id hid => k1 (ρ p.2) (List.mem_map_of_mem (f := fun p => ρ p.2) hp) id hid)
    have hG := hC.ty _ _ hτ
    have hparts : (parts.map fun (i, x) => (i, σ x)).toList = parts.toList.map fun (i, x) => (i, σ x) := by simp
    split at hb
    · rename_i a b
      cases hs : setParts (.pair a b) .fld (markL L (parts.toList.map fun p => ρ p.2)) (ETy.pair a b).z (parts.toList.map fun (i, x) => (i, ρ x)) with
      | none => rw [hs] at hb; cases hb
      | some x =>
        rw [hs] at hb
        simp only [Option.map_some, Option.some.injEq, Prod.mk.injEq, true_and] at hb
        obtain ⟨rfl, rfl⟩ := hb
        obtain ⟨d, hd, ha, hk⟩ := hG.und
        cases d <;> simp [descOK] at hk
        rename_i fs
        obtain ⟨places, hp1, hp2⟩ := places_of fs.toList 0 hk.2
        obtain ⟨cs', f1, f2⟩ := fill_rep (S := S1) (w := w) (place := (places.toArray[·]?)) (fun i σ' hσ _ => ⟨by have := hp2 i σ' (by rw [Nat.zero_add]; exact hσ); rw [Nat.zero_add] at this; simpa using this, okP_fld hσ⟩) (by
            have : ∀ l : List (Nat × AV), okSt (.pair a b) .fld l = true := by
              intro l
              induction l with
              | nil => rfl
              | cons p l ih => obtain ⟨i, v⟩ := p; simp [okSt, ih]
            exact this _) (repC_zero (.pair a b)) hall hs
        obtain ⟨inf, hi, _, hz⟩ := hG.size
        refine ⟨.agg cs'.toArray, m, w, S1, run_build w t _ _ ?_, g1, ?_⟩
        · unfold Program.built
          simp only [hi, hd, hz, hp1]
          rw [hparts]
          exact f1
        · have hv : RepA m (markL L (parts.toList.map fun p => ρ p.2)) w S1 (.v (.pair a b) x) (.agg cs'.toArray) := by rw [rep_v]; exact ⟨cs', f2, rfl⟩
          unfold bzA
          split
          · exact hv
          · rename_i os hos
            simp only [RepA]
            refine ⟨rfl, cs', rfl, f2, fun o ho => ?_⟩
            obtain ⟨n1, n2⟩ := nilO_at ho
            refine (fill_away _ _ _ () f1 fun p hp => ?_).trans n1
            obtain ⟨q, hq, rfl⟩ := List.mem_map.1 hp
            obtain ⟨σ', k1, k2⟩ := awayP_at n2 (q.1, ρ q.2) (List.mem_map.2 ⟨q, hq, rfl⟩)
            have := hp2 q.1 σ' (by rw [Nat.zero_add]; exact k1)
            rw [Nat.zero_add] at this
            exact ⟨_, _, by simpa using this, k2⟩
    · rename_i n e
      split at hb
      · rename_i hok
        cases hs : setParts (.arr n e) .idx (markL L (parts.toList.map fun p => ρ p.2)) (ETy.arr n e).z (parts.toList.map fun (i, x) => (i, ρ x)) with
        | none => rw [hs] at hb; cases hb
        | some x =>
          rw [hs] at hb
          simp only [Option.map_some, Option.some.injEq, Prod.mk.injEq, true_and] at hb
          obtain ⟨rfl, rfl⟩ := hb
          obtain ⟨te, inf, hu, hinf, hsz, hag⟩ := und_arr hG
          have hce : C.P.cellsOf te = e.size := by simp [Program.cellsOf, hinf, hsz]
          obtain ⟨cs', f1, f2⟩ := fill_rep (S := S1) (w := w) (place := fun i => some (i * e.size, e.size)) (fun i σ' hσ hlt => by
              simp only [tyP, Option.some.injEq] at hσ
              subst hσ
              simp only [decide_eq_true_eq] at hlt
              exact ⟨by simp [off], okP_idx hlt⟩) hok (repC_zero (.arr n e)) hall hs
          refine ⟨.agg cs'.toArray, m, w, S1, ?_, g1, ?_⟩
          · simp only [Instr.build, Sem.run_bind, run_zeroValue' hG, Result.andThen_ok, run_underlying hu, run_sizeOf w hinf, hce]
            rw [hparts]
            have hz : (valOf (.arr n e) (zc (.arr n e))).cells = (zc (.arr n e)).toArray := rfl
            rw [hz, f1]
            rfl
          · rw [rep_v]; exact ⟨cs', f2, rfl⟩
      · cases hb
    · cases hb
theorem cells_zc_arr (len : Nat) (e : ETy) (hz : (zc e).length = e.size) : (Array.range (len * e.size)).map ((zc e).toArray[· % (zc e).toArray.size]!) = (zc (.arr len e)).toArray := by
  simp only [zc]
  apply Array.ext'
  simp only [Array.toList_map, Array.toList_range]
  induction len with
  | zero => simp
  | succ n ih =>
    by_cases hs : e.size = 0
    · have : zc e = [] := List.eq_nil_of_length_eq_zero (by omega)
      simp [hs, this]
    · rw [List.replicate_succ', List.flatten_append, ← ih, Nat.succ_mul, List.range_add, List.map_append, List.map_map]
      congr 1
      simp only [List.flatten_cons, List.flatten_nil, List.append_nil]
      apply List.ext_getElem (by simp [hz])
      intro j h1 h2
      simp only [List.getElem_map, List.getElem_range, Function.comp_apply, List.size_toArray, hz]
      have hj : j < e.size := by simpa using h1
      have hm : (n * e.size + j) % e.size = j := by rw [Nat.mul_comm, Nat.mul_add_mod, Nat.mod_eq_of_lt hj]
      rw [hm]
      simp [getElem!_pos, h2]
theorem zc_length : ∀ e : ETy, (zc e).length = e.size := fun e => (repC_zero (w := default) (S := fun _ _ => False) e).length
theorem elId_eq {t te : TypeId} (h : elId C t = some te) : C.P.underlying t = some (.slice te) := by
  unfold elId at h
  split at h
  · rename_i e he; cases h; exact he
  · cases h
theorem does_alloc (hC : C.OK) (hI : Inv B m L w S) {t : TypeId} {id : Nat} (hid : L[id]? = some .resv) {av : AV} {L' : Heap} (hb : allocA C L id t = some (true, av, L')) : Does C B (fun _ => false) m L w S (Instr.alloc t true (.tuple #[])) av L' := by
  unfold allocA at hb
  cases hob : C.Ob t with
  | some te =>
    rw [hob] at hb
    simp only [Option.some.injEq, Prod.mk.injEq, true_and] at hb
    obtain ⟨rfl, rfl⟩ := hb
    have hG := hC.ob _ _ hob
    have hg := Grows.alloc w (.cells (zc (.pair (.raw .ptr) (.pair (.slice (.int .u8)) .unit))).toArray t (0, 0))
    have go := Goes.fresh' (s := .obj (.bld t te ⟨#[]⟩)) (v := .tuple #[.pointer (some ⟨w.heap.size, 0, none⟩), .slice none 0 0]) hI hg hid (by intro b hb; rw [blks_pair] at hb; simp [blk] at hb; omega)
      (by intro T x ro e; cases e) (by intro t e xs ro e; cases e)
      (by
        intro o e
        cases e
        exact ⟨w.heap.size, .slice none 0 0, .pointer none, rfl, hI.base, .inl rfl, heap_alloc_new w _, World.ownsRow_nil _ _ _ _, by simp [blk]⟩) (fun _ => false)
    refine ⟨.pointer (some ⟨w.heap.size, 0, none⟩), _, _, _, ?_, go, ?_⟩
    · simp only [Instr.alloc, Sem.run_bind, run_zeroValue' hG, Result.andThen_ok, newVar, newRow, cells_valOf (repC_zero (w := w) (S := S) _)]
      rfl
    · simp only [RepA]
      refine ⟨.obj (.bld t te ⟨#[]⟩), by rw [get_set ⟨_, hid⟩, if_pos rfl], by simp, ?_, ?_⟩
      · intro T e; cases e
      · intro o e; exact ⟨trivial, .slice none 0 0, upd_same _ _ _⟩
  | none =>
  rw [hob] at hb
  dsimp only at hb
  cases hτ : C.Ty t with
  | none => rw [hτ] at hb; cases hb
  | some τ =>
    rw [hτ] at hb
    simp only [Option.map_some, Option.some.injEq, Prod.mk.injEq, true_and] at hb
    obtain ⟨rfl, rfl⟩ := hb
    have hG := hC.ty _ _ hτ
    have hg := Grows.alloc w (.cells (zc τ).toArray t (0, 0))
    have go := Goes.fresh (s := .box τ τ.z false) (v := .pointer (some ⟨w.heap.size, 0, none⟩)) hI hg hid (by intro b hb; simp [blk] at hb; omega)
      (by
        intro T x ro e
        cases e
        exact ⟨w.heap.size, zc τ, t, (0, 0), rfl, hI.base, heap_alloc_new w _, fun o _ => by simp, repC_zero τ⟩)
      (by intro t e xs ro e; cases e) (fun _ => false)
    refine ⟨.pointer (some ⟨w.heap.size, 0, none⟩), _, _, _, ?_, go, ?_⟩
    · simp only [Instr.alloc, Sem.run_bind, run_zeroValue' hG, Result.andThen_ok, newVar, newRow, cells_valOf (repC_zero (w := w) (S := S) τ)]
      rfl
    · simp only [RepA]
      refine ⟨.box τ τ.z false, by rw [get_set ⟨_, hid⟩, if_pos rfl], by simp, ?_, by intro o e; cases e⟩
      intro T e
      cases e
      exact ⟨by simp [okP], w.heap.size, upd_same _ _ _, by simp [off]⟩
theorem does_box (hC : C.OK) (hI : Inv B m L w S) {a : AV} {u : Value} (ha : RepA m L w S a u) {t : TypeId} {id : Nat} (hid : L[id]? = some .resv) {av : AV} {L' : Heap} (hb : boxA C L id t a = some (true, av, L')) : Does C B (fun _ => false) m L w S (Instr.box t u) av L' := by
  unfold boxA boxA.mark1' at hb
  cases hτ : C.Ty t with
  | none => rw [hτ] at hb; cases hb
  | some τ =>
    rw [hτ] at hb
    simp only [Option.bind_some] at hb
    obtain ⟨S1, g1, _, k1⟩ := markL_goes (m := m) (w := w) (fun _ => false) [a] hI
    have ha1 := goes_noX (fun _ => rfl) g1 ha
    cases hl : liftA (markL L [a]) τ a with
    | none => rw [hl] at hb; cases hb
    | some x =>
      rw [hl] at hb
      simp only [Option.map_some, Option.some.injEq, Prod.mk.injEq, true_and] at hb
      obtain ⟨rfl, rfl⟩ := hb
      have hr := lift_rep g1.inv ha1 (k1 a (by simp)) hl
      obtain ⟨cs, hc, rfl⟩ := hr
      have hid1 := mark_resv (l := [a]) hid
      have hg := Grows.alloc w (.cells cs.toArray t (0, 0))
      have go := Goes.fresh (s := .box τ x false) (v := .pointer (some ⟨w.heap.size, 0, none⟩)) g1.inv hg hid1 (by intro b hb; simp [blk] at hb; omega)
        (by
          intro T y ro e
          cases e
          exact ⟨w.heap.size, cs, t, (0, 0), rfl, hI.base, heap_alloc_new w _, fun o _ => by simp, hc.safe (hg.safe g1.inv)⟩)
        (by intro t e xs ro e; cases e) (fun _ => false)
      refine ⟨.pointer (some ⟨w.heap.size, 0, none⟩), _, _, _, ?_, g1.trans go, ?_⟩
      · simp only [Instr.box, Sem.run_bind, newVar, newRow, cells_valOf hc]
        rfl
      · simp only [RepA]
        refine ⟨.box τ x false, by rw [get_set ⟨_, hid1⟩, if_pos rfl], by simp, ?_, by intro o e; cases e⟩
        intro T e
        cases e
        exact ⟨by simp [okP], w.heap.size, upd_same _ _ _, by simp [off]⟩
theorem does_nilRow (hC : C.OK) (hI : Inv B m L w S) {t : TypeId} {id : Nat} (hid : L[id]? = some .resv) {av : AV} {L' : Heap} (hb : nilRowA C L id t = some (true, av, L')) :
    ∃ m', Goes B (fun _ => false) m L w S m' L' w S ∧ RepA m' L' w S av (.slice none 0 0) := by
  unfold nilRowA at hb
  split at hb
  · rename_i e te h1 h2
    simp only [Option.some.injEq, Prod.mk.injEq, true_and] at hb
    obtain ⟨rfl, rfl⟩ := hb
    have go := Goes.fresh (s := .row te e [] false) (v := .slice none 0 0) hI (Grows.refl w) hid (by intro b hb; simp [blk] at hb) (by intro T x ro e; cases e)
      (by
        intro t e xs ro e'
        cases e'
        exact ⟨[], World.ownsRow_nil w B _ _, rfl⟩) (fun _ => false)
    refine ⟨_, go, ?_⟩
    simp only [RepA]
    refine ⟨.row te e [] false, by rw [get_set ⟨_, hid⟩, if_pos rfl], by simp, fun t e xs ro e' => ?_⟩
    exact (upd_same _ _ _).symm
  · cases hb
theorem does_buildSlice (hC : C.OK) (hI : Inv B m L w S) {ρ : Operand → AV} {σ : Operand → Value} (h : ∀ x, RepA m L w S (ρ x) (σ x)) {t : TypeId} {len id : Nat} (hid : L[id]? = some .resv) {parts : Array (Nat × Operand)} {av : AV} {L' : Heap}
    (hb : buildSliceA C L id t len (parts.toList.map fun (i, x) => (i, ρ x)) = some (true, av, L')) : Does C B (fun _ => false) m L w S (Instr.buildSlice t len (parts.map fun (i, x) => (i, σ x))) av L' := by
  unfold buildSliceA at hb
  cases hτ : C.Ty t with
  | none => rw [hτ] at hb; cases hb
  | some τ =>
    cases hte : elId C t with
    | none => rw [hτ, hte] at hb; cases hb
    | some te =>
      rw [hτ, hte] at hb
      simp only [Option.bind_some, map_snd] at hb
      obtain ⟨S1, g1, _, k1⟩ := markL_goes (m := m) (w := w) (fun _ => false) (parts.toList.map fun p => ρ p.2) hI
      have h1 : ∀ x, RepA m (markL L (parts.toList.map fun p => ρ p.2)) w S1 (ρ x) (σ x) := fun x => goes_noX (fun _ => rfl) g1 (h x)
      have hall := all2_parts g1.inv h1 parts.toList (fun p hp id hid => k1 (ρ p.2) (List.mem_map_of_mem (f := fun p => ρ p.2) hp) id hid)
      have hparts : (parts.map fun (i, x) => (i, σ x)).toList = parts.toList.map fun (i, x) => (i, σ x) := by simp
      have hu := elId_eq hte
      split at hb
      · rename_i e
        split at hb
        · rename_i hok
          simp only [Bool.and_eq_true, decide_eq_true_eq, Bool.not_eq_true', beq_eq_false_iff_ne, ne_eq] at hok
          obtain ⟨⟨⟨ok1, ok2⟩, ok3⟩, ok4⟩ := hok
          cases hs : setParts (.arr len e) .idx (markL L (parts.toList.map fun p => ρ p.2)) (ETy.arr len e).z (parts.toList.map fun (i, x) => (i, ρ x)) with
          | none => rw [hs] at hb; cases hb
          | some x =>
            rw [hs] at hb
            simp only [Option.map_some, Option.some.injEq, Prod.mk.injEq, true_and] at hb
            obtain ⟨rfl, rfl⟩ := hb
            have hGe := hC.ty _ _ ok2
            obtain ⟨inf, hinf, hsz, hz⟩ := hGe.size
            have hce : C.P.cellsOf te = e.size := by simp [Program.cellsOf, hinf, hsz]
            obtain ⟨cs', f1, f2⟩ := fill_rep (S := S1) (w := w) (place := fun i => some (i * e.size, e.size)) (fun i σ' hσ hlt => by
                simp only [tyP, Option.some.injEq] at hσ
                subst hσ
                simp only [decide_eq_true_eq] at hlt
                exact ⟨by simp [off], okP_idx hlt⟩) ok1 (repC_zero (.arr len e)) hall hs
            have hxl : List.length x = len := f2.1
            have hid1 := mark_resv (l := parts.toList.map fun p => ρ p.2) hid
            have hg := Grows.alloc w (.cells cs'.toArray te (0, 0))
            have hcl := f2.length
            simp only [ETy.size] at hcl
            have go := Goes.fresh (s := .row te e x false) (v := .slice (some ⟨w.heap.size, 0, none⟩) len len) g1.inv hg hid1 (by intro b hb; simp [blk] at hb; omega)
              (by intro T y ro e; cases e)
              (by
                intro t e xs ro e'
                cases e'
                refine ⟨cs', ⟨by rw [hcl, hxl], .inr ⟨w.heap.size, len, cs'.toArray, by rw [hxl], hI.base, heap_alloc_new w _, by omega, ?_, by simp [hcl], ?_⟩⟩, RepL.mono (fun x c h => h.safe (hg.safe g1.inv)) f2.2⟩
                · have : len ≤ len * e.size := Nat.le_mul_of_pos_right _ (by omega)
                  simp only [maxLen]; omega
                · rw [hxl, ← hcl]; simp) (fun _ => false)
            refine ⟨.slice (some ⟨w.heap.size, 0, none⟩) len len, _, _, _, ?_, g1.trans go, ?_⟩
            · have hsmall : ¬ len * e.size > 2 ^ 24 := by omega
              simp only [Instr.buildSlice, Sem.run_bind, run_underlying hu, Result.andThen_ok, run_sizeOf w hinf, hce, hsmall, if_false]
              by_cases h0 : len * e.size = 0
              · have hl0 : len = 0 := by
                  rcases Nat.mul_eq_zero.1 h0 with h | h
                  · exact h
                  · exact absurd h ok3
                subst hl0
                have hcs : cs' = [] := List.eq_nil_of_length_eq_zero (by omega)
                subst hcs
                have f1' : Instr.fill (fun i => some (i * e.size, e.size)) #[] (parts.toList.map fun (i, x) => (i, σ x)) = some #[] := by simpa [zc] using f1
                simp only [Nat.zero_mul, if_true, Sem.run_bind, Sem.run_pure, Result.andThen_ok, hparts]
                have e0 : (Array.range 0).map (fun x => (#[] : Array Value)[x % (#[] : Array Value).size]!) = #[] := by simp
                rw [e0, f1']
                rfl
              · simp only [h0, if_false, Sem.run_bind, run_zeroValue' hGe, Result.andThen_ok, Sem.run_pure, cells_valOf (repC_zero (w := w) (S := S) e), hparts]
                rw [cells_zc_arr len e (zc_length e), f1]
                rfl
            · simp only [RepA]
              refine ⟨.row te e x false, by rw [get_set ⟨_, hid1⟩, if_pos rfl], by simp, fun t e xs ro e' => ?_⟩
              exact (upd_same _ _ _).symm
        · cases hb
      · cases hb
end
end
section
set_option linter.unusedVariables false
set_option linter.unusedSimpArgs false
set_option maxHeartbeats 400000
def rowMax : Nat := 2147483648
def keepH (f : Nat → Bool) (hs : List (Nat × Option Nat)) : List (Nat × Option Nat) := hs.map fun p => (p.1, match p.2 with | some j => bif f j then some j else none | none => none)
def Slot.keep (f : Nat → Bool) : Slot → Slot
  | .lbx T x hs => .lbx T x (keepH f hs)
  | s => s
def keepL (f : Nat → Bool) (L : Heap) : Heap := L.map (Slot.keep f)
def killL (i : Nat) (L : Heap) : Heap := keepL (fun j => !(j == i)) L
theorem lk_keep (f : Nat → Bool) (o : Nat) : ∀ hs : List (Nat × Option Nat), lk (keepH f hs) o = (lk hs o).map fun r => match r with | some j => bif f j then some j else none | none => none
  | [] => rfl
  | (a, r) :: l => by
    show lk ((a, _) :: keepH f l) o = _
    simp only [lk]
    rw [lk_keep f o l]
    cases (a == o) <;> rfl
theorem lk_keep_none {f : Nat → Bool} {o : Nat} {hs : List (Nat × Option Nat)} (h : lk (keepH f hs) o = none) : lk hs o = none := by
  rw [lk_keep] at h; simpa using h
theorem lk_keep_some {f : Nat → Bool} {o rid : Nat} {hs : List (Nat × Option Nat)} (h : lk (keepH f hs) o = some (some rid)) : lk hs o = some (some rid) ∧ f rid = true := by
  rw [lk_keep] at h
  obtain ⟨r, h1, h2⟩ := Option.map_eq_some_iff.1 h
  cases r with
  | none => cases h2
  | some j =>
    have h2 : (bif f j then some j else (none : Option Nat)) = some rid := h2
    cases hj : f j with
    | true => rw [hj] at h2; cases h2; exact ⟨h1, hj⟩
    | false => rw [hj] at h2; cases h2
theorem keep_get {f : Nat → Bool} {j : Nat} {L : Heap} {s : Slot} (h : (keepL f L)[j]? = some s) : ∃ r, L[j]? = some r ∧ r.keep f = s := by
  unfold keepL at h
  rw [List.getElem?_map] at h
  exact Option.map_eq_some_iff.1 h
theorem get_keep {f : Nat → Bool} {j : Nat} {L : Heap} {s : Slot} (h : L[j]? = some s) : (keepL f L)[j]? = some (s.keep f) := by
  unfold keepL
  rw [List.getElem?_map, h]; rfl
theorem keep_live (f : Nat → Bool) (s : Slot) : (s.keep f).live = s.live := by cases s <;> rfl
theorem keep_ro (f : Nat → Bool) (s : Slot) : (s.keep f).ro = s.ro := by cases s <;> rfl
theorem keep_cells (f : Nat → Bool) (s : Slot) : (s.keep f).cells = s.cells := by cases s <;> rfl
theorem keep_bty (f : Nat → Bool) (s : Slot) : (s.keep f).bty = s.bty := by cases s <;> rfl
theorem keep_resv {f : Nat → Bool} {s : Slot} : s.keep f = .resv ↔ s = .resv := by cases s <;> simp [Slot.keep]
theorem keep_keeps {f : Nat → Bool} {j : Nat} {L : Heap} (h : L[j]? = some .resv) : (keepL f L)[j]? = some .resv := get_keep h
theorem Ext.keep {X : Nat → Bool} {m m' : Nat → Value} {L L' : Heap} (f : Nat → Bool) (h : Ext X m L m' L') : Ext X m L m' (keepL f L') := by
  refine ⟨fun id s hs hr => ?_⟩
  obtain ⟨s', e1, r1, b1, o1, w1⟩ := h.ext id s hs hr
  refine ⟨_, get_keep e1, fun e => r1 (keep_resv.1 e), fun T e => b1 T (by rw [← e, keep_bty]), fun o e => o1 o ?_, fun t e xs ro hx q => w1 t e xs ro hx ?_⟩
  · cases s' <;> simp [Slot.keep] at e ⊢; exact e
  · cases s' <;> simp [Slot.keep] at q ⊢; exact q
theorem Inv.keep_of {B : Nat} {m : Nat → Value} {L : Heap} {w : World} {S : Nat → Nat → Prop} {f : Nat → Bool} (base : B ≤ w.heap.size)
    (box : ∀ (id : Nat) (T : ETy) (x : T.I) (ro : Bool), L[id]? = some (.box T x ro) → ∃ b cs el fr, m id = .pointer (some ⟨b, 0, none⟩) ∧ B ≤ b ∧ w.heap[b]? = some (.cells cs.toArray el fr) ∧ (∀ o, o < cs.length → ¬ (fr.1 ≤ o ∧ o < fr.2)) ∧ RepC w S T x cs)
    (row : ∀ (id : Nat) (t : TypeId) (e : ETy) (xs : List e.I) (ro : Bool), L[id]? = some (.row t e xs ro) → ∃ cs, w.ownsRow B t e.size (m id) xs.length cs ∧ RepL (RepC w S e) xs cs)
    (obj : ∀ (id : Nat) (o : Obj'), L[id]? = some (.obj o) → ObjOK B (m id) w o)
    (lbx : ∀ (id : Nat) (T : ETy) (x : T.I) (hs : List (Nat × Option Nat)), L[id]? = some (.lbx T x hs) → LbxOK B m (keepL f L) (m id) w S T x (keepH f hs))
    (apart : ∀ (i j : Nat) (s r : Slot), i ≠ j → L[i]? = some s → L[j]? = some r → s.live = true → r.live = true → ∀ b, b ∈ blks (m i) → b ∈ blks (m j) → False)
    (prot : ∀ b o, S b o → b < w.heap.size ∧ ∀ (i : Nat) (s : Slot), L[i]? = some s → s.live = true → b ∈ blks (m i) → s.ro = true ∧ o < s.cells) : Inv B m (keepL f L) w S := by
  refine ⟨base, fun id T x ro h => ?_, fun id t e xs ro h => ?_, fun id o h => ?_, fun id T x hs h => ?_, fun a b s r hne h1 h2 l1 l2 => ?_, fun b o h => ⟨(prot b o h).1, fun a s hs hl hb => ?_⟩⟩
  · obtain ⟨r, h1, h2⟩ := keep_get h
    cases r <;> simp [Slot.keep] at h2
    obtain ⟨rfl, h2, rfl⟩ := h2
    cases h2
    exact box id _ _ _ h1
  · obtain ⟨r, h1, h2⟩ := keep_get h
    cases r <;> simp [Slot.keep] at h2
    obtain ⟨rfl, rfl, h2, rfl⟩ := h2
    cases h2
    exact row id _ _ _ _ h1
  · obtain ⟨r, h1, h2⟩ := keep_get h
    cases r <;> simp [Slot.keep] at h2
    subst h2
    exact obj id _ h1
  · obtain ⟨r, h1, h2⟩ := keep_get h
    cases r <;> simp [Slot.keep] at h2
    obtain ⟨rfl, h2, rfl⟩ := h2
    cases h2
    exact lbx id _ _ _ h1
  · obtain ⟨s1, e1, rfl⟩ := keep_get h1
    obtain ⟨s2, e2, rfl⟩ := keep_get h2
    rw [keep_live] at l1 l2
    exact apart a b s1 s2 hne e1 e2 l1 l2
  · obtain ⟨s1, e1, rfl⟩ := keep_get hs
    rw [keep_live] at hl
    rw [keep_ro, keep_cells]
    exact (prot b o h).2 a s1 e1 hl hb
def appendA (C : Cfg) (L : Heap) (id : Nat) (t : TypeId) (s x : AV) : A3 :=
  match C.Ty t, elId C t with
  | some (.slice e), some te =>
    if decide (C.Ty te = some e) && !(e.size == 0) then
      (liftA L (.slice e) x).bind fun ys =>
        match s with
        | .rs i => match L[i]? with
          | some (.row te' e' xs ro) => if te' = te then (castI (.slice e) (.slice e') ys).map fun ys => (decide (List.length xs + List.length ys ≤ rowMax), .rs i, killL i (L.set i (.row te' e' (xs ++ ys) ro))) else none
          | _ => none
        | .cst (.slice none 0 0) => some (decide (List.length ys ≤ rowMax), .rs id, L.set id (.row te e ys false))
        | _ => none
    else none
  | _, _ => none
section
variable {C : Cfg} {B : Nat} {m : Nat → Value} {L : Heap} {w w' : World} {S S' : Nat → Nat → Prop}
theorem does_store (hC : C.OK) (hI : Inv B m L w S) {t : TypeId} {p a : AV} {up ua : Value} (hp : RepA m L w S p up) (ha : RepA m L w S a ua) {av : AV} {L' : Heap} (hb : storeA C L t p a = some (true, av, L')) :
    ∃ m' w' S', (Instr.storeAt t up ua).run C.P w = .ok () w' ∧ Goes B (fun _ => false) m L w S m' L' w' S' ∧ av = .dead := by
  unfold storeA at hb
  cases hτ : C.Ty t with
  | none => rw [hτ] at hb; cases hb
  | some τ =>
    rw [hτ] at hb
    simp only [Option.bind_some] at hb
    obtain ⟨S1, g1, _, k1⟩ := markL_goes (m := m) (w := w) (fun _ => false) [a] hI
    have ha1 := goes_noX (fun _ => rfl) g1 ha
    have hp1 := goes_noX (fun _ => rfl) g1 hp
    cases hl : liftA (markL L [a]) τ a with
    | none => rw [hl] at hb; cases hb
    | some y =>
      rw [hl] at hb
      simp only [Option.bind_some] at hb
      have hr := lift_rep g1.inv ha1 (k1 a (by simp)) hl
      obtain ⟨ms, hm, rfl⟩ := hr
      have hml := hm.length
      split at hb
      · rename_i id q
        split at hb
        · rename_i T x hL
          cases hset : setP T x q ⟨τ, y⟩ with
          | none => rw [hset] at hb; cases hb
          | some x' =>
            rw [hset] at hb
            simp only [Option.map_some, Option.some.injEq, Prod.mk.injEq, true_and] at hb
            obtain ⟨rfl, rfl⟩ := hb
            simp only [RepA] at hp1
            obtain ⟨s, h1, h2, h3⟩ := hp1
            rw [hL] at h1; cases h1
            obtain ⟨h0, b, hmid, rfl⟩ := h3.1 T rfl
            obtain ⟨b', cs, el, fr, hm', hB, hb, hfr, hr⟩ := g1.inv.box id T x false hL
            rw [hmid] at hm'; cases hm'
            have hgp : ∃ d, getP T x q = some d := getP_of_set hset
            obtain ⟨d, hd⟩ := hgp
            obtain ⟨pre, mid, post, rfl, e2, e3, e4⟩ := getP_rep h0 hr hd
            obtain ⟨f1, f2⟩ := e4 ⟨τ, y⟩ x' ms hm hset
            have f1 : τ = d.τ := f1
            have hmidl := e3.length
            rw [← f1] at hmidl
            obtain ⟨w2, r1, r2⟩ := run_storeVar' (hC.ty _ _ hτ) (P := C.P) hb hfr hm hmidl
            rw [e2] at r1
            refine ⟨m, w2, S1, by simp only [Instr.storeAt, Instr.sureAddr, Sem.run_bind, Sem.run_pure, Result.andThen_ok]; exact r1, g1.trans ?_, rfl⟩
            have hsz := f2.length
            refine Goes.wrote (s' := .box T x' false) g1.inv hL rfl rfl (by rw [hmid]; rfl) r2 ⟨rfl, rfl⟩ ?_ (by intro t e xs ro e; cases e) _
            intro T' x'' ro' e
            cases e
            refine ⟨⟨x, rfl⟩, fun o ho => hfr o ?_, f2⟩
            simp only [List.length_append] at ho ⊢
            omega
        · cases hb
      · rename_i id i q
        split at hb
        · rename_i te e xs hL
          cases hset : setP e (xs.getD i e.z) q ⟨τ, y⟩ with
          | none => rw [hset] at hb; cases hb
          | some x' =>
            rw [hset] at hb
            simp only [Option.map_some, Option.some.injEq, Prod.mk.injEq, true_and] at hb
            obtain ⟨rfl, rfl⟩ := hb
            simp only [RepA] at hp1
            obtain ⟨s, h1, h2, h3⟩ := hp1
            rw [hL] at h1; cases h1
            obtain ⟨hi, h0, b, n, c, hmid, rfl⟩ := h3 te e xs false rfl
            obtain ⟨cs, ho, hr⟩ := g1.inv.row id te e xs false hL
            obtain ⟨d, hd⟩ := getP_of_set hset
            obtain ⟨pre, mid, post, rfl, e2, e3, e4⟩ := RepL.at_ (s := e.size) (fun x c h => RepC.length h) e.z i hr hi
            obtain ⟨pre', mid', post', rfl, e2', e3', e4'⟩ := getP_rep h0 e3 hd
            obtain ⟨f1, f2⟩ := e4' ⟨τ, y⟩ x' ms hm hset
            have f3 := e4 x' _ f2
            have f1 : τ = d.τ := f1
            have hmidl := e3'.length
            rw [← f1] at hmidl
            rcases ho.2 with ⟨hv, hn⟩ | ⟨g, cap, cur, hv, hg, hh, hle, hmx, hcs, htk⟩
            · omega
            · rw [hmid] at hv
              cases hv
              have hcur : cur = ((pre ++ pre') ++ mid' ++ (post' ++ post ++ cur.toList.drop (xs.length * e.size))).toArray := by
                apply Array.ext'
                have : cur.toList = cur.toList.take (xs.length * e.size) ++ cur.toList.drop (xs.length * e.size) := (List.take_append_drop _ _).symm
                refine this.trans ?_
                rw [htk]
                simp
              rw [hcur] at hh
              obtain ⟨w2, r1, r2⟩ := run_storeVar' (hC.ty _ _ hτ) (P := C.P) hh (by intro o _; simp) hm hmidl
              rw [List.length_append, e2, e2'] at r1
              refine ⟨m, w2, S1, by simp only [Instr.storeAt, Instr.sureAddr, Sem.run_bind, Sem.run_pure, Result.andThen_ok]; exact r1, g1.trans ?_, rfl⟩
              refine Goes.wrote (s' := .row te e (xs.set i x') false) g1.inv hL rfl rfl (by rw [hmid]; rfl) r2 ⟨rfl, by simp [Slot.cells]⟩ (by intro T x ro e; cases e) ?_ _
              intro t' e' xs' ro' e
              cases e
              refine ⟨⟨xs, rfl, by simp⟩, pre ++ (pre' ++ ms ++ post') ++ post, ⟨?_, .inr ⟨b, c, _, ?_, hg, r2.here, ?_, hmx, ?_, ?_⟩⟩, f3⟩
              · have := RepL.length (fun x c h => RepC.length h) f3
                exact this
              · rw [hmid]; simp
              · simpa using hle
              · have hs := congrArg Array.size hcur
                simp only [List.size_toArray, List.length_append] at hs
                rw [← hcs, hs]
                simp only [List.size_toArray, List.length_append]
                omega
              · have hl3 := RepL.length (fun x c h => RepC.length h) f3
                rw [← hl3]
                simp only [List.append_assoc]
                rw [show pre ++ (pre' ++ (ms ++ (post' ++ (post ++ List.drop (xs.length * e.size) cur.toList)))) = (pre ++ (pre' ++ (ms ++ (post' ++ post)))) ++ List.drop (xs.length * e.size) cur.toList by simp]
                exact List.take_left' rfl
        · cases hb
      · cases hb
theorem src_rep' (hI : Inv B m L w S) {τ : ETy} {y : τ.I} {a : AV} {u : Value} (hx : RepA m L w S a u) (hl : liftA L τ a = some y) : ∀ (e : ETy) (he : τ = .slice e) (ys : List e.I), castI τ (.slice e) y = some ys →
    ∃ A c, u = .slice A ys.length c ∧ (ys = [] ∨ ∃ b o ds, A = some ⟨b, o, none⟩ ∧ RepL (RepC w S e) ys ds ∧ ∀ j (h : j < ds.length), w.cell? ⟨b, o + j, none⟩ = some ds[j]) := by
  unfold liftA at hl
  split at hl
  · obtain ⟨e1, rfl⟩ := castI_eq hl
    subst e1
    intro e he ys hys
    subst he
    obtain ⟨_, rfl⟩ := castI_eq hys
    rw [rep_v] at hx
    obtain ⟨cs, hr, rfl⟩ := hx
    obtain ⟨A, cap, rfl, hcap, hr⟩ := hr
    refine ⟨A, cap, rfl, hr.imp (fun h => h) ?_⟩
    rintro ⟨b, o, ds, rfl, h1, h2⟩
    exact ⟨b, o, ds, rfl, h1, fun j hj => (h2 j hj).1⟩
  · simp only [RepA] at hx
    subst hx
    split at hl
    · cases hl
      intro e he ys hys
      cases he
      obtain ⟨_, rfl⟩ := castI_eq hys
      exact ⟨none, 0, rfl, .inl rfl⟩
    · cases hl
  · rename_i id
    split at hl
    · rename_i t e' xs ro hL
      obtain ⟨e1, rfl⟩ := castI_eq hl
      subst e1
      intro e he ys hys
      cases he
      obtain ⟨_, rfl⟩ := castI_eq hys
      simp only [RepA] at hx
      obtain ⟨s, h1, h2, h3⟩ := hx
      rw [hL] at h1; cases h1
      obtain rfl := h3 t _ _ ro rfl
      obtain ⟨cs, ho, hr⟩ := hI.row id t _ _ ro hL
      rcases ho.2 with ⟨hv, hn⟩ | ⟨g, cap, cur, hv, hg, hh, hle, _⟩
      · refine ⟨none, 0, ?_, .inl (List.eq_nil_of_length_eq_zero hn)⟩
        rw [hv]; exact congrArg (fun k => Value.slice none k 0) hn.symm
      · exact ⟨some ⟨g, 0, none⟩, cap, by rw [hv], .inr ⟨g, 0, cs, rfl, hr, row_cells ho hv⟩⟩
    · cases hl
  · rename_i id p lo n
    split at hl
    · rename_i T z ro hL
      cases hg : getP T z p with
      | none => rw [hg] at hl; cases hl
      | some d =>
        rw [hg] at hl
        simp only [Option.bind_some] at hl
        split at hl
        · rename_i N e' xs
          obtain ⟨e1, rfl⟩ := castI_eq hl
          subst e1
          intro e he ys hys
          cases he
          obtain ⟨_, rfl⟩ := castI_eq hys
          simp only [RepA] at hx
          obtain ⟨s, h1, h2, h3⟩ := hx
          rw [hL] at h1; cases h1
          obtain ⟨h0, hn, b, A, cap, hcap, hm, rfl, hA⟩ := h3 T rfl N _ (getP_ty hg)
          obtain ⟨b', cs, el, fr, hm', hB, hb, hfr, hr⟩ := hI.box id T z ro hL
          rw [hm] at hm'; cases hm'
          obtain ⟨pre, mid, post, rfl, e2, e3, _⟩ := getP_rep h0 hr hg
          obtain ⟨hxl, hxr⟩ := e3
          have hxl : List.length xs = N := hxl
          have hlen : ((List.drop lo xs).take n).length = n := by simp; omega
          refine ⟨A, cap, congrArg (fun k => Value.slice A k cap) hlen.symm, ?_⟩
          rcases hA with rfl | rfl
          · left; exact List.take_zero
          · right
            have t1 := (RepL.take (s := e'.size) (fun x c h => RepC.length h) lo hxr).2
            have t2 := (RepL.take (s := e'.size) (fun x c h => RepC.length h) n t1).1
            refine ⟨_, _, _, rfl, t2, fun j hj => ?_⟩
            simp only [List.length_take, List.length_drop] at hj
            have hcell := cellsAt_mid (cellsAt_block hb) (lo * e'.size + j) (by omega)
            rw [Nat.zero_add, e2] at hcell
            rw [Nat.add_assoc]
            simpa using hcell
        · cases hl
    · cases hl
  · rename_i id lo n
    split at hl
    · rename_i t e' xs ro hL
      obtain ⟨e1, rfl⟩ := castI_eq hl
      subst e1
      intro e he ys hys
      cases he
      obtain ⟨_, rfl⟩ := castI_eq hys
      simp only [RepA] at hx
      obtain ⟨s, h1, h2, h3⟩ := hx
      rw [hL] at h1; cases h1
      obtain ⟨hn, A, c, hc, rfl, hA⟩ := h3 t _ _ ro rfl
      obtain ⟨cs, ho, hr⟩ := hI.row id t _ _ ro hL
      have hcl := RepL.length (fun x c h => RepC.length h) hr
      have hlen : ((List.drop lo xs).take n).length = n := by simp; omega
      refine ⟨A, c, congrArg (fun k => Value.slice A k c) hlen.symm, ?_⟩
      rcases hA with rfl | ⟨b, k, c1, hm, rfl⟩
      · left; exact List.take_zero
      · right
        have t1 := (RepL.take (s := e'.size) (fun x c h => RepC.length h) lo hr).2
        have t2 := (RepL.take (s := e'.size) (fun x c h => RepC.length h) n t1).1
        refine ⟨b, lo * e'.size, _, rfl, t2, fun j hj => ?_⟩
        simp only [List.length_take, List.length_drop] at hj
        have hcell := row_cells ho hm (lo * e'.size + j) (by omega)
        rw [Nat.zero_add] at hcell
        simpa using hcell
    · cases hl
  · obtain ⟨e1, rfl⟩ := castI_eq hl
    subst e1
    intro e he
    cases he
  · cases hl
theorem src_rep (hI : Inv B m L w S) {e : ETy} {ys : List e.I} {a : AV} {u : Value} (hx : RepA m L w S a u) (hl : liftA L (.slice e) a = some ys) :
    ∃ A c, u = .slice A ys.length c ∧ (ys = [] ∨ ∃ b o ds, A = some ⟨b, o, none⟩ ∧ RepL (RepC w S e) ys ds ∧ ∀ j (h : j < ds.length), w.cell? ⟨b, o + j, none⟩ = some ds[j]) :=
  src_rep' hI hx hl e rfl ys (by simp [castI])
theorem run_append_nothing {t te ty : TypeId} {v : Value} {n c sz : Nat} {cs : List Value} {inf : TypeInfo} (hu : C.P.underlying t = some (.slice te)) (hinf : C.P.info? te = some inf) (ho : w.ownsRow B te sz v n cs) :
    (Builtin.append_ #[t, t] ty #[v, .slice none 0 c]).run C.P w = .ok v w := by
  rcases ho.2 with ⟨rfl, rfl⟩ | ⟨g, cap, cur, rfl, hb, hg, hnc, _⟩
  · simp [Builtin.append_, run_underlying hu, sizeOf, typeInfo, hinf, Builtin.lenOf, Builtin.firstCells]
  · simp [Builtin.append_, run_underlying hu, sizeOf, typeInfo, hinf, Builtin.lenOf, Builtin.firstCells, hnc, storeCells]
theorem run_append_row (hC : C.OK) (hI : Inv B m L w S) {t te ty : TypeId} {e : ETy} {v : Value} {n c : Nat} {cs : List Value} {ys : List e.I} {A : Option Addr} (hu : C.P.underlying t = some (.slice te)) (hty : C.Ty t = some (.slice e)) (hte : C.Ty te = some e) (hz : e.size ≠ 0)
    (ho : w.ownsRow B te e.size v n cs) (hbound : n + ys.length ≤ rowMax) (hsrc : ys = [] ∨ ∃ b o ds, A = some ⟨b, o, none⟩ ∧ RepL (RepC w S e) ys ds ∧ ∀ j (h : j < ds.length), w.cell? ⟨b, o + j, none⟩ = some ds[j]) :
    ∃ v' w' ds, (Builtin.append_ #[t, t] ty #[v, .slice A ys.length c]).run C.P w = .ok v' w' ∧ w'.ownsRow B te e.size v' (n + ys.length) (cs ++ ds) ∧ w.grownBy w' v.ownBlock ∧ (v'.ownBlock = v.ownBlock ∨ (v'.ownBlock = some w.heap.size ∧ ∀ k, k < w.heap.size → w'.heap[k]? = w.heap[k]?)) ∧ RepL (RepC w S e) ys ds := by
  obtain ⟨te', inf, hu', hinf, hsz, hby, _⟩ := und_slice (hC.ty _ _ hty)
  rw [hu] at hu'; cases hu'
  obtain ⟨inf', hinf', _, hzero⟩ := (hC.ty _ _ hte).size
  rw [hinf] at hinf'; cases hinf'
  have hzc : (valOf e (zc e)).cells.size = e.size := by rw [cells_valOf (repC_zero (w := w) (S := S) e)]; simpa using zc_length e
  unfold rowMax at hbound
  cases A with
  | none =>
    have hys : ys = [] := by
      rcases hsrc with h | ⟨_, _, _, h, _⟩
      · exact h
      · cases h
    subst hys
    refine ⟨v, w, [], run_append_nothing hu hinf ho, by simpa using ho, ⟨rfl, rfl, rfl, Nat.le_refl _, fun _ _ _ => rfl⟩, .inl rfl, rfl⟩
  | some ad =>
    obtain ⟨ds, h1, h2⟩ : ∃ ds, RepL (RepC w S e) ys ds ∧ ∀ j u, ds[j]? = some u → w.cell? (ad.add j) = some u := by
      rcases hsrc with rfl | ⟨b, o, ds, h, h1, h2⟩
      · exact ⟨[], rfl, fun j u h => by simp at h⟩
      · cases h
        refine ⟨ds, h1, fun j u hj => ?_⟩
        obtain ⟨hlt, rfl⟩ := List.getElem?_eq_some_iff.1 hj
        rw [add_at]; exact h2 j hlt
    have hl := RepL.length (fun x c h => RepC.length h) h1
    have hby2 : (n + ys.length) * inf.bytes ≤ 140737488355328 := by
      calc (n + ys.length) * inf.bytes ≤ 2147483648 * 65536 := Nat.mul_le_mul hbound hby
        _ = 140737488355328 := rfl
    obtain ⟨v', w', r1, r2, r3, _, r5⟩ := run_append_own_at (P := C.P) w B t ty te inf _ e.size inf.bytes hu hinf hzero hsz rfl hzc (by omega) v n cs ho ad ys.length c ds hl h2 (RepL.one (fun x c h => RepC.one h) h1)
      (by simp only [maxLen]; omega) hby2 hI.base
    refine ⟨v', w', ds, r1, r2, r3, ?_, h1⟩
    rcases r5 with r5 | r5
    · exact .inl r5
    · right
      refine ⟨r5, ?_⟩
      rcases ho.2 with ⟨rfl, rfl⟩ | ⟨g, cap, cur, rfl, hbg, hg, hnc, hcm, hcs, htake⟩
      · intro k hk
        exact r3.block k hk (by simp [Value.ownBlock])
      · by_cases hroom : n + ys.length ≤ cap
        · exfalso
          have hr := run_append_room (P := C.P) w t ty te inf hu hinf g n cap cur hg ad ys.length c ds (by rw [hsz]; exact hl) h2 (RepL.one (fun x c h => RepC.one h) h1) hroom
            (by rw [hl, hcs, hsz, ← Nat.add_mul]; exact Nat.mul_le_mul_right _ hroom)
          rw [r1] at hr
          injection hr with hv hw
          rw [hv] at r5
          simp only [Value.ownBlock, Option.some.injEq] at r5
          have := (Array.getElem?_eq_some_iff.1 hg).1
          omega
        · have holds : ∀ j u, cs[j]? = some u → w.cell? ((⟨g, 0, none⟩ : Addr).add j) = some u := ho.cells (g := g) rfl
          have hr := run_append_grow (P := C.P) w t ty te inf _ hu hinf hzero ⟨g, 0, none⟩ n cap cs (by rw [hsz]; exact ho.1) holds ad ys.length c ds (by rw [hsz]; exact hl) h2 (by omega) (by simp only [maxLen] at hcm; omega) (growslice_fits (by omega) hby2)
          rw [r1] at hr
          injection hr with hv hw
          intro k hk
          rw [hw]
          exact Below.heap_alloc w.drew _ k hk
end
end
section
set_option linter.unusedVariables false
set_option linter.unusedSimpArgs false
set_option maxHeartbeats 400000
section
variable {C : Cfg} {B : Nat} {m : Nat → Value} {L : Heap} {w w' : World} {S S' : Nat → Nat → Prop}
theorem Goes.rowed (hI : Inv B m L w S) {id : Nat} {t : TypeId} {e : ETy} {xs xs' : List e.I} {ro : Bool} {v' : Value} {cs cs' : List Value} (hid : L[id]? = some (.row t e xs ro)) (hle : xs.length ≤ xs'.length)
    (hg : w.grownBy w' (m id).ownBlock) (ho : w.ownsRow B t e.size (m id) xs.length cs) (hr : RepL (RepC w S e) xs cs) (ho' : w'.ownsRow B t e.size v' xs'.length (cs ++ cs')) (hr' : RepL (RepC w S e) xs' (cs ++ cs'))
    (hat : v'.ownBlock = (m id).ownBlock ∨ (v'.ownBlock = some w.heap.size ∧ ∀ k, k < w.heap.size → w'.heap[k]? = w.heap[k]?)) : Goes B (fun i => i == id) m L w S (upd m id v') (killL id (L.set id (.row t e xs' ro))) w' S := by
  have gs := get_set (s := .row t e xs' ro) ⟨_, hid⟩
  rw [blk_own ho] at hg hat
  rw [blk_own ho'] at hat
  have hcl := RepL.length (fun x c h => RepC.length h) hr
  have hold : ∀ k, k < w.heap.size → blk (m id) ≠ some k → w'.heap[k]? = w.heap[k]? := fun k hk hne => hg.block k hk (fun e => hne e.symm)
  have hsafe : Safe S S w w' := by
    refine ⟨fun _ _ h => h, fun b o h => ?_⟩
    obtain ⟨p1, p2⟩ := hI.prot b o h
    by_cases hb : blk (m id) = some b
    · obtain ⟨q1, q2⟩ := p2 id _ hid rfl (in_blk hb)
      simp only [Slot.cells] at q2
      rcases hat with h' | ⟨_, h'⟩
      · have hb' : blk v' = some b := h'.trans hb
        have c1 : w.cell? ⟨b, o, none⟩ = cs[o]? := by
          have hlt : o < cs.length := by omega
          have := ho.cells (g := b) (by rw [blk_own ho]; exact hb) o cs[o] (by simp)
          rw [add_at, Nat.zero_add] at this
          rw [this]; simp
        have c2 : w'.cell? ⟨b, o, none⟩ = cs[o]? := by
          have hlt : o < cs.length := by omega
          have := ho'.cells (g := b) (by rw [blk_own ho']; exact hb') o cs[o] (by rw [List.getElem?_append_left (by omega)]; simp)
          rw [add_at, Nat.zero_add] at this
          rw [this]; simp
        rw [c1, c2]
      · exact World.cell?_of_block (a := ⟨b, o, none⟩) (h' b p1)
    · exact World.cell?_of_block (a := ⟨b, o, none⟩) (hold b p1 hb)
  have hfar : ∀ j r, j ≠ id → L[j]? = some r → r.live = true → ∀ b, b ∈ blks (m j) → w'.heap[b]? = w.heap[b]? := by
    intro j r hj hr hl b hb
    exact hold b (hI.lt hr hl hb).2 (fun e => hI.apart j id r _ hj hr hid hl rfl b hb (in_blk e))
  have hat' : blk v' = blk (m id) ∨ blk v' = some w.heap.size := hat.imp (fun h => h) (fun h => h.1)
  have hap : ∀ j r, j ≠ id → L[j]? = some r → r.live = true → ∀ b, b ∈ blks (m j) → b ∈ blks v' → False := by
    intro j r hj hr hl b hb e
    have e := blk_in (single_row ho') e
    rcases hat' with h | h
    · exact hI.apart j id r _ hj hr hid hl rfl b hb (in_blk (h.symm.trans e))
    · have := (hI.lt hr hl hb).2
      rw [h] at e
      cases e
      omega
  have he : Ext (fun i => i == id) m L (upd m id v') (L.set id (.row t e xs' ro)) := by
    refine ⟨?_⟩
    intro j r hr hne
    by_cases e1 : j = id
    · subst e1
      rw [hid] at hr; cases hr
      refine ⟨.row t e xs' ro, by rw [gs, if_pos rfl], by simp, ?_, ?_, ?_⟩
      · intro T h; cases h
      · intro o h; cases h
      · intro t e xs ro hx h; simp at hx
    · exact ⟨r, by rw [gs, if_neg e1]; exact hr, hne, fun T h => ⟨upd_ne e1, h⟩, fun o h => ⟨fun u sv h => ⟨sv, by rw [upd_ne e1]; exact h⟩, o, h⟩, fun t e xs ro _ h => ⟨upd_ne e1, xs, ro, h, Nat.le_refl _⟩⟩
  refine ⟨Inv.keep_of (Nat.le_trans hI.base hg.size) ?_ ?_ ?_ ?_ ?_ ?_, hsafe, ⟨hg.os, hg.tape, hg.output, hg.size, fun k hk => hold k (Nat.lt_of_lt_of_le hk hI.base) (fun e => by have := (hI.lt hid rfl (in_blk e)).1; omega)⟩, he.keep _, fun _ _ h => .inl h⟩
  · intro j T x ro' h
    rw [gs] at h
    split at h
    · cases h
    · rename_i e'
      obtain ⟨b, ds, el, fr, hm, h4, h5, h6, h7⟩ := hI.box j T x ro' h
      exact ⟨b, ds, el, fr, by rw [upd_ne e']; exact hm, h4, by rw [hfar j _ e' h rfl b (by rw [hm]; exact in_ptr _ _)]; exact h5, h6, h7.safe hsafe⟩
  · intro j t' e' ys ro' h
    rw [gs] at h
    split at h
    · rename_i e2; subst e2
      cases h
      rw [upd_same]
      exact ⟨_, ho', RepL.mono (fun x c h => h.safe hsafe) hr'⟩
    · rename_i e2
      rw [upd_ne e2]
      obtain ⟨ds, h1, h2⟩ := hI.row j t' e' ys ro' h
      refine ⟨ds, ⟨h1.1, h1.2.imp (fun h => h) ?_⟩, RepL.mono (fun x c h => h.safe hsafe) h2⟩
      rintro ⟨g, cap, cur, hv, hgB, hh, r⟩
      exact ⟨g, cap, cur, hv, hgB, by rw [hfar j _ e2 h rfl g (by rw [hv]; exact in_slc _ _ _ _)]; exact hh, r⟩
  · intro j o h
    rw [gs] at h
    split at h
    · cases h
    · rename_i e2
      rw [upd_ne e2]
      exact (hI.obj j o h).kept fun b hb => hfar j _ e2 h rfl b hb
  · intro j T x h q
    rw [gs] at q
    split at q
    · cases q
    · rename_i e2
      rw [upd_ne e2]
      exact (hI.lbx j T x h q).go hsafe (he.keep _) (fun b hb => hfar j _ e2 q rfl b hb) (fun o h => lk_keep_none h) (fun o rid h => ⟨(lk_keep_some h).1, by simpa using (lk_keep_some h).2⟩)
  · intro i j s1 s2 hne h1 h2 l1 l2
    rw [gs] at h1 h2
    split at h1
    · rename_i e1; subst e1
      split at h2
      · rename_i e2; exact absurd e2.symm hne
      · rename_i e2
        rw [upd_same, upd_ne e2]
        exact fun b h h' => hap j s2 e2 h2 l2 b h' h
    · rename_i e1
      split at h2
      · rename_i e2; subst e2
        rw [upd_same, upd_ne e1]
        exact hap i s1 e1 h1 l1
      · rename_i e2
        rw [upd_ne e1, upd_ne e2]
        exact hI.apart i j s1 s2 hne h1 h2 l1 l2
  · intro b o h
    obtain ⟨p1, p2⟩ := hI.prot b o h
    refine ⟨Nat.lt_of_lt_of_le p1 hg.size, fun i r hr hl hb => ?_⟩
    rw [gs] at hr
    split at hr
    · rename_i e1; subst e1
      cases hr
      rw [upd_same] at hb
      have hb := blk_in (single_row ho') hb
      rcases hat' with h' | h'
      · obtain ⟨q1, q2⟩ := p2 i _ hid rfl (in_blk (h' ▸ hb))
        simp only [Slot.cells] at q2
        refine ⟨q1, ?_⟩
        simp only [Slot.cells]
        exact Nat.lt_of_lt_of_le q2 (Nat.mul_le_mul_right _ hle)
      · rw [h'] at hb
        cases hb
        omega
    · rename_i e1
      rw [upd_ne e1] at hb
      exact p2 i r hr hl hb
def rowOf : AV → Nat → Bool
  | .rs i, j => j == i
  | _, _ => false
theorem does_append (hC : C.OK) (hI : Inv B m L w S) {t ty : TypeId} {id : Nat} (hid : L[id]? = some .resv) {s x : AV} {us ux : Value} (hs : RepA m L w S s us) (hx : RepA m L w S x ux) {av : AV} {L' : Heap} (hb : appendA C L id t s x = some (true, av, L')) :
    Does C B (rowOf s) m L w S (Builtin.append_ #[t, t] ty #[us, ux]) av L' := by
  unfold appendA at hb
  split at hb
  · rename_i e te hty hte
    split at hb
    · rename_i hok
      simp only [Bool.and_eq_true, decide_eq_true_eq, Bool.not_eq_true', beq_eq_false_iff_ne, ne_eq] at hok
      have hu := elId_eq hte
      cases hl : liftA L (.slice e) x with
      | none => rw [hl] at hb; cases hb
      | some ys =>
        rw [hl] at hb
        simp only [Option.bind_some] at hb
        obtain ⟨A, c, rfl, hsrc⟩ := src_rep hI hx hl
        split at hb
        · rename_i i
          split at hb
          · rename_i te' e' xs ro hL
            split at hb
            · rename_i hte'
              subst hte'
              cases hcast : castI (.slice e) (.slice e') ys with
              | none => rw [hcast] at hb; cases hb
              | some ys' =>
                rw [hcast] at hb
                obtain ⟨he, rfl⟩ := castI_eq hcast
                cases he
                simp only [Option.map_some, Option.some.injEq, Prod.mk.injEq, decide_eq_true_eq] at hb
                obtain ⟨hbd, rfl, rfl⟩ := hb
                simp only [RepA] at hs
                obtain ⟨sl, h1, h2, h3⟩ := hs
                rw [hL] at h1; cases h1
                obtain rfl := h3 te' e xs ro rfl
                obtain ⟨cs, ho, hr⟩ := hI.row i te' e xs ro hL
                obtain ⟨v', w', ds, r1, r2, r3, r4, r5⟩ := run_append_row (ty := ty) (c := c) hC hI hu hty hok.1 hok.2 ho hbd hsrc
                have go := Goes.rowed (xs' := xs ++ ys) hI hL (by simp) r3 ho hr (by simpa using r2) (RepL.append hr r5) r4
                refine ⟨v', _, w', S, r1, go, ?_⟩
                simp only [RepA]
                refine ⟨_, get_keep (by rw [get_set ⟨_, hL⟩, if_pos rfl]), by simp [Slot.keep], fun t e xs ro e' => ?_⟩
                exact (upd_same _ _ _).symm
            · cases hb
          · cases hb
        · simp only [RepA] at hs
          subst hs
          simp only [Option.some.injEq, Prod.mk.injEq, decide_eq_true_eq] at hb
          obtain ⟨hbd, rfl, rfl⟩ := hb
          obtain ⟨v', w', ds, r1, r2, r3, r4, r5⟩ := run_append_row (ty := ty) (c := c) hC hI hu hty hok.1 hok.2 (World.ownsRow_nil w B te e.size) (by simpa using hbd) hsrc
          have hg : Grows w w' := ⟨r3.os, r3.tape, r3.output, r3.size, fun k hk => r3.block k hk (by simp [Value.ownBlock])⟩
          have hblk := blk_own r2
          simp only [Nat.zero_add, List.nil_append] at r2
          have go := Goes.fresh (s := .row te e ys false) (v := v') hI hg hid (by
              intro b hb
              rw [← hblk] at hb
              rcases r4 with h | ⟨h, _⟩
              · rw [h] at hb; simp [Value.ownBlock] at hb
              · rw [h] at hb; cases hb; exact Nat.le_refl _) (by intro T y ro e; cases e)
            (by
              intro t e xs ro e'
              cases e'
              exact ⟨ds, r2, RepL.mono (fun x c h => h.safe (hg.safe hI)) r5⟩) (rowOf (.cst (.slice none 0 0))) (single_row r2)
          refine ⟨v', _, w', S, r1, go, ?_⟩
          simp only [RepA]
          refine ⟨_, by rw [get_set ⟨_, hid⟩, if_pos rfl], by simp, fun t e xs ro e' => ?_⟩
          exact (upd_same _ _ _).symm
        · cases hb
    · cases hb
  · cases hb
end
end
section
set_option linter.unusedVariables false
set_option linter.unusedSimpArgs false
set_option maxHeartbeats 400000
def bytesI (s : ByteArray) : List Int := s.data.toList.map fun b => (b.toNat : Int)
def ofBytes (xs : List Int) : ByteArray := xs.foldl (fun r n => r.push (UInt8.ofNat n.toNat)) ByteArray.empty
def toBytesA (C : Cfg) (src dst : TypeId) (s : ByteArray) : R :=
  match C.Ty src, C.Ty dst, elId C dst with
  | some .str, some (.slice (.int .u8)), some te => if C.Ty te = some (.int .u8) then ok1 (.v (.slice (.int .u8)) (bytesI s)) else none
  | _, _, _ => none
def toStrA (C : Cfg) (src dst : TypeId) (xs : List Int) : R :=
  match C.Ty src, C.Ty dst, elId C src with
  | some (.slice (.int .u8)), some .str, some te => if C.Ty te = some (.int .u8) then ok1 (.v .str (ofBytes xs)) else none
  | _, _, _ => none
def isStrTy (C : Cfg) (t : TypeId) : Bool := match C.Ty t with | some .str => true | _ => false
def convB (C : Cfg) (L : Heap) (src dst : TypeId) : AV → A3
  | .v (.int k) x => (convA C src dst (.v (.int k) x)).map fun r => (r.1, r.2, L)
  | .v .str s => bif isStrTy C dst then (convA C src dst (.v .str s)).map fun r => (r.1, r.2, L) else (toBytesA C src dst s).map fun r => (r.1, r.2, L)
  | a => (liftA L (.slice (.int .u8)) a).bind fun xs => (toStrA C src dst xs).map fun r => (r.1, r.2, L)
section
variable {C : Cfg} {B : Nat} {m : Nat → Value} {L : Heap} {w : World} {S : Nat → Nat → Prop}
theorem grows_bytes (w : World) (e : TypeId) (s : ByteArray) : Grows w (Lib.bytesWorld w e s) := by
  have h1 := Lib.bytesWorld_size w e s
  refine ⟨?_, ?_, ?_, by omega, fun k hk => Lib.bytesWorld_at_old w e s k hk⟩
  all_goals
    unfold Lib.bytesWorld World.freeze
    split <;> rfl
theorem bytesI_len (s : ByteArray) : (bytesI s).length = s.size := by
  unfold bytesI
  rw [List.length_map, Array.length_toList]; rfl
theorem repL_ints {k : IntKind} : ∀ (l : List Int), RepL (RepC w S (.int k)) l (l.map (Value.int k))
  | [] => rfl
  | x :: l => ⟨[.int k x], l.map (Value.int k), rfl, rfl, repL_ints l⟩
theorem repL_ints_eq {k : IntKind} : ∀ {l : List Int} {cs : List Value}, RepL (RepC w S (.int k)) l cs → cs = l.map (Value.int k)
  | [], cs, h => h
  | x :: l, cs, h => by
    obtain ⟨c, d, rfl, h1, h2⟩ := h
    rw [repL_ints_eq h2]
    have : c = [.int k x] := h1
    rw [this]; rfl
theorem does_bytes (hC : C.OK) (hI : Inv B m L w S) {src dst : TypeId} {s : ByteArray} {av : AV} (hb : toBytesA C src dst s = some (true, av)) : Does C B (fun _ => false) m L w S (convert src dst (.string s)) av L := by
  unfold toBytesA at hb
  split at hb
  · rename_i te h1 h2 h3
    split at hb
    · rename_i h4
      cases hb
      have hs := und_str (hC.ty _ _ h1)
      have hd := elId_eq h3
      have he := und_int (hC.ty _ _ h4)
      have hrun := Lib.run_convert_string_bytes w src dst te s hs hd he
      have hg := grows_bytes w te s
      let S' : Nat → Nat → Prop := fun b o => S b o ∨ (b = w.heap.size ∧ o < s.size)
      have hsafe : Safe S S' w (Lib.bytesWorld w te s) := ⟨fun _ _ h => .inl h, fun b o h => hg.cell (hI.prot b o h).1⟩
      have hI' := hI.grows hg
      have hsz := Lib.bytesWorld_size w te s
      refine ⟨_, m, _, S', hrun, ⟨⟨hI'.base, ?_, ?_, hI'.obj, fun id T x h q => (hI'.lbx id T x h q).same ⟨fun _ _ h => .inl h, fun _ _ _ => rfl⟩ (Ext.refl _ _ _) fun _ _ => rfl, hI'.apart, ?_⟩, hsafe, hg.below hI.base, Ext.refl _ _ _, ?_⟩, ?_⟩
      · intro id T x ro hL
        obtain ⟨b, cs, el, fr, q1, q2, q3, q4, q5⟩ := hI.box id T x ro hL
        exact ⟨b, cs, el, fr, q1, q2, by rw [hg.block b (Array.getElem?_eq_some_iff.1 q3).1]; exact q3, q4, q5.safe hsafe⟩
      · intro id t e xs ro hL
        obtain ⟨cs, q1, q2⟩ := hI.row id t e xs ro hL
        exact ⟨cs, row_grows hg q1, RepL.mono (fun x c h => h.safe hsafe) q2⟩
      · intro b o hs'
        rcases hs' with hs' | ⟨rfl, ho⟩
        · exact hI'.prot b o hs'
        · refine ⟨by omega, fun i sl hL hl hbk => ?_⟩
          have := (hI.lt hL hl hbk).2
          omega
      · intro b o hs'
        rcases hs' with hs' | ⟨rfl, ho⟩
        · exact .inl hs'
        · exact .inr hI.base
      · rw [rep_v]
        refine ⟨[_], ⟨some ⟨w.heap.size, 0, none⟩, grownCap w s.size 0 te, ?_, ?_, ?_⟩, rfl⟩
        · rw [bytesI_len]
        · rw [bytesI_len]; exact grownCap_ge w s.size 0 te
        · refine .inr ⟨w.heap.size, 0, _, rfl, repL_ints (bytesI s), fun j hj => ?_⟩
          have hj' : j < s.size := by simpa [bytesI_len] using hj
          refine ⟨?_, .inr ⟨rfl, by omega⟩⟩
          rw [Nat.zero_add, Lib.bytesWorld_cell w te s j hj']
          have hj2 : j < s.data.size := hj'
          simp [bytesI, List.getD, hj2, Array.getElem?_eq_getElem hj2]
    · cases hb
  · cases hb
theorem does_str (hC : C.OK) (hI : Inv B m L w S) {src dst : TypeId} {a : AV} {u : Value} (hx : RepA m L w S a u) {xs : List Int} (hl : liftA L (.slice (.int .u8)) a = some xs) {av : AV} (hb : toStrA C src dst xs = some (true, av)) :
    (convert src dst u).run C.P w = .ok (.string (ofBytes xs)) w ∧ av = .v .str (ofBytes xs) := by
  unfold toStrA at hb
  split at hb
  · rename_i te h1 h2 h3
    split at hb
    · rename_i h4
      cases hb
      refine ⟨?_, rfl⟩
      obtain ⟨A, c, rfl, hr⟩ := src_rep hI hx hl
      rw [run_convert_bytes_string w src dst te A xs.length c (elId_eq h3) (und_int (hC.ty _ _ h4)) (und_str (hC.ty _ _ h2))]
      rcases hr with rfl | ⟨b, o, ds, rfl, h5, h6⟩
      · cases A with
        | none => rfl
        | some a0 => exact run_bytesToString w a0 0 c [] (by simp [loadCells, loadCellsFrom, Sem.run_pure])
      · rw [repL_ints_eq h5] at h6
        refine run_bytesToString w _ _ c xs ?_
        have := run_loadCells_list (P := C.P) (w := w) ⟨b, o, none⟩ (xs.map (Value.int .u8)) (fun j v hj => by
          obtain ⟨hlt, rfl⟩ := List.getElem?_eq_some_iff.1 hj
          rw [add_at]; exact h6 j hlt)
        simpa using this
    · cases hb
  · cases hb
theorem does_conv (hC : C.OK) (hI : Inv B m L w S) {src dst : TypeId} {a : AV} {u : Value} (hx : RepA m L w S a u) {av : AV} {L' : Heap} (hb : convB C L src dst a = some (true, av, L')) : L' = L ∧ Does C B (fun _ => false) m L w S (convert src dst u) av L := by
  have rd : (convA C src dst a).map (fun r => (r.1, r.2, L)) = some (true, av, L') → L' = L ∧ Does C B (fun _ => false) m L w S (convert src dst u) av L := by
    intro h
    obtain ⟨⟨c, a'⟩, h1, h2⟩ := Option.map_eq_some_iff.1 h
    simp only [Prod.mk.injEq] at h2
    obtain ⟨rfl, rfl, rfl⟩ := h2
    obtain ⟨u', r1, r2⟩ := gives_conv hC hx _ h1
    exact ⟨rfl, u', m, w, S, r1, ⟨hI, Safe.refl _ _, Below.refl _ _, Ext.refl _ _ _, fun _ _ h => .inl h⟩, r2⟩
  unfold convB at hb
  split at hb
  · exact rd hb
  · cases hs : isStrTy C dst with
    | true => rw [hs] at hb; exact rd hb
    | false =>
      rw [hs] at hb
      obtain ⟨⟨c, a'⟩, h1, h2⟩ := Option.map_eq_some_iff.1 hb
      simp only [Prod.mk.injEq] at h2
      obtain ⟨rfl, rfl, rfl⟩ := h2
      rw [rep_str] at hx
      subst hx
      exact ⟨rfl, does_bytes hC hI h1⟩
  · obtain ⟨xs, hl, hb⟩ := Option.bind_eq_some_iff.1 hb
    obtain ⟨⟨c, a'⟩, h1, h2⟩ := Option.map_eq_some_iff.1 hb
    simp only [Prod.mk.injEq] at h2
    obtain ⟨rfl, rfl, rfl⟩ := h2
    obtain ⟨r1, rfl⟩ := does_str hC hI hx hl h1
    exact ⟨rfl, _, m, w, S, r1, ⟨hI, Safe.refl _ _, Below.refl _ _, Ext.refl _ _ _, fun _ _ h => .inl h⟩, rep_str.2 rfl⟩
theorem convB_L {src dst : TypeId} {a av : AV} {c : Bool} {L' : Heap} (hb : convB C L src dst a = some (c, av, L')) : L' = L := by
  have fin : ∀ {o : R}, o.map (fun r => (r.1, r.2, L)) = some (c, av, L') → L' = L := by
    intro o h
    obtain ⟨r, _, h2⟩ := Option.map_eq_some_iff.1 h
    simp only [Prod.mk.injEq] at h2
    exact h2.2.2.symm
  unfold convB at hb
  split at hb
  · exact fin hb
  · cases hs : isStrTy C dst with
    | true => rw [hs] at hb; exact fin hb
    | false => rw [hs] at hb; exact fin hb
  · obtain ⟨xs, _, hb⟩ := Option.bind_eq_some_iff.1 hb
    exact fin hb
theorem convA_v {src dst : TypeId} {a av : AV} {c : Bool} (h : convA C src dst a = some (c, av)) : ∃ τ x, av = .v τ x := by
  unfold convA at h
  split at h
  · split at h
    · cases h; exact ⟨_, _, rfl⟩
    · cases h; exact ⟨_, _, rfl⟩
    · cases h
  · split at h
    · cases h; exact ⟨_, _, rfl⟩
    · cases h
  · cases h
theorem toStrA_v {src dst : TypeId} {xs : List Int} {r : Bool × AV} (h : toStrA C src dst xs = some r) : ∃ τ x, r.2 = .v τ x := by
  unfold toStrA at h
  split at h
  · split at h
    · cases h; exact ⟨_, _, rfl⟩
    · cases h
  · cases h
theorem convB_v {src dst : TypeId} {σ : ETy} {y : σ.I} {av : AV} {c : Bool} {L' : Heap} (hb : convB C L src dst (.v σ y) = some (c, av, L')) : (∃ τ x, av = .v τ x) ∧ ∀ L2, convB C L2 src dst (.v σ y) = some (c, av, L2) := by
  have fin : ∀ {o : R}, (∀ r, o = some r → ∃ τ x, r.2 = .v τ x) → o.map (fun r => (r.1, r.2, L)) = some (c, av, L') → (∃ τ x, av = .v τ x) ∧ ∀ L2 : Heap, o.map (fun r => (r.1, r.2, L2)) = some (c, av, L2) := by
    intro o ho h
    obtain ⟨r, h1, h2⟩ := Option.map_eq_some_iff.1 h
    simp only [Prod.mk.injEq] at h2
    obtain ⟨rfl, rfl, _⟩ := h2
    subst h1
    exact ⟨ho r rfl, fun _ => rfl⟩
  unfold convB at hb ⊢
  split at hb
  · exact fin (fun r hr => convA_v hr) hb
  · cases hs : isStrTy C dst with
    | true => rw [hs] at hb; exact fin (fun r hr => convA_v hr) hb
    | false =>
      rw [hs] at hb
      refine fin (fun r hr => ?_) hb
      unfold toBytesA at hr
      split at hr
      · split at hr
        · cases hr; exact ⟨_, _, rfl⟩
        · cases hr
      · cases hr
  · obtain ⟨xs, h1, hb⟩ := Option.bind_eq_some_iff.1 hb
    have h1' : ∀ L2, liftA L2 (.slice (.int .u8)) (.v σ y) = some xs := fun L2 => h1
    simp only [h1', Option.bind_some]
    refine fin (fun r hr => ?_) hb
    unfold toStrA at hr
    split at hr
    · split at hr
      · cases hr; exact ⟨_, _, rfl⟩
      · cases hr
    · cases hr
end
end
section
set_option linter.unusedVariables false
set_option linter.unusedSimpArgs false
set_option maxHeartbeats 400000
def act (C : Cfg) (ρ : Operand → AV) (L : Heap) (id : Nat) (ty : TypeId) : Op → A3
  | .alloc t => allocA C L id t
  | .box t x => boxA C L id t (ρ x)
  | .build t parts => buildA C L t (parts.toList.map fun (i, x) => (i, ρ x))
  | .buildSlice t len parts => buildSliceA C L id t len (parts.toList.map fun (i, x) => (i, ρ x))
  | .store t p x => storeA C L t (ρ p) (ρ x)
  | .move (.const (.slice none 0 0)) => nilRowA C L id ty
  | .assign (.const (.slice none 0 0)) => nilRowA C L id ty
  | .call ⟨.builtin .append, args, ts⟩ => match args.toList, ts.toList with
    | [s, x], [t, t'] => if t = t' then appendA C L id t (ρ s) (ρ x) else none
    | _, _ => none
  | .convert s d x => convB C L s d (ρ x)
  | .makeSlice t l c => makeA C L id t (ρ l) (ρ c)
  | _ => none
def rowsOf (ρ : Operand → AV) : Op → Nat → Bool
  | .call ⟨.builtin .append, args, ts⟩ => match args.toList with
    | [s, _] => rowOf (ρ s)
    | _ => fun _ => false
  | _ => fun _ => false
def wantsId : Op → Bool
  | .alloc _ => true
  | .box _ _ => true
  | .buildSlice _ _ _ => true
  | .move (.const (.slice none 0 0)) => true
  | .assign (.const (.slice none 0 0)) => true
  | .call ⟨.builtin .append, _, _⟩ => true
  | .makeSlice _ _ _ => true
  | _ => false
theorem rep_get {c : List Value} {k : Nat} (hk : c.length = k) : ∀ (n t : Nat), t < n * k → (List.replicate n c).flatten[t]? = c[t % k]?
  | 0, t, h => by simp at h
  | n + 1, t, h => by
    rw [List.replicate_succ, List.flatten_cons]
    rcases Nat.lt_or_ge t k with ht | ht
    · rw [List.getElem?_append_left (by rw [hk]; exact ht), Nat.mod_eq_of_lt ht]
    · rw [List.getElem?_append_right (by rw [hk]; exact ht), hk, rep_get hk n (t - k) (by rw [Nat.succ_mul] at h; omega), Nat.mod_eq_sub_mod ht]
theorem made_eq {c : List Value} {k : Nat} (hk : c.length = k) (n : Nat) : (madeCells c.toArray (n * k)).toList = (List.replicate n c).flatten := by
  apply List.ext_getElem?
  intro t
  rcases Nat.lt_or_ge t (n * k) with h | h
  · have k0 : 0 < k := by
      rcases Nat.eq_zero_or_pos k with e | e
      · subst e; simp at h
      · exact e
    rw [rep_get hk n t h]
    have hm : t % k < c.length := by rw [hk]; exact Nat.mod_lt _ k0
    simp only [madeCells, Array.toList_map, List.getElem?_map, Array.getElem?_toList]
    rw [Array.getElem?_eq_getElem (by simpa using h)]
    simp only [Array.getElem_range, Option.map_some, List.size_toArray, hk]
    rw [List.getElem?_eq_getElem hm, getElem!_pos _ _ (by simpa using hm)]
    simp
  · rw [Array.getElem?_toList, Array.getElem?_eq_none (by rw [size_madeCells]; exact h), List.getElem?_eq_none]
    simp [hk]; exact h
section
variable {C : Cfg} {B : Nat} {m : Nat → Value} {L : Heap} {w w' : World} {S S' : Nat → Nat → Prop}
theorem make_fits {b : Nat} (hb : b ≤ 65536) (k : Int) (h0 : 0 ≤ k) (h : k ≤ 2147483648) : (b : Int) * k ≤ 281474976710656 ∧ k ≤ 9223372036854775807 ∧ k.toNat ≤ maxLen := by
  obtain ⟨n, rfl⟩ := Int.eq_ofNat_of_zero_le h0
  have h2 : n ≤ 2147483648 := by omega
  have := Nat.mul_le_mul hb h2
  have hm : maxLen = 2 ^ 63 - 1 := rfl
  refine ⟨?_, by omega, by simp only [Int.toNat_natCast]; omega⟩
  have : ((b * n : Nat) : Int) ≤ 281474976710656 := by omega
  rwa [Int.natCast_mul] at this
theorem does_make (hC : C.OK) (hI : Inv B m L w S) {t : TypeId} {id : Nat} (hid : L[id]? = some .resv) {l c : AV} {ul uc : Value} (hl : RepA m L w S l ul) (hc : RepA m L w S c uc) {av : AV} {L' : Heap} (hb : makeA C L id t l c = some (true, av, L')) :
    Does C B (fun _ => false) m L w S (Instr.makeSlice t ul uc) av L' := by
  unfold makeA at hb
  split at hb
  · rename_i e te hty hte
    split at hb
    · rename_i hok
      simp only [Bool.and_eq_true, decide_eq_true_eq, Bool.not_eq_true', beq_eq_false_iff_ne, ne_eq] at hok
      split at hb
      · rename_i k1 n k2 k
        simp only [Option.some.injEq, Prod.mk.injEq, Bool.and_eq_true, decide_eq_true_eq] at hb
        obtain ⟨⟨⟨hnk, h0⟩, hmx⟩, rfl, rfl⟩ := hb
        rw [rep_int] at hl hc
        subst hl hc
        have hnk : k = n := hnk.symm
        subst hnk
        have hu := elId_eq hte
        obtain ⟨te', inf, hu', hinf, hsz, hby, _⟩ := und_slice (hC.ty _ _ hty)
        rw [hu] at hu'; cases hu'
        obtain ⟨inf', hinf', _, hzero⟩ := (hC.ty _ _ hok.1).size
        rw [hinf] at hinf'; cases hinf'
        have hcell : (valOf e (zc e)).cells = (zc e).toArray := cells_valOf (repC_zero (w := w) (S := S) e)
        obtain ⟨f1, f2, f3⟩ := make_fits hby k h0 hmx
        have hr := run_make (P := C.P) w t te inf _ hu hinf hzero k1 k2 k k h0 (Int.le_refl _) f1 f2
        rw [hcell, hsz] at hr
        have hme := made_eq (zc_length e) (Int.toNat k)
        have ho := World.ownsRow_lit (base := w.heap.size) (e := te) (size := e.size) w (madeCells (zc e).toArray (Int.toNat k * e.size)) (Int.toNat k) (Nat.le_refl _) f3 (size_madeCells _ _)
        have hg : Grows w (w.alloc (.cells (madeCells (zc e).toArray (Int.toNat k * e.size)) te)) := Grows.alloc w _
        have ho' : (w.alloc (.cells (madeCells (zc e).toArray (Int.toNat k * e.size)) te)).ownsRow B te e.size (.slice (some ⟨w.heap.size, 0, none⟩) (Int.toNat k) (Int.toNat k)) (Int.toNat k) (List.replicate (Int.toNat k) (zc e)).flatten := by
          rw [← hme]
          refine ⟨ho.1, ho.2.imp (fun h => h) ?_⟩
          rintro ⟨g, cap, cur, hv, hB, r⟩
          exact ⟨g, cap, cur, hv, Nat.le_trans hI.base hB, r⟩
        have go := Goes.fresh (s := .row te e (List.replicate (Int.toNat k) e.z) false) (v := .slice (some ⟨w.heap.size, 0, none⟩) (Int.toNat k) (Int.toNat k)) hI hg hid (by
            intro b hb; cases hb; exact Nat.le_refl _) (by intro T y ro h; cases h) (by
            intro t' e' ys ro h
            cases h
            refine ⟨(List.replicate (Int.toNat k) (zc e)).flatten, ?_, RepL.replicate (repC_zero e) _⟩
            rw [List.length_replicate]
            exact ho') (fun _ => false)
        refine ⟨_, _, _, S, hr, go, ?_⟩
        simp only [RepA]
        refine ⟨_, by rw [get_set ⟨_, hid⟩, if_pos rfl], by simp, fun t e xs ro e' => ?_⟩
        exact (upd_same _ _ _).symm
      · cases hb
    · cases hb
  · cases hb
end
def makeV (C : Cfg) (t : TypeId) (l c : AV) : R :=
  match C.Ty t, elId C t with
  | some (.slice e), some te => if decide (C.Ty te = some e) && !(e.size == 0) then
      match l, c with
      | .v (.int _) n, .v (.int _) k => some (decide ((n : Int) = k) && decide ((0 : Int) ≤ n) && decide (n ≤ (2147483648 : Int)), .v (.slice e) (List.replicate (Int.toNat n) e.z))
      | _, _ => none
    else none
  | _, _ => none
def makeD (C : Cfg) (ρ : Operand → AV) : Op → R
  | .makeSlice t l c => makeV C t (ρ l) (ρ c)
  | _ => none
section
variable {C : Cfg} {B : Nat} {m : Nat → Value} {L : Heap} {w w' : World} {S S' : Nat → Nat → Prop}
theorem does_makeV (hC : C.OK) (hI : Inv B m L w S) {t : TypeId} {l c : AV} {ul uc : Value} (hl : RepA m L w S l ul) (hc : RepA m L w S c uc) {av : AV} (hb : makeV C t l c = some (true, av)) :
    Does C B (fun _ => false) m L w S (Instr.makeSlice t ul uc) av L := by
  unfold makeV at hb
  split at hb
  · rename_i e te hty hte
    split at hb
    · rename_i hok
      simp only [Bool.and_eq_true, decide_eq_true_eq, Bool.not_eq_true', beq_eq_false_iff_ne, ne_eq] at hok
      split at hb
      · rename_i k1 n k2 k
        simp only [Option.some.injEq, Prod.mk.injEq, Bool.and_eq_true, decide_eq_true_eq] at hb
        obtain ⟨⟨⟨hnk, h0⟩, hmx⟩, rfl⟩ := hb
        rw [rep_int] at hl hc
        subst hl hc
        have hnk : k = n := hnk.symm
        subst hnk
        have hu := elId_eq hte
        obtain ⟨te', inf, hu', hinf, hsz, hby, _⟩ := und_slice (hC.ty _ _ hty)
        rw [hu] at hu'; cases hu'
        obtain ⟨inf', hinf', _, hzero⟩ := (hC.ty _ _ hok.1).size
        rw [hinf] at hinf'; cases hinf'
        have hcell : (valOf e (zc e)).cells = (zc e).toArray := cells_valOf (repC_zero (w := w) (S := S) e)
        obtain ⟨f1, f2, f3⟩ := make_fits hby k h0 hmx
        have hr := run_make (P := C.P) w t te inf _ hu hinf hzero k1 k2 k k h0 (Int.le_refl _) f1 f2
        rw [hcell, hsz] at hr
        have hme := made_eq (zc_length e) (Int.toNat k)
        obtain ⟨wn, hwn⟩ : ∃ wn, wn = w.alloc (.cells (madeCells (zc e).toArray (Int.toNat k * e.size)) te) := ⟨_, rfl⟩
        rw [← hwn] at hr
        have hg : Grows w wn := hwn ▸ Grows.alloc w _
        let S' : Nat → Nat → Prop := fun b o => S b o ∨ (b = w.heap.size ∧ o < Int.toNat k * e.size)
        have hsafe : Safe S S' w wn := ⟨fun _ _ h => .inl h, fun b o h => hg.cell (hI.prot b o h).1⟩
        have hI' := hI.grows hg
        have hsz' : wn.heap.size = w.heap.size + 1 := by rw [hwn]; exact Array.size_push ..
        have ho := World.ownsRow_lit (base := w.heap.size) (e := te) (size := e.size) w (madeCells (zc e).toArray (Int.toNat k * e.size)) (Int.toNat k) (Nat.le_refl _) f3 (size_madeCells _ _)
        rw [← hwn, hme] at ho
        refine ⟨_, m, wn, S', hr, ⟨⟨hI'.base, ?_, ?_, hI'.obj, fun id T x h q => (hI'.lbx id T x h q).same ⟨fun _ _ h => .inl h, fun _ _ _ => rfl⟩ (Ext.refl _ _ _) fun _ _ => rfl, hI'.apart, ?_⟩, hsafe, hg.below hI.base, Ext.refl _ _ _, ?_⟩, ?_⟩
        · intro id T x ro hL
          obtain ⟨b, cs, el, fr, q1, q2, q3, q4, q5⟩ := hI.box id T x ro hL
          exact ⟨b, cs, el, fr, q1, q2, by rw [hg.block b (Array.getElem?_eq_some_iff.1 q3).1]; exact q3, q4, q5.safe hsafe⟩
        · intro id t e xs ro hL
          obtain ⟨cs, q1, q2⟩ := hI.row id t e xs ro hL
          exact ⟨cs, row_grows hg q1, RepL.mono (fun x c h => h.safe hsafe) q2⟩
        · intro b o hs'
          rcases hs' with hs' | ⟨rfl, ho⟩
          · exact hI'.prot b o hs'
          · refine ⟨by omega, fun i sl hL hl hbk => ?_⟩
            have := (hI.lt hL hl hbk).2
            omega
        · intro b o hs'
          rcases hs' with hs' | ⟨rfl, ho⟩
          · exact .inl hs'
          · exact .inr hI.base
        · rw [rep_v]
          have hlen : (List.replicate (Int.toNat k) e.z).length = Int.toNat k := List.length_replicate
          have hrl : RepL (RepC wn S' e) (List.replicate (Int.toNat k) e.z) (List.replicate (Int.toNat k) (zc e)).flatten := RepL.replicate (repC_zero e) _
          refine ⟨[_], ⟨some ⟨w.heap.size, 0, none⟩, Int.toNat k, ?_, ?_, ?_⟩, rfl⟩
          · rw [hlen]
          · rw [hlen]; exact Nat.le_refl _
          · refine .inr ⟨w.heap.size, 0, _, rfl, hrl, fun j hj => ?_⟩
            have hj' : j < Int.toNat k * e.size := by
              rw [← hme] at hj
              simpa [size_madeCells] using hj
            refine ⟨?_, .inr ⟨rfl, by omega⟩⟩
            rw [Nat.zero_add, ho.cellAt j hj']
            exact List.getElem?_eq_getElem hj
      · cases hb
    · cases hb
  · cases hb
theorem makeD_does (hC : C.OK) (hI : Inv B m L w S) {ρ : Operand → AV} {a : Act} (h : ∀ x, RepA m L w S (ρ x) (a.eval x)) {o : Oper} {av : AV} (hr : makeD C ρ o.op = some (true, av)) :
    ∃ s : Sem Value, execOp a.eval o = (do pure (.value (← s))) ∧ Does C B (fun _ => false) m L w S s av L := by
  unfold makeD at hr
  split at hr
  · rename_i t l c ho
    exact ⟨Instr.makeSlice t (a.eval l) (a.eval c), by unfold execOp; rw [ho], does_makeV hC hI (h l) (h c) hr⟩
  · cases hr
end
section
variable {C : Cfg} {B : Nat} {m : Nat → Value} {L : Heap} {w w' : World} {S S' : Nat → Nat → Prop}
def OpDoes (C : Cfg) (B : Nat) (X : Nat → Bool) (m : Nat → Value) (L : Heap) (w : World) (S : Nat → Nat → Prop) (a : Act) (o : Oper) (av : AV) (L' : Heap) : Prop :=
  ∀ (next : Act → World → Prop) (Q : Exit → Act → World → Prop), (∀ u m' w' S', Goes B X m L w S m' L' w' S' → RepA m' L' w' S' av u → next (a.put o.dst u) w') → o.wp C.P a w next Q
theorem opDoes_of {X : Nat → Bool} {a : Act} {o : Oper} {av : AV} {L' : Heap} {s : Sem Value} (hs : execOp a.eval o = (do pure (.value (← s)))) (h : Does C B X m L w S s av L') : OpDoes C B X m L w S a o av L' := by
  intro next Q hn
  obtain ⟨u, m', w', S', h1, h2, h3⟩ := h
  unfold Oper.wp
  rw [hs]
  simp only [Sem.run_bind, h1, Result.andThen_ok, Sem.run_pure, Oper.upon]
  exact hn u m' w' S' h2 h3
theorem opDoes_rop (hC : C.OK) (hI : Inv B m L w S) {ρ : Operand → AV} {a : Act} (h : ∀ x, RepA m L w S (ρ x) (a.eval x)) {o : Oper} {av : AV} (hr : rop C ρ L o.op = some (true, av)) (X : Nat → Bool) : OpDoes C B X m L w S a o av L := by
  intro next Q hn
  obtain ⟨u, h1, h2⟩ := rop_gives hC hI h o av hr
  unfold Oper.wp
  rw [h1]
  exact hn u m w S ⟨hI, Safe.refl _ _, Below.refl _ _, Ext.refl _ _ _, fun _ _ h => .inl h⟩ h2
theorem opDoes_act (hC : C.OK) (hI : Inv B m L w S) {ρ : Operand → AV} {a : Act} (hρ : ∀ c, ρ (.const c) = constA c) (h : ∀ x, RepA m L w S (ρ x) (a.eval x)) {o : Oper} {id : Nat} (hid : wantsId o.op = true → L[id]? = some .resv) {av : AV} {L' : Heap}
    (ha : act C ρ L id o.type o.op = some (true, av, L')) : OpDoes C B (rowsOf ρ o.op) m L w S a o av L' := by
  unfold act at ha
  split at ha <;> rename_i ho
  · rename_i t
    refine opDoes_of (by unfold execOp; rw [ho]) ?_
    rw [ho] at hid ⊢
    exact does_alloc hC hI (hid rfl) ha
  · rename_i t x
    refine opDoes_of (s := Instr.box t (a.eval x)) (by unfold execOp; rw [ho]) ?_
    rw [ho] at hid ⊢
    exact does_box hC hI (h x) (hid rfl) ha
  · rename_i t parts
    refine opDoes_of (s := Instr.build t (parts.map fun (i, x) => (i, a.eval x))) (by unfold execOp; rw [ho]) ?_
    rw [ho]
    exact does_build hC hI h ha
  · rename_i t len parts
    refine opDoes_of (s := Instr.buildSlice t len (parts.map fun (i, x) => (i, a.eval x))) (by unfold execOp; rw [ho]) ?_
    rw [ho] at hid ⊢
    exact does_buildSlice hC hI h (hid rfl) ha
  · rename_i t p x
    obtain ⟨m', w', S', h1, h2, rfl⟩ := does_store hC hI (h p) (h x) ha
    intro next Q hn
    unfold Oper.wp execOp
    rw [ho] at hn ⊢
    simp only [Sem.run_bind, h1, Result.andThen_ok, Sem.run_pure, Oper.upon]
    exact hn undef m' w' S' h2 (by simp only [RepA])
  · obtain ⟨m', h1, h2⟩ := does_nilRow hC hI (by rw [ho] at hid; exact hid rfl) ha
    intro next Q hn
    unfold Oper.wp execOp
    rw [ho] at hn ⊢
    exact hn _ m' w S h1 h2
  · obtain ⟨m', h1, h2⟩ := does_nilRow hC hI (by rw [ho] at hid; exact hid rfl) ha
    intro next Q hn
    unfold Oper.wp execOp
    rw [ho] at hn ⊢
    exact hn _ m' w S h1 h2
  · rename_i args ts
    split at ha
    · rename_i s x t t' e1 e2
      split at ha
      · rename_i htt
        subst htt
        have hargs : args = #[s, x] := by rw [← Array.toArray_toList (xs := args), e1]
        have hts : ts = #[t, t] := by rw [← Array.toArray_toList (xs := ts), e2]
        subst hargs; subst hts
        have hd := does_append (ty := o.type) hC hI (by rw [ho] at hid; exact hid rfl) (h s) (h x) ha
        intro next Q hn
        obtain ⟨u, m', w', S', h1, h2, h3⟩ := hd
        unfold Oper.wp execOp
        rw [ho] at hn ⊢
        simp only [resolve, Sem.run_bind, Sem.run_pure, Result.andThen_ok, invoke, builtin, List.map_toArray, List.map_cons, List.map_nil, h1, Oper.upon]
        exact hn u m' w' S' h2 h3
      · cases ha
    · cases ha
  · rename_i s d x
    obtain ⟨rfl, h1⟩ := does_conv hC hI (h x) ha
    refine opDoes_of (s := convert s d (a.eval x)) (by unfold execOp; rw [ho]) ?_
    rw [ho]
    exact h1
  · rename_i t l c
    refine opDoes_of (s := Instr.makeSlice t (a.eval l) (a.eval c)) (by unfold execOp; rw [ho]) ?_
    rw [ho] at hid ⊢
    exact does_make hC hI (hid rfl) (h l) (h c) ha
  · cases ha
end
end
end Go.Proofs.YtlcomipbinfooaaGreatDoor.K

/- Operations that only read: what they give, and that the model's own give the same. -/
import Derived.Test.YtmphlhnpichonaaDoorK4
import Derived.Lib.Strings
set_option linter.unusedVariables false
set_option linter.unusedSimpArgs false
namespace Go.Proofs.YtmphlhnpichonaaDoor.K
open Go Go.RowKit

structure Cfg where
  P : Program
  Ty : TypeId → Option ETy
  G : Nat → Option Dat

structure Cfg.OK (C : Cfg) : Prop where
  ty : ∀ t τ, C.Ty t = some τ → GoodTy C.P t τ
  mixed : C.P.follows .mixedOrders = true

/-- The package's variables read as laid, are protected, and lie below B. -/
def GlobOK (C : Cfg) (B : Nat) (w : World) (S : Nat → Nat → Prop) : Prop :=
  ∀ g d, C.G g = some d → g < B ∧ ∃ cs el fr, w.heap[g]? = some (.cells cs.toArray el fr) ∧ RepC w S d.τ d.x cs ∧ ∀ j, j < cs.length → S g j

theorem GlobOK.go {C : Cfg} {B : Nat} {w w' : World} {S S' : Nat → Nat → Prop} (h : GlobOK C B w S) (hs : Safe S S' w w') (hb : Below B w w') : GlobOK C B w' S' := by
  intro g d hg
  obtain ⟨h0, cs, el, fr, h1, h2, h3⟩ := h g d hg
  exact ⟨h0, cs, el, fr, (hb.block g h0).trans h1, h2.safe hs, fun j hj => hs.sub _ _ (h3 j hj)⟩

theorem GlobOK.mono {C : Cfg} {B B' : Nat} {w : World} {S : Nat → Nat → Prop} (h : GlobOK C B w S) (hB : B ≤ B') : GlobOK C B' w S := fun g d hg =>
  ⟨Nat.lt_of_lt_of_le (h g d hg).1 hB, (h g d hg).2⟩

theorem GlobOK.cells {C : Cfg} {B : Nat} {w : World} {S : Nat → Nat → Prop} (h : GlobOK C B w S) {g : Nat} {d : Dat} (hg : C.G g = some d) : ∃ cs, RepC w S d.τ d.x cs ∧ ∀ j (h : j < cs.length), w.cell? ⟨g, j, none⟩ = some cs[j] ∧ S g j := by
  obtain ⟨_, cs, el, fr, h1, h2, h3⟩ := h g d hg
  refine ⟨cs, h2, fun j hj => ⟨?_, h3 j hj⟩⟩
  unfold World.cell?
  simp only [h1]
  simp [hj]

def constA : Value → AV
  | .int k n => .v (.int k) n
  | .bool b => .v .bool b
  | .string s => .v .str s
  | .nilIface => .v (.raw .iface) .nilIface
  | c => .cst c

def evA (C : Cfg) (env : List AV) : Operand → AV
  | .tmp t => env.getD t .dead
  | .const c => constA c
  | .global g => match C.G g with | some d => .vp d.τ d.x [] | none => .dead
  | .func f => .fn f []

abbrev R := Option (Bool × AV)
def ok1 (a : AV) : R := some (true, a)

def bAt (s : ByteArray) (i : Nat) : Int := ((s.data.toList.getD i 0).toNat : Int)

/-- The bounds of what may be made: far below what the model bears. -/
def catMax : Nat := 1152921504606846976

def pickA (c : Bool) : AV → AV → AV
  | .v .bool x, .v .bool y => .v .bool (bif c then x else y)
  | .v (.int k) x, .v (.int k') y => if k = k' then .v (.int k) (bif c then (x : Int) else y) else bif c then .v (.int k) x else .v (.int k') y
  | .v .str x, .v .str y => .v .str (bif c then (x : ByteArray) else y)
  | a, b => bif c then a else b

def intOp (op : BinOp) (k : IntKind) (x y : Int) : R :=
  match op with
  | .add => ok1 (.v (.int k) (k.wrap (x + y)))
  | .sub => ok1 (.v (.int k) (k.wrap (x - y)))
  | .mul => ok1 (.v (.int k) (k.wrap (x * y)))
  | .quo => some (!(y == 0), .v (.int k) (k.wrap (x.tdiv y)))
  | .rem => some (!(y == 0), .v (.int k) (x.tmod y))
  | .and => ok1 (.v (.int k) (k.wrap (BitVec.ofInt k.bits x &&& BitVec.ofInt k.bits y).toNat))
  | .or => ok1 (.v (.int k) (k.wrap (BitVec.ofInt k.bits x ||| BitVec.ofInt k.bits y).toNat))
  | .xor => ok1 (.v (.int k) (k.wrap (BitVec.ofInt k.bits x ^^^ BitVec.ofInt k.bits y).toNat))
  | .andNot => ok1 (.v (.int k) (k.wrap (BitVec.ofInt k.bits x &&& ~~~BitVec.ofInt k.bits y).toNat))
  | .eql => ok1 (.v .bool (x == y))
  | .neq => ok1 (.v .bool (x != y))
  | .lss => ok1 (.v .bool (decide (x < y)))
  | .leq => ok1 (.v .bool (decide (x ≤ y)))
  | .gtr => ok1 (.v .bool (decide (x > y)))
  | .geq => ok1 (.v .bool (decide (x ≥ y)))
  | _ => none

def strOp (op : BinOp) (x y : ByteArray) : R :=
  match op with
  | .add => some (decide (x.size + y.size ≤ catMax), .v .str (x ++ y))
  | .eql => ok1 (.v .bool (x.data.toList == y.data.toList))
  | .neq => ok1 (.v .bool (!(x.data.toList == y.data.toList)))
  | .lss => ok1 (.v .bool (Op.bytesLess x.data.toList y.data.toList))
  | .leq => ok1 (.v .bool (Op.bytesLess x.data.toList y.data.toList || x.data.toList == y.data.toList))
  | .gtr => ok1 (.v .bool (!(Op.bytesLess x.data.toList y.data.toList || x.data.toList == y.data.toList)))
  | .geq => ok1 (.v .bool (!Op.bytesLess x.data.toList y.data.toList))
  | _ => none

def eqOp (C : Cfg) (op : BinOp) (t : TypeId) (τ : ETy) (x y : τ.I) : R :=
  if eqOK C.P τ t && !C.P.eqGuardType C.P.depth t && decide (τ.deep ≤ 10000) then
    match op with
    | .eql => ok1 (.v .bool (eqI τ x y))
    | .neq => ok1 (.v .bool (!eqI τ x y))
    | _ => none
  else none

def castA (τ σ : ETy) (y : σ.I) : Option τ.I := castI σ τ y

def isShift : BinOp → Bool
  | .shl | .shr => true
  | _ => false

def binA (C : Cfg) (op : BinOp) (t : TypeId) : AV → AV → R
  | .v (.int k) x, .v (.int k') y =>
    match op with
    | .shl => some (decide ((0 : Int) ≤ y), .v (.int k) (k.wrap ((x : Int) * 2 ^ (min (Int.toNat y) k.bits))))
    | .shr => some (decide ((0 : Int) ≤ y), .v (.int k) (Int.fdiv x (2 ^ (min (Int.toNat y) k.bits))))
    | _ => if k = k' then intOp op k x y else none
  | .v .bool x, .v .bool y => eqOp C op t .bool x y
  | .v .str x, .v .str y => strOp op x y
  | .v (.pair a b) x, .v τ y => (castI τ (.pair a b) y).bind fun y => eqOp C op t (.pair a b) x y
  | .v (.arr n e) x, .v τ y => (castI τ (.arr n e) y).bind fun y => eqOp C op t (.arr n e) x y
  | _, _ => none

def unA (op : UnOp) : AV → R
  | .v (.int k) x => match op with
    | .neg => ok1 (.v (.int k) (k.wrap (0 - (x : Int))))
    | .xor => ok1 (.v (.int k) (k.wrap (BitVec.ofInt k.bits (if k.signed then -1 else k.max) ^^^ BitVec.ofInt k.bits x).toNat))
    | _ => none
  | .v .bool b => match op with | .not => ok1 (.v .bool (!b)) | _ => none
  | _ => none

def convA (C : Cfg) (src dst : TypeId) : AV → R
  | .v (.int _) x => match C.Ty src, C.Ty dst with
    | some (.int _), some (.int k) => ok1 (.v (.int k) (k.wrap x))
    | _, _ => none
  | .v .str x => match C.Ty src, C.Ty dst with
    | some .str, some .str => ok1 (.v .str x)
    | _, _ => none
  | _ => none

section
variable {C : Cfg} {m : Nat → Value} {L : Heap} {w : World} {S : Nat → Nat → Prop}

theorem rep_v {τ : ETy} {x : τ.I} {u : Value} : RepA m L w S (.v τ x) u = RepV w S τ x u := by simp only [RepA]

theorem rep_int {k : IntKind} {x : Int} {u : Value} : RepA m L w S (.v (.int k) x) u ↔ u = .int k x := by
  rw [rep_v]
  constructor
  · rintro ⟨cs, h, rfl⟩; simp only [RepC] at h; subst h; rfl
  · rintro rfl; exact ⟨[.int k x], rfl, rfl⟩
theorem rep_bool {x : Bool} {u : Value} : RepA m L w S (.v .bool x) u ↔ u = .bool x := by
  rw [rep_v]
  constructor
  · rintro ⟨cs, h, rfl⟩; simp only [RepC] at h; subst h; rfl
  · rintro rfl; exact ⟨[.bool x], rfl, rfl⟩
theorem rep_str {x : ByteArray} {u : Value} : RepA m L w S (.v .str x) u ↔ u = .string x := by
  rw [rep_v]
  constructor
  · rintro ⟨cs, h, rfl⟩; simp only [RepC] at h; subst h; rfl
  · rintro rfl; exact ⟨[.string x], rfl, rfl⟩

theorem rep_const (c : Value) : RepA m L w S (constA c) c := by
  cases c <;> first | exact rep_int.2 rfl | exact rep_bool.2 rfl | exact rep_str.2 rfl | (show RepA m L w S (.v (.raw .iface) .nilIface) .nilIface; rw [rep_v]; exact ⟨[.nilIface], ⟨rfl, rfl⟩, rfl⟩) | (simp only [constA, RepA])

/-- The temporaries are as the list says. -/
structure RepE (m : Nat → Value) (L : Heap) (w : World) (S : Nat → Nat → Prop) (env : List AV) (tmps : Array Value) : Prop where
  size : env.length = tmps.size
  at_ : ∀ t, RepA m L w S (env.getD t .dead) (tmps.getD t undef)

theorem RepE.put {env : List AV} {a : Act} (h : RepE m L w S env a.tmps) {av : AV} {u : Value} (hu : RepA m L w S av u) (d : Nat) :
    RepE m L w S (env.set d av) (a.put (some d) u).tmps := by
  refine ⟨by simp [Act.put, h.size], fun t => ?_⟩
  have := h.at_ t
  by_cases hd : t = d
  · subst hd
    by_cases hl : t < env.length
    · have hl' : t < a.tmps.size := by rw [← h.size]; exact hl
      simp only [Act.put, List.getD_eq_getElem?_getD, List.getElem?_set_self hl, Option.getD_some]
      simp only [Array.getD, Array.size_setIfInBounds, hl', dif_pos, Array.getInternal_eq_getElem, Array.getElem_setIfInBounds_self]
      exact hu
    · have hl' : ¬ t < a.tmps.size := by rw [← h.size]; exact hl
      simp only [Act.put, List.getD_eq_getElem?_getD]
      rw [List.getElem?_eq_none (by simp; omega)]
      simp only [Option.getD_none, RepA]
  · simp only [Act.put, List.getD_eq_getElem?_getD, List.getElem?_set_ne (Ne.symm hd)]
    rw [← List.getD_eq_getElem?_getD]
    have e : (a.tmps.setIfInBounds d u).getD t undef = a.tmps.getD t undef := by
      simp only [Array.getD_eq_getD_getElem?, Array.getElem?_setIfInBounds_ne (Ne.symm hd)]
    rw [e]; exact this

theorem RepE.eval {B : Nat} {env : List AV} {a : Act} (hG : GlobOK C B w S) (h : RepE m L w S env a.tmps) (x : Operand) : RepA m L w S (evA C env x) (a.eval x) := by
  cases x with
  | tmp t => exact h.at_ t
  | const c => exact rep_const c
  | global g =>
    simp only [evA, Act.eval]
    cases hg : C.G g with
    | none => simp only [RepA]
    | some d =>
      obtain ⟨cs, h1, h2⟩ := hG.cells hg
      simp only [RepA]
      exact ⟨by simp [okP], g, 0, cs, by simp [off], h1, fun j hj => by simpa using h2 j hj⟩
  | func f => simp only [evA, Act.eval, RepA]; exact ⟨[], rfl, by simp only [RepAs]⟩

/-- 'The operation gives a value of this kind, and turns nothing.' -/
def Gives (C : Cfg) (m : Nat → Value) (L : Heap) (w : World) (S : Nat → Nat → Prop) (s : Sem Value) (r : R) : Prop :=
  ∀ a, r = some (true, a) → ∃ u, s.run C.P w = .ok u w ∧ RepA m L w S a u

theorem gives_none {s : Sem Value} : Gives C m L w S s none := fun a h => by simp at h
theorem gives_ok1 {s : Sem Value} {a : AV} {u : Value} (h : s.run C.P w = .ok u w) (hr : RepA m L w S a u) : Gives C m L w S s (ok1 a) := by
  intro b hb
  simp only [ok1, Option.some.injEq, Prod.mk.injEq, true_and] at hb
  subst hb
  exact ⟨u, h, hr⟩
theorem gives_if {s : Sem Value} {c : Bool} {a : AV} {u : Value} (h : c = true → s.run C.P w = .ok u w) (hr : RepA m L w S a u) : Gives C m L w S s (some (c, a)) := by
  intro b hb
  simp only [Option.some.injEq, Prod.mk.injEq] at hb
  obtain ⟨rfl, rfl⟩ := hb
  exact ⟨u, h rfl, hr⟩

theorem pick_rep {c : Bool} {x y : AV} {u v : Value} (hx : RepA m L w S x u) (hy : RepA m L w S y v) : RepA m L w S (pickA c x y) (if c = true then u else v) := by
  have key : ∀ {z : AV}, z = (bif c then x else y) → RepA m L w S z (if c = true then u else v) := by
    rintro z rfl
    cases c <;> simp <;> assumption
  unfold pickA
  split
  · rw [rep_bool] at hx hy; subst hx; subst hy; cases c <;> simp [rep_bool]
  · rename_i k x k' y
    split
    · rename_i e; subst e; rw [rep_int] at hx hy; subst hx; subst hy; cases c <;> simp [rep_int]
    · exact key rfl
  · rw [rep_str] at hx hy; subst hx; subst hy; cases c <;> simp [rep_str]
  · exact key rfl

theorem wf_noagg {op : BinOp} {t : TypeId} {x y : Operand} {k k' : IntKind} {a b : Int} : (eqGuard op t x y (.int k a) (.int k' b)).run C.P w = .ok () w := by
  unfold eqGuard; split <;> simp [Sem.run_pure]

theorem gives_intOp {op : BinOp} {t : TypeId} {k : IntKind} {x y : Int} (hop : isShift op = false) : Gives C m L w S (binOp op t (.int k x) (.int k y)) (intOp op k x y) := by
  cases op <;> simp [isShift] at hop <;> simp only [intOp, binOp, ne_eq, not_true_eq_false, if_false] <;>
    first
    | exact gives_none
    | exact gives_ok1 rfl (rep_int.2 rfl)
    | exact gives_ok1 rfl (rep_bool.2 rfl)
    | (refine gives_if (u := .int k _) (fun h => ?_) (rep_int.2 rfl); have h' : ¬ y = 0 := by simpa using h
       simp [Op.intDiv, h', Sem.run_pure])

theorem gives_strOp {op : BinOp} {t : TypeId} {x y : ByteArray} (hop : isShift op = false) : Gives C m L w S (binOp op t (.string x) (.string y)) (strOp op x y) := by
  cases op <;> simp [isShift] at hop <;> simp only [strOp, binOp, Op.stringOp, ← Go.Lib.toList_data] <;>
    first
    | exact gives_none
    | exact gives_ok1 rfl (rep_bool.2 rfl)
    | (refine gives_if (u := .string (x ++ y)) (fun h => ?_) (rep_str.2 rfl); have h' : x.size + y.size ≤ catMax := by simpa using h
       have : ¬ ((x.size + y.size : Nat) : Int) > IntKind.i64.max := by
         have : IntKind.i64.max = 9223372036854775807 := rfl
         unfold catMax at h'
         omega
       rw [if_neg this]; rfl)
end
end Go.Proofs.YtmphlhnpichonaaDoor.K

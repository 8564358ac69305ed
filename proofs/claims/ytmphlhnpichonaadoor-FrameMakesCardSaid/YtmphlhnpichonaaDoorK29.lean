/- Entries: what is known of a function, ready for its callers. -/
import Derived.Test.YtmphlhnpichonaaDoorK28
set_option maxHeartbeats 400000
set_option linter.unusedVariables false
set_option linter.unusedSimpArgs false
namespace Go.Proofs.YtmphlhnpichonaaDoor.K
open Go Go.RowKit

def bs (l : List UInt8) : ByteArray := ⟨l.toArray⟩

def getI (τ : ETy) : AV → Option τ.I
  | .v σ x => castI σ τ x
  | _ => none

theorem getI_eq {τ : ETy} {a : AV} {x : τ.I} (h : getI τ a = some x) : a = .v τ x := by
  cases a with
  | v σ y =>
    obtain ⟨e, rfl⟩ := castI_eq h
    subst e
    rfl
  | _ => simp [getI] at h

abbrev Ent := ∀ {Ω : Type}, List AV → (AV → Option Ω) → Option Ω

def EntOK (C : Cfg) (g : FuncId) (e : Ent) : Prop := ∀ {Ω : Type} (bs : List AV) (k : AV → Option Ω) (r : Ω), e bs k = some r → ∃ av, k av = some r ∧ Contract C g bs av

def noS : Spec := fun _ _ _ => none
def orS (g0 : FuncId) (e : Ent) (rest : Spec) : Spec := fun g bs k => bif g == g0 then e bs k else rest g bs k

theorem noS_ok {C : Cfg} : SpecOK C noS := fun _ _ _ _ h => by cases h
theorem orS_ok {C : Cfg} {g0 : FuncId} {e : Ent} {rest : Spec} (h : EntOK C g0 e) (hr : SpecOK C rest) : SpecOK C (orS g0 e rest) := by
  intro Ω g bs k r hk
  have key : ∀ b : Bool, (g == g0) = b → (bif b then e bs k else rest g bs k) = some r → ∃ av, k av = some r ∧ Contract C g bs av := by
    intro b hb hq
    cases b with
    | true =>
      obtain rfl : g = g0 := by simpa using hb
      exact h bs k r hq
    | false => exact hr g bs k r hq
  exact key _ rfl hk

/-- What is known under fewer tables is known under more. -/
structure Cfg.le (C C' : Cfg) : Prop where
  P : C.P = C'.P
  G : ∀ g d, C.G g = some d → C'.G g = some d

theorem Contract.mono {C C' : Cfg} (hl : C.le C') {f : FuncId} {args : List AV} {av : AV} (h : Contract C f args av) : Contract C' f args av where
  enters us w := by rw [← hl.P]; exact h.enters us w
  runs w S us hlt hG hr := by
    rw [← hl.P]
    exact h.runs w S us hlt (fun g d hg => hG g d (hl.G g d hg)) hr

theorem EntOK.mono {C C' : Cfg} (hl : C.le C') {g : FuncId} {e : Ent} (h : EntOK C g e) : EntOK C' g e := by
  intro Ω bs k r hk
  obtain ⟨av, h1, h2⟩ := h bs k r hk
  exact ⟨av, h1, h2.mono hl⟩

def ent0 (p : Bool) (f : AV) : Ent := fun bs k => match bs with
  | [] => bif p then k f else none
  | _ => none
def ent1 (τ1 : ETy) (p : τ1.I → Bool) (f : τ1.I → AV) : Ent := fun bs k => match bs with
  | [a] => (getI τ1 a).bind fun x => bif p x then k (f x) else none
  | _ => none
def ent2 (τ1 τ2 : ETy) (p : τ1.I → τ2.I → Bool) (f : τ1.I → τ2.I → AV) : Ent := fun bs k => match bs with
  | [a, b] => (getI τ1 a).bind fun x => (getI τ2 b).bind fun y => bif p x y then k (f x y) else none
  | _ => none
def ent3 (τ1 τ2 τ3 : ETy) (p : τ1.I → τ2.I → τ3.I → Bool) (f : τ1.I → τ2.I → τ3.I → AV) : Ent := fun bs k => match bs with
  | [a, b, c] => (getI τ1 a).bind fun x => (getI τ2 b).bind fun y => (getI τ3 c).bind fun z => bif p x y z then k (f x y z) else none
  | _ => none
def ent4 (τ1 τ2 τ3 τ4 : ETy) (p : τ1.I → τ2.I → τ3.I → τ4.I → Bool) (f : τ1.I → τ2.I → τ3.I → τ4.I → AV) : Ent := fun bs k => match bs with
  | [a, b, c, d] => (getI τ1 a).bind fun x => (getI τ2 b).bind fun y => (getI τ3 c).bind fun z => (getI τ4 d).bind fun t => bif p x y z t then k (f x y z t) else none
  | _ => none
def ent5 (τ1 τ2 τ3 τ4 τ5 : ETy) (p : τ1.I → τ2.I → τ3.I → τ4.I → τ5.I → Bool) (f : τ1.I → τ2.I → τ3.I → τ4.I → τ5.I → AV) : Ent := fun bs k => match bs with
  | [a, b, c, d, e] => (getI τ1 a).bind fun x => (getI τ2 b).bind fun y => (getI τ3 c).bind fun z => (getI τ4 d).bind fun t => (getI τ5 e).bind fun u => bif p x y z t u then k (f x y z t u) else none
  | _ => none

section
variable {C : Cfg} {g : FuncId}

theorem ite_some {Ω : Type} {p : Bool} {x : Option Ω} {r : Ω} (h : (bif p then x else none) = some r) : p = true ∧ x = some r := by
  cases p with
  | true => exact ⟨rfl, h⟩
  | false => cases h

theorem ent0_ok {p : Bool} {f : AV} (h : p = true → Contract C g [] f) : EntOK C g (ent0 p f) := by
  intro Ω bs k r hk
  match bs, hk with
  | [], hk =>
    obtain ⟨h1, h2⟩ := ite_some hk
    exact ⟨_, h2, h h1⟩
theorem ent1_ok {τ1 : ETy} {p : τ1.I → Bool} {f : τ1.I → AV} (h : ∀ x, p x = true → Contract C g [.v τ1 x] (f x)) : EntOK C g (ent1 τ1 p f) := by
  intro Ω bs k r hk
  match bs, hk with
  | [a], hk =>
    obtain ⟨x, e1, hk⟩ := Option.bind_eq_some_iff.1 hk
    obtain ⟨h1, h2⟩ := ite_some hk
    rw [getI_eq e1]
    exact ⟨_, h2, h x h1⟩
theorem ent2_ok {τ1 τ2 : ETy} {p : τ1.I → τ2.I → Bool} {f : τ1.I → τ2.I → AV} (h : ∀ x y, p x y = true → Contract C g [.v τ1 x, .v τ2 y] (f x y)) : EntOK C g (ent2 τ1 τ2 p f) := by
  intro Ω bs k r hk
  match bs, hk with
  | [a, b], hk =>
    obtain ⟨x, e1, hk⟩ := Option.bind_eq_some_iff.1 hk
    obtain ⟨y, e2, hk⟩ := Option.bind_eq_some_iff.1 hk
    obtain ⟨h1, h2⟩ := ite_some hk
    rw [getI_eq e1, getI_eq e2]
    exact ⟨_, h2, h x y h1⟩
theorem ent3_ok {τ1 τ2 τ3 : ETy} {p : τ1.I → τ2.I → τ3.I → Bool} {f : τ1.I → τ2.I → τ3.I → AV} (h : ∀ x y z, p x y z = true → Contract C g [.v τ1 x, .v τ2 y, .v τ3 z] (f x y z)) : EntOK C g (ent3 τ1 τ2 τ3 p f) := by
  intro Ω bs k r hk
  match bs, hk with
  | [a, b, c], hk =>
    obtain ⟨x, e1, hk⟩ := Option.bind_eq_some_iff.1 hk
    obtain ⟨y, e2, hk⟩ := Option.bind_eq_some_iff.1 hk
    obtain ⟨z, e3, hk⟩ := Option.bind_eq_some_iff.1 hk
    obtain ⟨h1, h2⟩ := ite_some hk
    rw [getI_eq e1, getI_eq e2, getI_eq e3]
    exact ⟨_, h2, h x y z h1⟩
theorem ent4_ok {τ1 τ2 τ3 τ4 : ETy} {p : τ1.I → τ2.I → τ3.I → τ4.I → Bool} {f : τ1.I → τ2.I → τ3.I → τ4.I → AV} (h : ∀ x y z t, p x y z t = true → Contract C g [.v τ1 x, .v τ2 y, .v τ3 z, .v τ4 t] (f x y z t)) : EntOK C g (ent4 τ1 τ2 τ3 τ4 p f) := by
  intro Ω bs k r hk
  match bs, hk with
  | [a, b, c, d], hk =>
    obtain ⟨x, e1, hk⟩ := Option.bind_eq_some_iff.1 hk
    obtain ⟨y, e2, hk⟩ := Option.bind_eq_some_iff.1 hk
    obtain ⟨z, e3, hk⟩ := Option.bind_eq_some_iff.1 hk
    obtain ⟨t, e4, hk⟩ := Option.bind_eq_some_iff.1 hk
    obtain ⟨h1, h2⟩ := ite_some hk
    rw [getI_eq e1, getI_eq e2, getI_eq e3, getI_eq e4]
    exact ⟨_, h2, h x y z t h1⟩
theorem ent5_ok {τ1 τ2 τ3 τ4 τ5 : ETy} {p : τ1.I → τ2.I → τ3.I → τ4.I → τ5.I → Bool} {f : τ1.I → τ2.I → τ3.I → τ4.I → τ5.I → AV} (h : ∀ x y z t u, p x y z t u = true → Contract C g [.v τ1 x, .v τ2 y, .v τ3 z, .v τ4 t, .v τ5 u] (f x y z t u)) : EntOK C g (ent5 τ1 τ2 τ3 τ4 τ5 p f) := by
  intro Ω bs k r hk
  match bs, hk with
  | [a, b, c, d, e], hk =>
    obtain ⟨x, e1, hk⟩ := Option.bind_eq_some_iff.1 hk
    obtain ⟨y, e2, hk⟩ := Option.bind_eq_some_iff.1 hk
    obtain ⟨z, e3, hk⟩ := Option.bind_eq_some_iff.1 hk
    obtain ⟨t, e4, hk⟩ := Option.bind_eq_some_iff.1 hk
    obtain ⟨u, e5, hk⟩ := Option.bind_eq_some_iff.1 hk
    obtain ⟨h1, h2⟩ := ite_some hk
    rw [getI_eq e1, getI_eq e2, getI_eq e3, getI_eq e4, getI_eq e5]
    exact ⟨_, h2, h x y z t u h1⟩
end

section
variable {Ω β : Type} {k : β → Option Ω}
theorem cond_tot {c : Bool} {X Y : Option Ω} {a b : β} (hX : X = k a) (hY : Y = k b) : (bif c then X else Y) = k (bif c then a else b) := by
  cases c <;> assumption
theorem cond_pre {c p q : Bool} {X Y : Option Ω} {a b : β} (hX : X = bif p then k a else none) (hY : Y = bif q then k b else none) : (bif c then X else Y) = bif (bif c then p else q) then k (bif c then a else b) else none := by
  cases c <;> assumption
end

section
variable {Ω σ : Type} {r : σ → Option Ω}
theorem cond_rnd {b c1 c2 : Bool} {X Y e1 e2 : Option Ω} {n1 n2 : σ} (hX : X = bif c1 then r n1 else e1) (hY : Y = bif c2 then r n2 else e2) :
    (bif b then X else Y) = bif (bif b then c1 else c2) then r (bif b then n1 else n2) else (bif b then e1 else e2) := by
  cases b <;> assumption

/-- A loop that turns while c, by its invariant: Q is what comes of a state. -/
theorem iter_to {B : (σ → Option Ω) → σ → Option Ω} {c : σ → Bool} {f : σ → σ} {e : σ → Option Ω} (hB : ∀ r s, B r s = bif c s then r (f s) else e s) (I : σ → Prop) (μ : σ → Nat) (Q : σ → Option Ω)
    (hI : ∀ s, I s → c s = true → I (f s) ∧ μ (f s) < μ s ∧ Q (f s) = Q s) (hE : ∀ s, I s → c s = false → e s = Q s) : ∀ (m : Nat) (s : σ), I s → μ s < m → iter B m s = Q s
  | 0, s, _, h => by omega
  | m + 1, s, hs, h => by
    show B (iter B m) s = Q s
    rw [hB]
    cases hc : c s with
    | true =>
      obtain ⟨h1, h2, h3⟩ := hI s hs hc
      rw [cond_true, iter_to hB I μ Q hI hE m (f s) h1 (by omega), h3]
    | false => rw [cond_false]; exact hE s hs hc
end

def rep {α : Type} (f : α → α) : Nat → α → α
  | 0, x => x
  | n + 1, x => rep f n (f x)

theorem wrap_in {x : Int} (h0 : -9223372036854775808 ≤ x) (h1 : x ≤ 9223372036854775807) : IntKind.wrap .i64 x = x := by
  simp [IntKind.wrap, IntKind.bits, IntKind.signed, IntKind.min, IntKind.max] <;> omega

/-- From what a body comes to, to the contract. -/
theorem contract_of {C : Cfg} {spec : Spec} (hC : C.OK) (hS : SpecOK C spec) {fuel : Fuel} {f : FuncId} {fn : Func} (hf : C.P.funcs[f]? = some fn) (hb : fn.body.isSome = true) (hn : (fn.name == "runtime.NumGoroutine") = false)
    {args : List AV} {av : AV} (h : evFn C spec fuel fn (fn.body.getD .skip) args some = some av) : Contract C f args av := by
  obtain ⟨c, hc⟩ := Option.isSome_iff_exists.1 hb
  rw [hc] at h
  obtain ⟨av', h1, h2⟩ := fn_contract hC hS hf hc hn h
  cases h1
  exact h2
end Go.Proofs.YtmphlhnpichonaaDoor.K

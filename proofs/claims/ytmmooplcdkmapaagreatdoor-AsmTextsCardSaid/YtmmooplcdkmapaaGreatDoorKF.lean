/- Plain results: what refines what; entries by kinds of arguments; from a plain result to the contract. Arguments: what is read of them is data. Rows: from a law's contract to what its row asks. Tables: what a row says of a package's variable, as data. Calls that are walked where they stand, in the caller's own blocks. -/
import Derived.Test.YtmmooplcdkmapaaGreatDoorKE
import Derived.SizedLaws
import Derived.OpenShut
import Derived.DataReads
import Derived.Carry
import Derived.ProofKit
import Derived.LaidLaws
import Derived.Lay
import Derived.Handed
set_option maxHeartbeats 400000
set_option linter.unusedVariables false
set_option linter.unusedSimpArgs false
namespace Go.Proofs.YtmmooplcdkmapaaGreatDoor.K
open Go Go.RowKit

/-- What the first gives, the second gives. -/
def Le {Ω : Type} (x y : Option Ω) : Prop := ∀ r, x = some r → y = some r

section
variable {Ω β : Type} {X Y X1 X2 Y1 Y2 : Option Ω}
theorem Le.refl (x : Option Ω) : Le x x := fun _ h => h
theorem Le.of (h : X = Y) : Le X Y := h ▸ Le.refl X
theorem Le.nil : Le none Y := fun _ h => by cases h
theorem Le.trans {Z : Option Ω} (h : Le X Y) (k : Le Y Z) : Le X Z := fun r hr => k r (h r hr)
theorem Le.cond {c : Bool} (h1 : Le X1 Y1) (h2 : Le X2 Y2) : Le (bif c then X1 else X2) (bif c then Y1 else Y2) := by
  cases c <;> assumption
theorem Le.gd {g : Bool} (h : g = true → Le X Y) : Le (bif g then X else none) Y := by
  cases g with
  | true => exact h rfl
  | false => exact Le.nil
theorem Le.tru {c : Bool} (hc : c = true) (h : Le X Y1) : Le X (bif c then Y1 else Y2) := by
  subst hc; exact h
theorem Le.fls {c : Bool} (hc : c = false) (h : Le X Y2) : Le X (bif c then Y1 else Y2) := by
  subst hc; exact h
theorem Le.bnd {o : Option β} {f g : β → Option Ω} (h : ∀ x, Le (f x) (g x)) : Le (o.bind f) (o.bind g) := by
  cases o with
  | none => exact Le.nil
  | some x => exact h x
end

/-- A number of rounds beyond all that a counter of 64 bits may tell. -/
def BIG : Nat := 9223372036854775808

/-- A loop over a list, one round for each. -/
theorem iter_list {α σ' σ Ω : Type} (X : List α) (z : α) (mk : Int → σ' → σ) (G : List α → Int → σ' → Option Ω) (B : (σ → Option Ω) → σ → Option Ω)
    (h0 : ∀ (i : Int) (a : σ') (r : σ → Option Ω), decide (i < ((List.length X : Nat) : Int)) = false → Le (G [] i a) (B r (mk i a)))
    (h1 : ∀ (i : Int) (xs : List α) (a : σ') (r : σ → Option Ω), decide (i < ((List.length X : Nat) : Int)) = true → idxOK i (List.length X) = true → IntKind.wrap .i64 (i + 1) = i + 1 →
      (∀ j, j = i + 1 → ∀ a', Le (G xs (i + 1) a') (r (mk j a'))) → Le (G (List.getD X (Int.toNat i) z :: xs) i a) (B r (mk i a)))
    (hX : ((List.length X : Nat) : Int) ≤ 9223372036854775807) : ∀ (m : Nat) (i : Int) (a : σ'), 0 ≤ i → i ≤ ((List.length X : Nat) : Int) → ((List.length X : Nat) : Int) < m + i → Le (G (X.drop (Int.toNat i)) i a) (iter B m (mk i a))
  | 0, i, a, h, hl, hm => by omega
  | m + 1, i, a, h, hl, hm => by
    show Le _ (B (iter B m) (mk i a))
    rcases Int.lt_or_le i ((List.length X : Nat) : Int) with hlt | hge
    · have hi : i.toNat < X.length := by omega
      have hd : X.drop i.toNat = List.getD X (Int.toNat i) z :: X.drop (i + 1).toNat := by
        rw [show (i + 1).toNat = i.toNat + 1 by omega, List.drop_eq_getElem_cons hi]
        simp [List.getD, hi]
      rw [hd]
      refine h1 i _ a _ (decide_eq_true hlt) (by simp [idxOK]; omega) (wrap_in (by omega) (by omega)) ?_
      rintro j rfl a'
      exact iter_list X z mk G B h0 h1 hX m (i + 1) a' (by omega) (by omega) (by omega)
    · rw [List.drop_eq_nil_of_le (by omega)]
      exact h0 i a _ (decide_eq_false (by omega))

/-- A loop that counts upward. -/
theorem iter_count {σ' σ Ω : Type} (N : Int) (c : Int → Bool) (hc : ∀ i, c i = decide (i < N)) (mk : Int → σ' → σ) (G : Nat → Int → σ' → Option Ω) (B : (σ → Option Ω) → σ → Option Ω)
    (h0 : ∀ (i : Int) (a : σ') (r : σ → Option Ω), c i = false → Le (G 0 i a) (B r (mk i a)))
    (h1 : ∀ (i : Int) (d : Nat) (a : σ') (r : σ → Option Ω), c i = true → IntKind.wrap .i64 (i + 1) = i + 1 →
      (∀ j, j = i + 1 → ∀ a', Le (G d (i + 1) a') (r (mk j a'))) → Le (G (d + 1) i a) (B r (mk i a)))
    (hN : N ≤ 9223372036854775807) : ∀ (m : Nat) (i : Int) (a : σ'), -9223372036854775808 ≤ i → (N - i).toNat < m → Le (G (N - i).toNat i a) (iter B m (mk i a))
  | 0, i, a, h, hm => by omega
  | m + 1, i, a, h, hm => by
    show Le _ (B (iter B m) (mk i a))
    rcases Int.lt_or_le i N with hlt | hge
    · rw [show (N - i).toNat = (N - (i + 1)).toNat + 1 by omega]
      refine h1 i _ a _ ((hc i).trans (decide_eq_true hlt)) (wrap_in (by omega) (by omega)) ?_
      rintro j rfl a'
      exact iter_count N c hc mk G B h0 h1 hN m (i + 1) a' (by omega) (by omega)
    · rw [show (N - i).toNat = 0 by omega]
      exact h0 i a _ ((hc i).trans (decide_eq_false (by omega)))

theorem iter_le {σ Ω : Type} {B B' : (σ → Option Ω) → σ → Option Ω} (h : ∀ r r' s, (∀ s, Le (r s) (r' s)) → Le (B r s) (B' r' s)) : ∀ (m : Nat) (s : σ), Le (iter B m s) (iter B' m s)
  | 0, s => Le.nil
  | m + 1, s => h _ _ s fun s => iter_le h m s

section
variable {N i : Int}
theorem le_up (h : N ≤ 4611686018427387904) : N ≤ 9223372036854775807 := by omega
theorem zero_le_len (n : Nat) : (0 : Int) ≤ ((n : Nat) : Int) := by omega
theorem big_list {n : Nat} (h : ((n : Nat) : Int) ≤ 4611686018427387904) : ((n : Nat) : Int) < ((BIG : Nat) : Int) + 0 := by unfold BIG; omega
theorem cnt_up (h : decide (N ≤ 4611686018427387904) = true) : N ≤ 9223372036854775807 := by have := of_decide_eq_true h; omega
theorem cnt_up1 (h : decide (N ≤ 4611686018427387904) = true) : N + 1 ≤ 9223372036854775807 := by have := of_decide_eq_true h; omega
theorem cnt_lo (h : decide ((0 : Int) ≤ i) = true) : -9223372036854775808 ≤ i := by have := of_decide_eq_true h; omega
theorem cnt_lo3 (h : decide ((0 : Int) ≤ i) = true) : -1000 ≤ i := by have := of_decide_eq_true h; omega
theorem cnt_big (h : decide (N ≤ 4611686018427387904) = true) (hi : -1000 ≤ i) : Int.toNat (N - i) < BIG := by have := of_decide_eq_true h; unfold BIG; omega
theorem cnt_big1 (h : decide (N ≤ 4611686018427387904) = true) (hi : -1000 ≤ i) : Int.toNat (N + 1 - i) < BIG := by have := of_decide_eq_true h; unfold BIG; omega
theorem and_l {a b : Bool} (h : (a && b) = true) : a = true := by cases a <;> simp_all
theorem and_r {a b : Bool} (h : (a && b) = true) : b = true := by cases a <;> simp_all
theorem le_lt1 (i N : Int) : decide (i ≤ N) = decide (i < N + 1) := by
  by_cases h : i ≤ N
  · rw [decide_eq_true h, decide_eq_true (by omega)]
  · rw [decide_eq_false h, decide_eq_false (by omega)]
end

/-- The results of a function: one, or several. -/
@[reducible] def Tup : ETy → List ETy → Type
  | τ, [] => τ.I
  | τ, σ :: r => τ.I × Tup σ r
def tupAVs : (τ : ETy) → (l : List ETy) → Tup τ l → List AV
  | τ, [], x => [.v τ x]
  | τ, σ :: r, x => .v τ x.1 :: tupAVs σ r x.2
def tupAV : (τ : ETy) → (l : List ETy) → Tup τ l → AV
  | τ, [], x => .v τ x
  | τ, σ :: r, x => .tup (.v τ x.1 :: tupAVs σ r x.2)
def decs : (τ : ETy) → (l : List ETy) → List AV → Option (Tup τ l)
  | τ, [], [a] => getI τ a
  | τ, σ :: r, a :: as => (getI τ a).bind fun x => (decs σ r as).map fun y => (x, y)
  | _, _, _ => none
def dec : (τ : ETy) → (l : List ETy) → AV → Option (Tup τ l)
  | τ, [], a => getI τ a
  | τ, σ :: r, .tup (a :: as) => (getI τ a).bind fun x => (decs σ r as).map fun y => (x, y)
  | _, _, _ => none
theorem castI_self (τ : ETy) (x : τ.I) : castI τ τ x = some x := by simp [castI]
theorem getI_self (τ : ETy) (x : τ.I) : getI τ (.v τ x) = some x := castI_self τ x
theorem decs_self : ∀ (τ : ETy) (l : List ETy) (x : Tup τ l), decs τ l (tupAVs τ l x) = some x
  | τ, [], x => by simp only [tupAVs, decs, getI_self]
  | τ, σ :: r, x => by
    simp only [tupAVs, decs, getI_self, Option.bind_some, decs_self σ r x.2, Option.map_some]
theorem dec_self : ∀ (τ : ETy) (l : List ETy) (x : Tup τ l), dec τ l (tupAV τ l x) = some x
  | τ, [], x => by simp only [tupAV, dec, getI_self]
  | τ, σ :: r, x => by
    simp only [tupAV, dec, getI_self, Option.bind_some, decs_self σ r x.2, Option.map_some]
theorem dec_fun (τ : ETy) (l : List ETy) : (fun r => dec τ l (tupAV τ l r)) = some := funext (dec_self τ l)
theorem decs_eq : ∀ {τ : ETy} {l : List ETy} {as : List AV} {x : Tup τ l}, decs τ l as = some x → as = tupAVs τ l x
  | τ, [], as, x, h => by
    match as, h with
    | [a], h => simp only [decs] at h; rw [getI_eq h]; rfl
  | τ, σ :: r, as, x, h => by
    match as, h with
    | a :: as, h =>
      simp only [decs, Option.bind_eq_some_iff, Option.map_eq_some_iff] at h
      obtain ⟨y, h1, z, h2, rfl⟩ := h
      rw [getI_eq h1, decs_eq h2]; rfl
theorem dec_eq : ∀ {τ : ETy} {l : List ETy} {a : AV} {x : Tup τ l}, dec τ l a = some x → a = tupAV τ l x
  | τ, [], a, x, h => by simp only [dec] at h; rw [getI_eq h]; rfl
  | τ, σ :: r, a, x, h => by
    match a, h with
    | .tup (a :: as), h =>
      simp only [dec, Option.bind_eq_some_iff, Option.map_eq_some_iff] at h
      obtain ⟨y, h1, z, h2, rfl⟩ := h
      rw [getI_eq h1, decs_eq h2]; rfl

/-- From what a body comes to, decoded, to the contract. -/
theorem contract_u {C : Cfg} {spec : Spec} (hC : C.OK) (hS : SpecOK C spec) {fuel : Fuel} {f : FuncId} {fn : Func} (hf : C.P.funcs[f]? = some fn) (hb : fn.body.isSome = true) (hn : (fn.name == "runtime.NumGoroutine") = false)
    {args : List AV} {τ : ETy} {l : List ETy} {r : Tup τ l} (h : evFn C spec fuel fn (fn.body.getD .skip) args (dec τ l) = some r) : Contract C f args (tupAV τ l r) := by
  obtain ⟨c, hc⟩ := Option.isSome_iff_exists.1 hb
  rw [hc] at h
  obtain ⟨av', h1, h2⟩ := fn_contract hC hS hf hc hn h
  rw [dec_eq h1] at h2
  exact h2

theorem contract_s {C : Cfg} {spec : Spec} (hC : C.OK) (hS : SpecOK C spec) {fuel : Fuel} {f : FuncId} {fn : Func} (hf : C.P.funcs[f]? = some fn) (hb : fn.body.isSome = true) (hn : (fn.name == "runtime.NumGoroutine") = false)
    {args : List AV} {τ : ETy} {l : List ETy} {r : Tup τ l} {S : (Tup τ l → Option (Tup τ l)) → Option (Tup τ l)} (hev : evFn C spec fuel fn (fn.body.getD .skip) args (dec τ l) = S (fun r => dec τ l (tupAV τ l r))) (h : S some = some r) : Contract C f args (tupAV τ l r) := by
  rw [dec_fun, h] at hev
  exact contract_u hC hS hf hb hn hev

/-- A place that is only read. -/
def getVP (T : ETy) : AV → Option T.I
  | .vp T' x [] => castI T' T x
  | _ => none
theorem getVP_eq {T : ETy} {a : AV} {x : T.I} (h : getVP T a = some x) : a = .vp T x [] := by
  cases a with
  | vp T' y p =>
    cases p with
    | nil =>
      obtain ⟨e, rfl⟩ := castI_eq h
      subst e
      rfl
    | cons _ _ => simp [getVP] at h
  | _ => simp [getVP] at h

/-- Entries whose first arguments are read already. -/
structure EntA (C : Cfg) (g : FuncId) (acc : List AV) (e : Ent) : Prop where
  ok : ∀ (Ω : Type) (bs : List AV) (k : AV → Option Ω) (r : Ω), e bs k = some r → ∃ av, k av = some r ∧ Contract C g (acc ++ bs) av
def argI (τ : ETy) (f : τ.I → Ent) : Ent := fun bs k => match bs with
  | a :: r => (getI τ a).bind fun x => f x r k
  | [] => none
def argP (T : ETy) (f : T.I → Ent) : Ent := fun bs k => match bs with
  | a :: r => (getVP T a).bind fun x => f x r k
  | [] => none
def argF0 (g : FuncId) (f : Ent) : Ent := fun bs k => match bs with
  | .fn g' [] :: r => bif g' == g then f r k else none
  | _ => none
def argF1 (g : FuncId) (T : ETy) (f : T.I → Ent) : Ent := fun bs k => match bs with
  | .fn g' [a] :: r => bif g' == g then (getVP T a).bind fun x => f x r k else none
  | _ => none
def argF2 (g : FuncId) (T U : ETy) (f : T.I → U.I → Ent) : Ent := fun bs k => match bs with
  | .fn g' [a, b] :: r => bif g' == g then (getVP T a).bind fun x => (getVP U b).bind fun y => f x y r k else none
  | _ => none
/-- A place that holds this function. -/
def argQ (g : FuncId) (f : Ent) : Ent := fun bs k => match bs with
  | .vp (.raw .func) v [] :: r => bif asFn v == some g then f r k else none
  | _ => none
/-- This function, which has caught a place that holds that function. -/
def argFq (g h : FuncId) (f : Ent) : Ent := fun bs k => match bs with
  | .fn g' [.vp (.raw .func) v []] :: r => bif g' == g && asFn v == some h then f r k else none
  | _ => none
def endU {β : Type} (o : Option β) (f : β → AV) : Ent := fun bs k => match bs with
  | [] => o.bind fun r => k (f r)
  | _ => none
def endT (a : AV) : Ent := fun bs k => match bs with
  | [] => k a
  | _ => none
def orEnt (test : List AV → Bool) (e1 e2 : Ent) : Ent := fun bs k => bif test bs then e1 bs k else e2 bs k
/-- Which functions an argument bears. -/
def capSig : AV → Nat
  | .vp (.raw .func) v _ => (asFn v).getD 0
  | _ => 0
def sigOf : AV → List Nat
  | .fn g caps => g :: caps.map capSig
  | a => [capSig a]
def isSig (i : Nat) (sig : List Nat) (bs : List AV) : Bool := match bs[i]? with
  | some a => sigOf a == sig
  | none => false

section
variable {C : Cfg} {g : FuncId} {acc : List AV}
theorem argI_ok {τ : ETy} {f : τ.I → Ent} (h : ∀ x, EntA C g (acc ++ [.v τ x]) (f x)) : EntA C g acc (argI τ f) := by
  refine ⟨fun Ω bs k r hk => ?_⟩
  match bs, hk with
  | a :: bs, hk =>
    obtain ⟨x, e1, hk⟩ := Option.bind_eq_some_iff.1 hk
    obtain ⟨av, h1, h2⟩ := (h x).ok _ bs k r hk
    rw [getI_eq e1]
    exact ⟨av, h1, by simpa using h2⟩
theorem argP_ok {T : ETy} {f : T.I → Ent} (h : ∀ x, EntA C g (acc ++ [.vp T x []]) (f x)) : EntA C g acc (argP T f) := by
  refine ⟨fun Ω bs k r hk => ?_⟩
  match bs, hk with
  | a :: bs, hk =>
    obtain ⟨x, e1, hk⟩ := Option.bind_eq_some_iff.1 hk
    obtain ⟨av, h1, h2⟩ := (h x).ok _ bs k r hk
    rw [getVP_eq e1]
    exact ⟨av, h1, by simpa using h2⟩
theorem argF0_ok {q : FuncId} {f : Ent} (h : EntA C g (acc ++ [.fn q []]) f) : EntA C g acc (argF0 q f) := by
  refine ⟨fun Ω bs k r hk => ?_⟩
  match bs, hk with
  | .fn q' [] :: bs, hk =>
    have hk' : (bif q' == q then f bs k else none) = some r := hk
    obtain ⟨e1, hk2⟩ := ite_some hk'
    obtain rfl : q' = q := by simpa using e1
    obtain ⟨av, h1, h2⟩ := h.ok _ bs k r hk2
    exact ⟨av, h1, by simpa using h2⟩
theorem argF1_ok {q : FuncId} {T : ETy} {f : T.I → Ent} (h : ∀ x, EntA C g (acc ++ [.fn q [.vp T x []]]) (f x)) : EntA C g acc (argF1 q T f) := by
  refine ⟨fun Ω bs k r hk => ?_⟩
  match bs, hk with
  | .fn q' [a] :: bs, hk =>
    have hk' : (bif q' == q then (getVP T a).bind fun x => f x bs k else none) = some r := hk
    obtain ⟨e1, hk2⟩ := ite_some hk'
    obtain rfl : q' = q := by simpa using e1
    obtain ⟨x, e2, hk3⟩ := Option.bind_eq_some_iff.1 hk2
    obtain ⟨av, h1, h2⟩ := (h x).ok _ bs k r hk3
    rw [getVP_eq e2]
    exact ⟨av, h1, by simpa using h2⟩
theorem argF2_ok {q : FuncId} {T U : ETy} {f : T.I → U.I → Ent} (h : ∀ x y, EntA C g (acc ++ [.fn q [.vp T x [], .vp U y []]]) (f x y)) : EntA C g acc (argF2 q T U f) := by
  refine ⟨fun Ω bs k r hk => ?_⟩
  match bs, hk with
  | .fn q' [a, b] :: bs, hk =>
    have hk' : (bif q' == q then (getVP T a).bind fun x => (getVP U b).bind fun y => f x y bs k else none) = some r := hk
    obtain ⟨e1, hk2⟩ := ite_some hk'
    obtain rfl : q' = q := by simpa using e1
    obtain ⟨x, e2, hk3⟩ := Option.bind_eq_some_iff.1 hk2
    obtain ⟨y, e3, hk4⟩ := Option.bind_eq_some_iff.1 hk3
    obtain ⟨av, h1, h2⟩ := (h x y).ok _ bs k r hk4
    rw [getVP_eq e2, getVP_eq e3]
    exact ⟨av, h1, by simpa using h2⟩
theorem argQ_ok {q : FuncId} {f : Ent} (h : EntA C g (acc ++ [.vp (.raw .func) (Value.func (.func q) #[] #[]) []]) f) : EntA C g acc (argQ q f) := by
  refine ⟨fun Ω bs k r hk => ?_⟩
  match bs, hk with
  | .vp (.raw .func) v [] :: bs, hk =>
    have hk' : (bif asFn v == some q then f bs k else none) = some r := hk
    obtain ⟨e1, hk2⟩ := ite_some hk'
    obtain rfl := asFn_eq (by simpa using e1)
    obtain ⟨av, h1, h2⟩ := h.ok _ bs k r hk2
    exact ⟨av, h1, by simpa using h2⟩
theorem argFq_ok {q p : FuncId} {f : Ent} (h : EntA C g (acc ++ [.fn q [.vp (.raw .func) (Value.func (.func p) #[] #[]) []]]) f) : EntA C g acc (argFq q p f) := by
  refine ⟨fun Ω bs k r hk => ?_⟩
  match bs, hk with
  | .fn q' [.vp (.raw .func) v []] :: bs, hk =>
    have hk' : (bif q' == q && asFn v == some p then f bs k else none) = some r := hk
    obtain ⟨e0, hk2⟩ := ite_some hk'
    simp only [Bool.and_eq_true] at e0
    obtain rfl : q' = q := by simpa using e0.1
    obtain rfl := asFn_eq (by simpa using e0.2)
    obtain ⟨av, h1, h2⟩ := h.ok _ bs k r hk2
    exact ⟨av, h1, by simpa using h2⟩
theorem endU_ok {β : Type} {o : Option β} {f : β → AV} (h : ∀ r, o = some r → Contract C g acc (f r)) : EntA C g acc (endU o f) := by
  refine ⟨fun Ω bs k r hk => ?_⟩
  match bs, hk with
  | [], hk =>
    obtain ⟨x, e1, hk⟩ := Option.bind_eq_some_iff.1 (show (o.bind fun r => k (f r)) = some r from hk)
    exact ⟨_, hk, by simpa using h x e1⟩
theorem endT_ok {a : AV} (h : Contract C g acc a) : EntA C g acc (endT a) := by
  refine ⟨fun Ω bs k r hk => ?_⟩
  match bs, hk with
  | [], hk => exact ⟨_, hk, by simpa using h⟩
theorem orEnt_ok {test : List AV → Bool} {e1 e2 : Ent} (h1 : EntOK C g e1) (h2 : EntOK C g e2) : EntOK C g (orEnt test e1 e2) := by
  intro Ω bs k r hk
  have key : ∀ b : Bool, (bif b then e1 bs k else e2 bs k) = some r → ∃ av, k av = some r ∧ Contract C g bs av := by
    intro b hb
    cases b with
    | true => exact h1 bs k r hb
    | false => exact h2 bs k r hb
  exact key (test bs) hk
theorem entA_ok {e : Ent} (h : EntA C g [] e) : EntOK C g e := fun bs k r hk => h.ok _ bs k r hk
end
end Go.Proofs.YtmmooplcdkmapaaGreatDoor.K

set_option maxHeartbeats 400000
set_option linter.unusedVariables false
set_option linter.unusedSimpArgs false
namespace Go.Proofs.YtmmooplcdkmapaaGreatDoor.K
open Go Go.RowKit

mutual
/-- Does a type's row, and all below it, fit the type of data? -/
def dOK (P : Program) : ETy → TypeId → Bool
  | .int k, t => match P.underlying t with | some (.int k') => decide (k' = k) | _ => false
  | .bool, t => match P.underlying t with | some .bool => true | _ => false
  | .str, t => match P.underlying t with | some .string => true | _ => false
  | .arr n e, t => match P.underlying t with | some (.array m te) => m == n && P.cellsOf te == e.size && P.cellsOf t == n * e.size && dOK P e te | _ => false
  | .slice e, t => match P.underlying t with | some (.slice te) => P.cellsOf te == e.size && decide (0 < e.size) && dOK P e te | _ => false
  | .unit, t => match P.underlying t with | some (.struct fs) => P.cellsOf t == 0 && fs.toList.isEmpty | _ => false
  | .pair a b, t => match P.underlying t with
    | some (.struct fs) => P.cellsOf t == a.size + b.size && (match fs.toList with
      | f :: r => f.offset == 0 && P.cellsOf f.type == a.size && dOK P a f.type && dF P b (0 + a.size) r
      | [] => false)
    | _ => false
  | .raw _, _ => false
def dF (P : Program) : ETy → Nat → List Field → Bool
  | .unit, _, r => r.isEmpty
  | .pair a b, o, f :: r => f.offset == o && P.cellsOf f.type == a.size && dOK P a f.type && dF P b (o + a.size) r
  | _, _, _ => false
end

theorem dF_of {P : Program} {a b : ETy} {l : List Field} (h : (match l with
      | f :: r => f.offset == 0 && P.cellsOf f.type == a.size && dOK P a f.type && dF P b (0 + a.size) r
      | [] => false) = true) : dF P (.pair a b) 0 l = true := by
  cases l with
  | nil => cases h
  | cons f r => unfold dF; exact h

/-- What may be handed over: numbers of their kinds, arrays of their lengths. -/
def fits : (τ : ETy) → τ.I → Prop
  | .int k, n => (Lit.int k n).wf = true
  | .bool, _ => True
  | .str, s => s.size ≤ reachBytes
  | .raw _, _ => True
  | .unit, _ => True
  | .pair a b, x => fits a x.1 ∧ fits b x.2
  | .arr n e, xs => List.length xs = n ∧ ∀ x ∈ xs, fits e x
  | .slice e, xs => List.length xs ≤ maxLen ∧ ∀ x ∈ xs, fits e x

theorem RepC.more {w : World} {S S' : Nat → Nat → Prop} (hs : ∀ b o, S b o → S' b o) {τ : ETy} {x : τ.I} {cs : List Value} (h : RepC w S τ x cs) : RepC w S' τ x cs :=
  RepC.safe ⟨hs, fun _ _ _ => rfl⟩ h

theorem chunks {α : Type} {R : α → List Value → Prop} {Q : α → Prop} {s : Nat} : ∀ (n : Nat) (cs : List Value), cs.length = n * s → (∀ i, i < n → ∃ y, R y ((cs.drop (i * s)).take s) ∧ Q y) → ∃ ys : List α, ys.length = n ∧ RepL R ys cs ∧ ∀ y ∈ ys, Q y
  | 0, cs, hl, _ => ⟨[], rfl, List.eq_nil_of_length_eq_zero (by simpa using hl), by simp⟩
  | n + 1, cs, hl, h => by
    obtain ⟨y, h1, h2⟩ := h 0 (by omega)
    obtain ⟨ys, e1, e2, e3⟩ := chunks (R := R) (Q := Q) (s := s) n (cs.drop s) (by rw [List.length_drop, hl, Nat.succ_mul]; omega) (fun i hi => by
      obtain ⟨z, z1, z2⟩ := h (i + 1) (by omega)
      refine ⟨z, ?_, z2⟩
      rw [List.drop_drop]
      rwa [show s + i * s = (i + 1) * s by rw [Nat.succ_mul]; omega])
    refine ⟨y :: ys, by simp [e1], ⟨cs.take s, cs.drop s, (List.take_append_drop s cs).symm, by simpa using h1, e2⟩, ?_⟩
    intro z hz
    rcases List.mem_cons.1 hz with rfl | hz
    · exact h2
    · exact e3 z hz

section
variable {H : Type} {enc : TypeId × Value → H} {P : Program} {w : World} {base : Nat} {spare : Nat → Bool} {held : Bool}

theorem mem_weightsAll {P : Program} {e : TypeId} {n : Nat} : ∀ {ds : List (DataW H)} {d : DataW H}, d ∈ ds → n ∈ d.weights P e → n ∈ DataW.weightsAll P e ds
  | x :: r, d, hd, hn => by
    simp only [DataW.weightsAll, List.mem_append]
    rcases List.mem_cons.1 hd with rfl | hd
    · exact .inl hn
    · exact .inr (mem_weightsAll hd hn)
  | [], d, hd, hn => by cases hd

theorem take_drop_all {α : Type} {l : List α} {n : Nat} (h : l.length = n) : (l.drop 0).take n = l := by
  rw [List.drop_zero, List.take_of_length_le (by omega)]

theorem add_add (a : Addr) (m n : Nat) : (a.add m).add n = a.add (m + n) := by
  unfold Addr.add
  by_cases h1 : m = 0
  · subst h1; simp
  · by_cases h2 : n = 0
    · subst h2; simp
    · simp [h1, h2, Nat.add_assoc]

theorem rows_rep {α : Type} {R : α → List Value → Prop} {Q : α → Prop} {s : Nat} : ∀ (n : Nat) {a : Addr}, (∀ i, i < n → ∃ (y : α) (ci : List Value), R y ci ∧ Q y ∧ w.cells? base (a.add (i * s)) s = some ci) →
    ∃ (ys : List α) (ds : List Value), ys.length = n ∧ RepL R ys ds ∧ (∀ y ∈ ys, Q y) ∧ ∀ j (h : j < ds.length), w.cell? (a.add j) = some ds[j]
  | 0, a, _ => ⟨[], [], rfl, rfl, by simp, by simp⟩
  | n + 1, a, h => by
    obtain ⟨y, c, h1, h2, h3⟩ := h 0 (by omega)
    obtain ⟨_, hc, hcell⟩ := World.cells?_some h3
    obtain ⟨ys, ds, e1, e2, e3, e4⟩ := rows_rep (R := R) (Q := Q) (s := s) n (a := a.add s) (fun i hi => by
      obtain ⟨z, d, z1, z2, z3⟩ := h (i + 1) (by omega)
      refine ⟨z, d, z1, z2, ?_⟩
      rw [add_add, show s + i * s = (i + 1) * s by rw [Nat.succ_mul]; omega]
      exact z3)
    refine ⟨y :: ys, c ++ ds, by simp [e1], ⟨c, ds, rfl, h1, e2⟩, ?_, fun j hj => ?_⟩
    · intro z hz
      rcases List.mem_cons.1 hz with rfl | hz
      · exact h2
      · exact e3 z hz
    · rcases Nat.lt_or_ge j c.length with hlt | hge
      · rw [List.getElem_append_left hlt]
        have := hcell j (by omega)
        rw [Nat.zero_mul, add_add, Nat.zero_add] at this
        rw [this, List.getElem?_eq_getElem hlt]
      · rw [List.getElem_append_right hge]
        have hlt : j - c.length < ds.length := by rw [List.length_append] at hj; omega
        have := e4 (j - c.length) hlt
        rw [add_add, show s + (j - c.length) = j by omega] at this
        exact this

mutual
theorem trod_rep : ∀ {τ : ETy} {t : TypeId} {fuel : Nat} {cs : List Value} {x : DataW H × List MemPlace}, dOK P τ t = true → DataW.trod enc P w base spare held fuel t cs = some x → (∀ n ∈ x.1.weights P t, n ≤ reachBytes) →
    ∃ y : τ.I, RepC w (fun b o => MemPlace.cell b o ∈ x.2) τ y cs ∧ fits τ y
  | .int k, t, fuel, cs, x, hd, h, hw => by
    unfold dOK at hd
    split at hd
    · rename_i k' hu
      obtain rfl : k' = k := by simpa using hd
      obtain ⟨n, rfl, rfl, hwf⟩ := DataW.trod_int hu h
      exact ⟨n, rfl, hwf⟩
    · cases hd
  | .bool, t, fuel, cs, x, hd, h, hw => by
    unfold dOK at hd
    split at hd
    · rename_i hu
      obtain ⟨b, rfl, rfl⟩ := DataW.trod_bool hu h
      exact ⟨b, rfl, trivial⟩
    · cases hd
  | .str, t, fuel, cs, x, hd, h, hw => by
    unfold dOK at hd
    split at hd
    · rename_i hu
      obtain ⟨b, rfl, rfl, hs⟩ := DataW.trod_string hu h
      refine ⟨b, rfl, ?_⟩
      have := hw b.data.toList.length (by simp [DataW.weights])
      show b.size ≤ reachBytes
      rw [Array.length_toList] at this
      exact this
    · cases hd
  | .raw k, t, fuel, cs, x, hd, h, hw => by unfold dOK at hd; cases hd
  | .unit, t, fuel, cs, x, hd, h, hw => by
    unfold dOK at hd
    split at hd
    · rename_i fs hu
      simp only [Bool.and_eq_true, beq_iff_eq] at hd
      obtain ⟨xs, n, _, rfl, hl, _⟩ := DataW.trod_struct hu h
      exact ⟨(), List.eq_nil_of_length_eq_zero (by rw [hl, hd.1]), trivial⟩
    · cases hd
  | .pair a b, t, fuel, cs, x, hd, h, hw => by
    unfold dOK at hd
    split at hd
    · rename_i fs hu
      simp only [Bool.and_eq_true, beq_iff_eq] at hd
      obtain ⟨xs, n, _, rfl, hl, hxs, hf⟩ := DataW.trod_struct hu h
      have := trodF_rep (b := .pair a b) (o := 0) (r := fs.toList) (xs := xs) (cs := cs) (fuel := n) (dF_of hd.2) (by rw [hl, hd.1, Nat.zero_add]; rfl) (by rw [hxs, Array.length_toList]) (fun i f hi => by
        simpa using hf i f (by simpa using hi)) (fun i f x0 hi hx0 n hn => hw n (by
          have e : (DataW.agg (xs.map (·.1)) : DataW H).weights P t = DataW.weightsEach P (fs.toList.map (·.type)) (xs.map (·.1)) := by simp only [DataW.weights, hu]
          rw [e]
          exact DataW.weights_mem_each (j := i) (t := f.type) (d := x0.1) (by rw [List.getElem?_map, hi]; rfl) (by rw [List.getElem?_map, hx0]; rfl) n hn))
      simpa using this
    · cases hd
  | .arr n e, t, fuel, cs, x, hd, h, hw => by
    unfold dOK at hd
    split at hd
    · rename_i m te hu
      simp only [Bool.and_eq_true, beq_iff_eq] at hd
      obtain ⟨⟨⟨rfl, h1⟩, h2⟩, h3⟩ := hd
      obtain ⟨xs, m', _, rfl, hl, hxs, hf⟩ := DataW.trod_array hu h
      obtain ⟨ys, e1, e2, e3⟩ := chunks (R := RepC w (fun b o => MemPlace.cell b o ∈ xs.flatMap (·.2)) e) (Q := fits e) (s := e.size) m cs (by rw [hl, h2]) (fun i hi => by
        have hi2 := hf i hi
        rw [h1] at hi2
        have hlt : i < xs.length := by omega
        rw [List.getElem?_eq_getElem hlt] at hi2
        obtain ⟨y, y1, y2⟩ := trod_rep (τ := e) h3 hi2 (fun n hn => hw n (by
          have e : (DataW.agg (xs.map (·.1)) : DataW H).weights P t = DataW.weightsAll P te (xs.map (·.1)) := by simp only [DataW.weights, hu]
          rw [e]
          exact mem_weightsAll (List.mem_map.2 ⟨xs[i], List.getElem_mem hlt, rfl⟩) hn))
        exact ⟨y, y1.more (fun b o hb => List.mem_flatMap.2 ⟨xs[i], List.getElem_mem hlt, hb⟩), y2⟩)
      exact ⟨ys, ⟨e1, e2⟩, e1, e3⟩
    · cases hd
  | .slice e, t, fuel, cs, x, hd, h, hw => by
    unfold dOK at hd
    split at hd
    · rename_i te hu
      simp only [Bool.and_eq_true, beq_iff_eq, decide_eq_true_eq] at hd
      obtain ⟨⟨h1, h2⟩, h3⟩ := hd
      rcases DataW.trod_slice hu h with ⟨rfl, rfl⟩ | ⟨a, len, cap, elems, rest, n, _, rfl, rfl, hb, hl, hm, hlen, hel, _, _⟩
      · exact ⟨[], ⟨none, 0, rfl, Nat.le_refl _, .inl rfl⟩, Nat.zero_le _, fun y hy => by cases hy⟩
      · rw [h1] at hel ⊢
        have each : ∀ i, i < len → ∃ (y : e.I) (ci : List Value), RepC w (fun b o => MemPlace.cell b o ∈ MemPlace.row a ((elems.length + rest.length) * e.size) ++ (elems ++ rest).flatMap (·.2)) e y ci ∧ fits e y ∧ w.cells? base (a.add (i * e.size)) e.size = some ci := by
          intro i hi
          have hlt : i < elems.length := by omega
          have q := hel i hi
          rw [List.getElem?_eq_getElem hlt] at q
          obtain ⟨ci, q1, q2⟩ := Option.bind_eq_some_iff.1 q
          obtain ⟨y, y1, y2⟩ := trod_rep (τ := e) h3 q2 (fun n hn => hw n (by
            simp only [DataW.weights, hu, List.mem_cons, List.mem_append]
            exact .inr (.inl (mem_weightsAll (List.mem_map.2 ⟨elems[i], List.getElem_mem hlt, rfl⟩) hn))))
          exact ⟨y, ci, y1.more (fun b o hb => List.mem_append_right _ (List.mem_flatMap.2 ⟨elems[i], List.mem_append_left _ (List.getElem_mem hlt), hb⟩)), y2, q1⟩
        obtain ⟨ys, ds, e1, e2, e3, e4⟩ := rows_rep (w := w) (base := base) (a := a) (s := e.size) (R := RepC w (fun b o => MemPlace.cell b o ∈ MemPlace.row a ((elems.length + rest.length) * e.size) ++ (elems ++ rest).flatMap (·.2)) e) (Q := fits e) len each
        refine ⟨ys, ⟨some a, cap, by rw [e1], by rw [e1]; exact hl, ?_⟩, by rw [e1]; omega, e3⟩
        cases hys : ys with
        | nil => exact .inl rfl
        | cons y0 yt =>
          right
          rw [← hys]
          have hd0 : ds.length = ys.length * e.size := RepL.length (fun x c h => RepC.length h) e2
          have hpos : 0 < ds.length := by rw [hd0, hys, List.length_cons, Nat.succ_mul]; omega
          have hsp : a.spot = none := by
            have := e4 0 hpos
            unfold World.cell? at this
            cases hs : a.spot with
            | none => rfl
            | some q =>
              have hq : (a.add 0).spot.isSome = true := by unfold Addr.add; rw [if_pos rfl, hs]; rfl
              split at this
              · rw [hq] at this; simp at this
              · cases this
          obtain ⟨ab, ao, asp⟩ := a
          simp only at hsp
          subst hsp
          refine ⟨ab, ao, ds, rfl, e2, fun j hj => ⟨?_, ?_⟩⟩
          · have := e4 j hj
            rw [add_at] at this
            exact this
          · refine List.mem_append_left _ (List.mem_map.2 ⟨j, List.mem_range.2 ?_, rfl⟩)
            rw [hd0, e1, ← hlen] at hj
            rw [Nat.add_mul]
            omega
    · cases hd
theorem trodF_rep : ∀ {b : ETy} {o : Nat} {r : List Field} {xs : List (DataW H × List MemPlace)} {cs : List Value} {fuel : Nat}, dF P b o r = true → cs.length = o + b.size → xs.length = r.length →
    (∀ (i : Nat) (f : Field), r[i]? = some f → DataW.trod enc P w base spare held fuel f.type ((cs.drop f.offset).take (P.cellsOf f.type)) = xs[i]?) →
    (∀ (i : Nat) (f : Field) (x0 : DataW H × List MemPlace), r[i]? = some f → xs[i]? = some x0 → ∀ n ∈ x0.1.weights P f.type, n ≤ reachBytes) →
    ∃ y : b.I, RepC w (fun b' o' => MemPlace.cell b' o' ∈ xs.flatMap (·.2)) b y (cs.drop o) ∧ fits b y
  | .unit, o, r, xs, cs, fuel, hd, hl, _, _, _ => by
    refine ⟨(), ?_, trivial⟩
    show List.drop o cs = []
    rw [List.drop_eq_nil_of_le (by rw [hl]; exact Nat.le_refl _)]
  | .pair a b, o, [], xs, cs, fuel, hd, hl, hn, hf, hw => by unfold dF at hd; cases hd
  | .pair a b, o, f :: r, xs, cs, fuel, hd, hl, hn, hf, hw => by
    unfold dF at hd
    simp only [Bool.and_eq_true, beq_iff_eq] at hd
    obtain ⟨⟨⟨h1, h2⟩, h3⟩, h4⟩ := hd
    have hsz : (ETy.pair a b).size = a.size + b.size := rfl
    have h0 := hf 0 f rfl
    rw [h1, h2] at h0
    cases hx : xs with
    | nil =>
      rw [hx] at hn
      cases hn
    | cons x0 xs' =>
      rw [hx] at h0
      obtain ⟨y, y1, y2⟩ := trod_rep (τ := a) h3 (show _ = some x0 from h0) (hw 0 f x0 rfl (by rw [hx]; rfl))
      obtain ⟨z, z1, z2⟩ := trodF_rep (b := b) (o := o + a.size) (r := r) (xs := xs') (cs := cs) (fuel := fuel) h4 (by rw [hl, hsz]; omega) (by rw [hx] at hn; simpa using hn) (fun i g hg => by
        have := hf (i + 1) g (by simpa using hg)
        rw [this, hx]; rfl) (fun i g x1 hg hx1 => hw (i + 1) g x1 (by simpa using hg) (by rw [hx]; simpa using hx1))
      refine ⟨(y, z), ⟨(cs.drop o).take a.size, cs.drop (o + a.size), ?_, y1.more (fun b o hb => ?_), z1.more (fun b o hb => ?_)⟩, y2, z2⟩
      · rw [← List.drop_drop, List.take_append_drop]
      · exact List.mem_flatMap.2 ⟨x0, by simp, hb⟩
      · obtain ⟨q, q1, q2⟩ := List.mem_flatMap.1 hb
        exact List.mem_flatMap.2 ⟨q, List.mem_cons_of_mem _ q1, q2⟩
  | .int _, _, _, _, _, _, hd, _, _, _, _ | .bool, _, _, _, _, _, hd, _, _, _, _ | .str, _, _, _, _, _, hd, _, _, _, _ | .raw _, _, _, _, _, _, hd, _, _, _, _ | .arr _ _, _, _, _, _, _, hd, _, _, _, _ | .slice _, _, _, _, _, _, hd, _, _, _, _ => by
    unfold dF at hd; cases hd
end
end
end Go.Proofs.YtmmooplcdkmapaaGreatDoor.K

set_option maxHeartbeats 400000
set_option linter.unusedVariables false
set_option linter.unusedSimpArgs false
namespace Go.Proofs.YtmmooplcdkmapaaGreatDoor.K
open Go Go.RowKit Go.ChangeShapes Go.WideShapes

/-- Arguments, one behind the other. -/
@[reducible] def Args : List ETy → Type
  | [] => Unit
  | τ :: r => τ.I × Args r
def avsOf : (l : List ETy) → Args l → List AV
  | [], _ => []
  | τ :: r, x => .v τ x.1 :: avsOf r x.2
def fitsA : (l : List ETy) → Args l → Prop
  | [], _ => True
  | τ :: r, x => fits τ x.1 ∧ fitsA r x.2
def dOKs (P : Program) : List ETy → List TypeId → Bool
  | [], [] => true
  | τ :: r, t :: ts => dOK P τ t && dOKs P r ts
  | _, _ => false

section
variable {H : Type} {enc : TypeId × Value → H} {P : Program} {w : World}

theorem val_of_cells {r : Reach} {b : Nat} {τ : ETy} {t : TypeId} {v : Value} (hd : dOK P τ t = true) (hv : Value.okWide P w r b t v) : v = valOf τ v.cells.toList := by
  cases τ with
  | int k =>
    unfold dOK at hd; split at hd
    · rename_i hu; obtain ⟨n, rfl⟩ := okWide_int hu hv; rfl
    · cases hd
  | bool =>
    unfold dOK at hd; split at hd
    · rename_i hu; obtain ⟨n, rfl⟩ := okWide_bool hu hv; rfl
    · cases hd
  | str =>
    unfold dOK at hd; split at hd
    · rename_i hu; obtain ⟨n, rfl⟩ := okWide_string hu hv; rfl
    · cases hd
  | raw k => unfold dOK at hd; cases hd
  | slice e =>
    unfold dOK at hd; split at hd
    · rename_i hu; obtain ⟨a, len, cap, rfl⟩ := okWide_slice hu hv; rfl
    · cases hd
  | unit =>
    unfold dOK at hd; split at hd
    · rename_i hu; obtain ⟨cs, rfl, _⟩ := okWide_struct hu hv; rfl
    · cases hd
  | pair a b =>
    unfold dOK at hd; split at hd
    · rename_i hu; obtain ⟨cs, rfl, _⟩ := okWide_struct hu hv; rfl
    · cases hd
  | arr n e =>
    unfold dOK at hd; split at hd
    · rename_i hu
      unfold Value.okWide at hv
      rw [hu] at hv
      obtain ⟨cs, rfl, _⟩ := hv
      rfl
    · cases hd

theorem RepAs.more {S S' : Nat → Nat → Prop} (hs : ∀ b o, S b o → S' b o) : ∀ {l : List ETy} {xs : Args l} {us : List Value}, RepAs m0 [] w S (avsOf l xs) us → RepAs m0 [] w S' (avsOf l xs) us
  | [], xs, us, h => by simp only [avsOf, RepAs] at h ⊢; exact h
  | τ :: r, xs, us, h => by
    simp only [avsOf, RepAs] at h ⊢
    obtain ⟨u, q, rfl, h1, h2⟩ := h
    rw [rep_v] at h1
    obtain ⟨cs, h3, h4⟩ := h1
    exact ⟨u, q, rfl, by rw [rep_v]; exact ⟨cs, h3.more hs, h4⟩, RepAs.more hs h2⟩

theorem args_rep {r0 : Reach} {b0 : Nat} {base : Nat} {spare : Nat → Bool} {held : Bool} : ∀ {l : List ETy} {ts : List TypeId} {vs : List Value} {ds : List (DataW H)} {ps : List MemPlace}, dOKs P l ts = true → (∀ (j : Nat) t v, ts[j]? = some t → vs[j]? = some v → Value.okWide P w r0 b0 t v) → DataW.TrodAll enc P w base spare held ts vs ds ps → (∀ n ∈ DataW.weightsEach P ts ds, n ≤ reachBytes) →
    ∃ xs : Args l, RepAs m0 [] w (fun b o => MemPlace.cell b o ∈ ps) (avsOf l xs) vs ∧ fitsA l xs
  | [], [], vs, ds, ps, _, _, h, _ => by
    obtain ⟨rfl, rfl, rfl⟩ := trodAll_nil h
    exact ⟨(), by simp only [avsOf, RepAs], trivial⟩
  | τ :: r, t :: ts, vs, ds, ps, hd, hv, h, hw => by
    simp only [dOKs, Bool.and_eq_true] at hd
    obtain ⟨v, vs1, d, ds1, a, b, rfl, rfl, rfl, ⟨fuel, h1⟩, h2⟩ := trodAll_cons h
    obtain ⟨y, y1, y2⟩ := trod_rep hd.1 h1 (fun n hn => hw n (by simp only [DataW.weightsEach, List.mem_append]; exact .inl hn))
    obtain ⟨xs, x1, x2⟩ := args_rep hd.2 (fun j t' v' h1 h2 => hv (j + 1) t' v' (by simpa using h1) (by simpa using h2)) h2 (fun n hn => hw n (by simp only [DataW.weightsEach, List.mem_append]; exact .inr hn))
    refine ⟨(y, xs), ?_, y2, x2⟩
    simp only [avsOf, RepAs]
    refine ⟨v, vs1, rfl, ?_, RepAs.more (fun b o hb => List.mem_append_right _ hb) x1⟩
    rw [rep_v]
    have hv : v = valOf τ v.cells.toList := val_of_cells hd.1 (hv 0 t v rfl rfl)
    exact ⟨v.cells.toList, y1.more (fun b o hb => List.mem_append_left _ hb), hv⟩
  | [], _ :: _, _, _, _, hd, _, _, _ => by cases hd
  | _ :: _, [], _, _, _, hd, _, _, _ => by cases hd

theorem below_all (hl : laidOutB P = true) {W W' : World} (hb : Below W.heap.size W W') : ∀ {ts : List TypeId} {vs : List Value} {ds : List (DataW H)} {ps : List MemPlace}, (ts.all fun t => P.readableRec t && decide (t < P.types.size)) = true →
    DataW.TrodAll enc P W 0 (fun _ => true) true ts vs ds ps → (∀ x ∈ ps, x.block < W.heap.size) → DataW.TrodAll enc P W' 0 (fun b => decide (b < W.heap.size)) true ts vs ds ps
  | [], vs, ds, ps, _, h, _ => by
    obtain ⟨rfl, rfl, rfl⟩ := trodAll_nil h
    exact trodAll_mk0
  | t :: ts, vs, ds, ps, hr, h, hlt => by
    simp only [List.all_cons, Bool.and_eq_true, decide_eq_true_eq] at hr
    obtain ⟨v, vs1, d, ds1, a, b, rfl, rfl, rfl, h1, h2⟩ := trodAll_cons h
    exact ⟨a, b, Below.trod hl hr.1.1 hr.1.2 h1 hb (fun x hx => hlt x (List.mem_append_left _ hx)), below_all hl hb hr.2 h2 (fun x hx => hlt x (List.mem_append_right _ hx)), rfl⟩
end

theorem GlobOK.more {C : Cfg} {B : Nat} {w : World} {S S' : Nat → Nat → Prop} (h : GlobOK C B w S) (hs : ∀ b o, S b o → S' b o) : GlobOK C B w S' :=
  ⟨fun g d hg => by
    obtain ⟨h1, cs, el, fr, h2, h3, h4⟩ := h.tab g d hg
    exact ⟨h1, cs, el, fr, h2, h3.more hs, fun j hj => hs _ _ (h4 j hj)⟩, fun g hg => by
    obtain ⟨h1, h2, h3⟩ := h.any g hg
    exact ⟨h1, h2, hs _ _ h3⟩⟩

/-- A law, called: it returns true, and nothing of what was there is turned. -/
theorem law_calls {r0 : Reach} {b0 : Nat} {H : Type} {enc : TypeId × Value → H} {C : Cfg} {f : FuncId} {l : List ETy} {ts : List TypeId} {vs : List Value} {ds : List (DataW H)} {p : List MemPlace} {W : World} {S0 : Nat → Nat → Prop}
    (hG : GlobOK C W.heap.size W S0) (hS : ∀ b o, S0 b o → b < W.heap.size) (hd : dOKs C.P l ts = true) (hl : laidOutB C.P = true) (hr : (ts.all fun t => C.P.readableRec t && decide (t < C.P.types.size)) = true)
    (hc : ∀ xs : Args l, fitsA l xs → Contract C f (avsOf l xs) (.v .bool true)) (hv : ∀ (j : Nat) t v, ts[j]? = some t → vs[j]? = some v → Value.okWide C.P W r0 b0 t v) (hA : DataW.TrodAll enc C.P W 0 (fun _ => true) true ts vs ds p) (hlt : ∀ x ∈ p, x.block < W.heap.size) (hw : ∀ n ∈ DataW.weightsEach C.P ts ds, n ≤ reachBytes) :
    Calls C.P f vs.toArray W fun e W' => e = .returned (.bool true) ∧ Below W.heap.size W W' ∧ DataW.TrodAll enc C.P W' 0 (fun b => decide (b < W.heap.size)) true ts vs ds p := by
  obtain ⟨xs, h1, h2⟩ := args_rep hd hv hA hw
  refine ((hc xs h2).runs W (fun b o => S0 b o ∨ MemPlace.cell b o ∈ p) vs ?_ (hG.more fun b o h => .inl h) (RepAs.more (fun b o h => .inr h) h1)).mono ?_
  · intro b o h
    rcases h with h | h
    · exact hS b o h
    · exact hlt _ h
  · rintro e W' ⟨u, S', rfl, hb, _, _, hu⟩
    rw [rep_bool] at hu
    subst hu
    exact ⟨rfl, hb, below_all hl hb hr hA hlt⟩
end Go.Proofs.YtmmooplcdkmapaaGreatDoor.K

set_option maxHeartbeats 400000
set_option linter.unusedVariables false
set_option linter.unusedSimpArgs false
namespace Go.Proofs.YtmmooplcdkmapaaGreatDoor.K
open Go Go.RowKit

/-- The cells of a datum with nothing behind it. -/
def cellsI : (τ : ETy) → τ.I → List Value
  | .int k, n => [.int k n]
  | .bool, b => [.bool b]
  | .str, s => [.string s]
  | .raw _, x => [x]
  | .unit, _ => []
  | .pair a b, x => cellsI a x.1 ++ cellsI b x.2
  | .arr n e, xs => List.flatMap (cellsI e) xs
  | .slice _, _ => []
def okI : (τ : ETy) → τ.I → Bool
  | .int _, _ => true
  | .bool, _ => true
  | .str, _ => true
  | .raw _, _ => false
  | .unit, _ => true
  | .pair a b, x => okI a x.1 && okI b x.2
  | .arr n e, xs => List.length xs == n && List.all xs (okI e)
  | .slice _, _ => false
theorem rep_cells {w : World} {S : Nat → Nat → Prop} : ∀ (τ : ETy) (x : τ.I), okI τ x = true → RepC w S τ x (cellsI τ x)
  | .int k, n, _ => rfl
  | .bool, b, _ => rfl
  | .str, s, _ => rfl
  | .raw _, x, h => by cases h
  | .unit, _, _ => rfl
  | .pair a b, x, h => by
    simp only [okI, Bool.and_eq_true] at h
    exact ⟨_, _, rfl, rep_cells a x.1 h.1, rep_cells b x.2 h.2⟩
  | .arr n e, xs, h => by
    simp only [okI, Bool.and_eq_true, beq_iff_eq, List.all_eq_true] at h
    refine ⟨h.1, ?_⟩
    have key : ∀ l : List e.I, (∀ x ∈ l, okI e x = true) → RepL (RepC w S e) l (List.flatMap (cellsI e) l) := by
      intro l
      induction l with
      | nil => intro _; rfl
      | cons y l ih => intro hl; exact ⟨_, _, List.flatMap_cons, rep_cells e y (hl y (by simp)), ih fun z hz => hl z (List.mem_cons_of_mem _ hz)⟩
    exact key xs h.2
  | .slice _, _, h => by cases h

def flatT : ETy → Bool
  | .raw _ => false
  | .slice _ => false
  | .pair a b => flatT a && flatT b
  | .arr _ e => flatT e
  | _ => true
/-- The cells that a laid datum tells. -/
def flatL : ETy → DataW Unit → List Value
  | .int _, .lit x => [x.toCell]
  | .bool, .lit x => [x.toCell]
  | .str, .lit x => [x.toCell]
  | .pair a b, .agg (d :: ds) => flatL a d ++ flatL b (.agg ds)
  | .arr _ e, .agg ds => ds.flatMap (flatL e)
  | _, _ => []

theorem chunks_flat {α : Type} {f : α → List Value} {s : Nat} : ∀ (xs : List α) (cs : List Value), cs.length = xs.length * s → (∀ i (h : i < xs.length), (cs.drop (i * s)).take s = f xs[i]) → cs = xs.flatMap f
  | [], cs, hl, _ => List.eq_nil_of_length_eq_zero (by simpa using hl)
  | x :: xs, cs, hl, h => by
    have h0 := h 0 (by simp)
    have hr := chunks_flat (f := f) (s := s) xs (cs.drop s) (by rw [List.length_drop, hl, List.length_cons, Nat.succ_mul]; omega) (fun i hi => by
      have := h (i + 1) (by simpa using hi)
      rw [List.drop_drop, show s + i * s = (i + 1) * s by rw [Nat.succ_mul]; omega]
      simpa using this)
    rw [List.flatMap_cons, ← hr]
    have h0' : cs.take s = f x := by simpa using h0
    rw [← h0', List.take_append_drop]

section
variable {P : Program} {w : World} {base : Nat} {spare : Nat → Bool} {held : Bool}
mutual
theorem trod_flat : ∀ {τ : ETy} {t : TypeId} {fuel : Nat} {cs : List Value} {x : DataW Unit × List MemPlace}, dOK P τ t = true → flatT τ = true → DataW.trod (fun _ => ()) P w base spare held fuel t cs = some x → cs = flatL τ x.1
  | .int k, t, fuel, cs, x, hd, _, h => by
    unfold dOK at hd
    split at hd
    · rename_i k' hu
      obtain ⟨n, rfl, rfl, hw⟩ := DataW.trod_int hu h
      rfl
    · cases hd
  | .bool, t, fuel, cs, x, hd, _, h => by
    unfold dOK at hd
    split at hd
    · rename_i hu
      obtain ⟨b, rfl, rfl⟩ := DataW.trod_bool hu h
      rfl
    · cases hd
  | .str, t, fuel, cs, x, hd, _, h => by
    unfold dOK at hd
    split at hd
    · rename_i hu
      obtain ⟨b, rfl, rfl, hs⟩ := DataW.trod_string hu h
      simp [flatL, Lit.toCell]
    · cases hd
  | .raw k, t, fuel, cs, x, hd, _, h => by unfold dOK at hd; cases hd
  | .slice e, t, fuel, cs, x, _, hf, h => by cases hf
  | .unit, t, fuel, cs, x, hd, _, h => by
    unfold dOK at hd
    split at hd
    · rename_i fs hu
      simp only [Bool.and_eq_true, beq_iff_eq] at hd
      obtain ⟨xs, n, _, rfl, hl, _⟩ := DataW.trod_struct hu h
      have e : cs = [] := List.eq_nil_of_length_eq_zero (by rw [hl, hd.1])
      rw [e]
      simp [flatL]
    · cases hd
  | .pair a b, t, fuel, cs, x, hd, hf, h => by
    unfold dOK at hd
    split at hd
    · rename_i fs hu
      simp only [Bool.and_eq_true, beq_iff_eq] at hd
      obtain ⟨xs, n, _, rfl, hl, hxs, hfs⟩ := DataW.trod_struct hu h
      have := trodF_flat (b := .pair a b) (o := 0) (r := fs.toList) (xs := xs) (cs := cs) (fuel := n) (dF_of hd.2) hf (by rw [hl, hd.1, Nat.zero_add]; rfl) (by rw [hxs, Array.length_toList]) (fun i f hi => by
        simpa using hfs i f (by simpa using hi))
      simpa using this
    · cases hd
  | .arr n e, t, fuel, cs, x, hd, hf, h => by
    unfold dOK at hd
    split at hd
    · rename_i m te hu
      simp only [Bool.and_eq_true, beq_iff_eq] at hd
      obtain ⟨⟨⟨rfl, h1⟩, h2⟩, h3⟩ := hd
      obtain ⟨xs, m', _, rfl, hl, hxs, hfs⟩ := DataW.trod_array hu h
      have := chunks_flat (f := fun y : DataW Unit × List MemPlace => flatL e y.1) (s := e.size) xs cs (by rw [hl, h2, hxs]) (fun i hi => by
        have hi2 := hfs i (by omega)
        rw [h1, List.getElem?_eq_getElem hi] at hi2
        exact trod_flat (τ := e) h3 hf hi2)
      rw [this]
      simp only [flatL, List.flatMap_map]
    · cases hd
theorem trodF_flat : ∀ {b : ETy} {o : Nat} {r : List Field} {xs : List (DataW Unit × List MemPlace)} {cs : List Value} {fuel : Nat}, dF P b o r = true → flatT b = true → cs.length = o + b.size → xs.length = r.length →
    (∀ (i : Nat) (f : Field), r[i]? = some f → DataW.trod (fun _ => ()) P w base spare held fuel f.type ((cs.drop f.offset).take (P.cellsOf f.type)) = xs[i]?) → cs.drop o = flatL b (.agg (xs.map (·.1)))
  | .unit, o, r, xs, cs, fuel, hd, _, hl, _, _ => by
    rw [List.drop_eq_nil_of_le (by rw [hl]; exact Nat.le_refl _)]
    simp [flatL]
  | .pair a b, o, [], xs, cs, fuel, hd, _, hl, hn, hf => by unfold dF at hd; cases hd
  | .pair a b, o, f :: r, xs, cs, fuel, hd, ht, hl, hn, hf => by
    unfold dF at hd
    simp only [Bool.and_eq_true, beq_iff_eq] at hd
    obtain ⟨⟨⟨h1, h2⟩, h3⟩, h4⟩ := hd
    simp only [flatT, Bool.and_eq_true] at ht
    have hsz : (ETy.pair a b).size = a.size + b.size := rfl
    have h0 := hf 0 f rfl
    rw [h1, h2] at h0
    cases hx : xs with
    | nil => rw [hx] at hn; cases hn
    | cons x0 xs' =>
      rw [hx] at h0
      have q1 := trod_flat (τ := a) h3 ht.1 (show _ = some x0 from h0)
      have q2 := trodF_flat (b := b) (o := o + a.size) (r := r) (xs := xs') (cs := cs) (fuel := fuel) h4 ht.2 (by rw [hl, hsz]; omega) (by rw [hx] at hn; simpa using hn) (fun i g hg => by
        have := hf (i + 1) g (by simpa using hg)
        rw [this, hx]; rfl)
      simp only [List.map_cons, flatL]
      rw [← q1, ← q2, ← List.drop_drop, List.take_append_drop]
  | .int _, _, _, _, _, _, hd, _, _, _, _ | .bool, _, _, _, _, _, hd, _, _, _, _ | .str, _, _, _, _, _, hd, _, _, _, _ | .raw _, _, _, _, _, _, hd, _, _, _, _ | .arr _ _, _, _, _, _, _, hd, _, _, _, _ | .slice _, _, _, _, _, _, hd, _, _, _, _ => by
    unfold dF at hd; cases hd
end

theorem laid_at {n : String} {d : DataW Unit} : ∀ {l : List (String × DataW Unit)} {ps : List MemPlace}, (n, d) ∈ l → DataW.LaidVars P w l ps →
    ∃ g t cs fuel p, P.globalNamed n = some g ∧ (P.globals[g]?).map (·.type) = some t ∧ w.var? P n = some cs ∧ DataW.trod (fun _ => ()) P w 0 (fun _ => true) false fuel t cs.toList = some (d, p)
  | [], ps, h, _ => by cases h
  | (n', d') :: l, ps, h, hl => by
    obtain ⟨g, t, cs, fuel, p, q, h1, h2, h3, h4, h5, _⟩ := hl
    rcases List.mem_cons.1 h with e | h
    · cases e; exact ⟨g, t, cs, fuel, p, h1, h2, h3, h4⟩
    · exact laid_at h h5

/-- A table of a row's list, as data. -/
theorem tab_laid {n : String} {d : DataW Unit} {l : List (String × DataW Unit)} {g : Nat} {t : TypeId} {τ : ETy} {x : τ.I} (hm : (n, d) ∈ l) (h : laidMet P l w) (hg : P.globalNamed n = some g) (ht : (P.globals[g]?).map (·.type) = some t)
    (hd : dOK P τ t = true) (hf : flatT τ = true) (hx : okI τ x = true) (he : flatL τ d = cellsI τ x) : ∃ cs el fr, w.heap[g]? = some (.cells (cs : List Value).toArray el fr) ∧ ∀ S, RepC w S τ x cs := by
  obtain ⟨ps, hl, _⟩ := h
  obtain ⟨g', t', cs, fuel, p, h1, h2, h3, h4⟩ := laid_at hm hl
  rw [hg] at h1; cases h1
  rw [ht] at h2; cases h2
  have hcs := trod_flat hd hf h4
  unfold World.var? at h3
  rw [hg] at h3
  simp only [Option.bind_some] at h3
  split at h3
  · rename_i cs' el fr hh
    cases h3
    refine ⟨cs.toList, el, fr, by simpa using hh, fun S => ?_⟩
    rw [hcs]
    show RepC w S τ x (flatL τ d)
    rw [he]
    exact rep_cells τ x hx
  · cases h3
end

theorem glob_of {C : Cfg} {W : World} (h : ∀ g d, C.G g = some d → ∃ cs el fr, W.heap[g]? = some (.cells (cs : List Value).toArray el fr) ∧ ∀ S, RepC W S d.τ d.x cs)
    (hm : ∀ g, C.M g = true → ∃ n, W.cell? ⟨g, 0, none⟩ = some (.int .i64 n)) :
    GlobOK C W.heap.size W (fun b _ => ((C.G b).isSome = true ∨ C.M b = true) ∧ b < W.heap.size) := by
  refine ⟨fun g d hg => ?_, fun g hg => ?_⟩
  · obtain ⟨cs, el, fr, h1, h2⟩ := h g d hg
    have hlt : g < W.heap.size := (Array.getElem?_eq_some_iff.1 h1).1
    exact ⟨hlt, cs, el, fr, h1, h2 _, fun j _ => ⟨.inl (by rw [hg]; rfl), hlt⟩⟩
  · obtain ⟨n, hn⟩ := hm g hg
    have hlt : g < W.heap.size := by
      unfold World.cell? at hn
      split at hn
      · rename_i hh; exact (Array.getElem?_eq_some_iff.1 hh).1
      · cases hn
    exact ⟨hlt, ⟨n, hn⟩, .inr hg, hlt⟩

theorem trodAll_len {H : Type} {enc : TypeId × Value → H} {P : Program} {w : World} {base : Nat} {spare : Nat → Bool} {held : Bool} : ∀ {ts : List TypeId} {vs : List Value} {ds : List (DataW H)} {ps : List MemPlace}, DataW.TrodAll enc P w base spare held ts vs ds ps → ds.length = ts.length
  | [], vs, ds, ps, h => by obtain ⟨rfl, rfl, rfl⟩ := Go.ChangeShapes.trodAll_nil h; rfl
  | t :: ts, vs, ds, ps, h => by
    obtain ⟨v, vs1, d, ds1, a, b, rfl, rfl, rfl, _, h2⟩ := Go.ChangeShapes.trodAll_cons h
    simp [trodAll_len h2]
theorem whole_len {H : Type} {enc : TypeId × Value → H} {P : Program} {ts : List TypeId} {vars : List String} {apart : Bool} {w : World} {vs : List Value} {ds gs : List (DataW H)} {ps : List MemPlace} (h : DataW.Whole enc P ts vars apart w vs ds gs ps) : ds.length = ts.length := by
  obtain ⟨p, q, h1, _⟩ := h
  exact trodAll_len h1
theorem weights_front {H : Type} {P : Program} : ∀ {ts ts' : List TypeId} {ds gs : List (DataW H)}, ds.length = ts.length → (DataW.weightsEach P (ts ++ ts') (ds ++ gs)).all (· ≤ reachBytes) = true → ∀ n ∈ DataW.weightsEach P ts ds, n ≤ reachBytes
  | [], ts', [], gs, _, _, n, hn => by simp [DataW.weightsEach] at hn
  | t :: ts, ts', d :: ds, gs, hl, h, n, hn => by
    simp only [List.cons_append, DataW.weightsEach, List.all_append, Bool.and_eq_true] at h
    simp only [DataW.weightsEach, List.mem_append] at hn
    rcases hn with hn | hn
    · have := List.all_eq_true.1 h.1 n hn
      simpa using this
    · exact weights_front (by simpa using hl) h.2 n hn
  | [], _, _ :: _, _, hl, _, _, _ => by cases hl
  | _ :: _, _, [], _, hl, _, _, _ => by cases hl
/-- The wrap of a row that lists variables, the world's shape kept. -/
theorem returns_shaped {H : Type} {enc : TypeId × Value → H} {a : Assume} {C : Checked} {os : Os} {f : FuncId} {fn : Func} {s : ChangeSpec} {conds : List PathCond} {apart fresh handsOn again : Bool} {X : World → Array Value → Prop}
    (hX : ∀ (w w' : World) (args : Array Value), w.heap = w'.heap → X w args → X w' args)
    (own : ownKnob C.prog.godebug = none) (started : os.Started) (noInit : C.prog.inits.idxOf? f = none) (hfn : C.prog.funcs[f]? = some fn)
    (witness : ∃ (w : World) (tape : Tape) (i : Input), w.os = os ∧ (w.forCall tape i).Shaped C.prog ∧ i.vars = [] ∧ Input.okWide C.prog (w.forCall tape i) .any w.heap.size f i ∧
      ((s.pre enc C.prog fn conds apart (w.forCall tape i).memory i.args ∧ X (w.forCall tape i).memory i.args) ∧ sizedMet enc C.prog fn (OpenSpec.ofChange s) apart (w.forCall tape i).memory i.args) ∧ a.holds C.prog (lone (Frame.enter C.prog f i.args .normal) [] (w.forCall tape i)))
    (contract : ∀ (W : World) (base : Nat) (args : Array Value) (ds gs : List (DataW H)) (before : List MemPlace),
      (∀ (j : Nat) t v, fn.params[j]? = some t → args[j]? = some v → Value.okWide C.prog W .any base t v) →
      DataW.Whole enc C.prog fn.params.toList s.vars apart W args.toList ds gs before → X W args → W.ShapedOpen C.prog → (∀ n ∈ DataW.weightsEach C.prog fn.params.toList ds, n ≤ reachBytes) →
      Calls C.prog f args W fun e W' => ∃ v, e = .returned v ∧ s.post enc C.prog fn apart fresh handsOn again W args v W') :
    ReturnsInHanded a C os f .any (fun w args => (s.pre enc C.prog fn conds apart w args ∧ X w args) ∧ sizedMet enc C.prog fn (OpenSpec.ofChange s) apart w args) (s.post enc C.prog fn apart fresh handsOn again) := by
  refine returnsInHanded_of_calls own started noInit witness ?_
  intro w tape i _ hsh _ hok hpre hholds
  obtain ⟨_, _, _, fn', hfn', _, _, _, _, hval⟩ := hok
  have e : fn' = fn := Option.some.inj (hfn'.symm.trans hfn)
  subst e
  obtain ⟨⟨⟨ds, gs, before, hw, hc⟩, hx⟩, hz⟩ := hpre
  have hw' := DataW.Whole.of_heap (w' := w.forCall tape i) (by rfl) hw
  refine (contract (w.forCall tape i) w.heap.size i.args ds gs before hval hw' (hX _ _ _ (by rfl) hx) hsh (weights_front (whole_len hw) (hz.weights hw))).mono fun e W' ⟨v, he, hp⟩ => ?_
  subst he
  exact ChangeSpec.post_blind hp
end Go.Proofs.YtmmooplcdkmapaaGreatDoor.K

set_option maxHeartbeats 400000
set_option linter.unusedVariables false
set_option linter.unusedSimpArgs false
namespace Go.Proofs.YtmmooplcdkmapaaGreatDoor.K
open Go Go.RowKit

section
variable {Ω : Type} {C : Cfg}

theorem Contract.withY {f : FuncId} {args : List AV} {av : AV} (h : Contract C f args av) (Y : Nat → Bool) : Contract { C with Y := Y } f args av where
  enters := h.enters
  runs w S us hlt hG hr := h.runs w S us hlt ⟨hG.tab, hG.any⟩ hr
theorem SpecOK.withY {spec : Spec} (h : SpecOK C spec) (Y : Nat → Bool) : SpecOK { C with Y := Y } spec :=
  ⟨fun g bs k r hk => by
    obtain ⟨av, h1, h2⟩ := h.con g bs k r hk
    exact ⟨av, h1, h2.withY Y⟩, fun g as L k r hk => by
    obtain ⟨av, L', h1, h2⟩ := h.inl g as L k r hk
    exact ⟨av, L', h1, h2.enters, h2.keeps, fun B m w S us hI hG hr => h2.runs B m w S us hI ⟨hG.tab, hG.any⟩ hr⟩⟩

theorem runRel_keeps {ops : Array Oper} {env' : List AV} {L' : Heap} {j : Nat} : ∀ {l : List Oper} {id : Nat} {env : List AV} {L : Heap}, RunRel C ops (withIds l id) env L env' L' → j < id → L[j]? = some .resv → L'[j]? = some .resv
  | [], id, env, L, h, _, hr => by obtain ⟨_, rfl⟩ := h; exact hr
  | o :: l, id, env, L, h, hj, hr => by
    obtain ⟨env1, L1, h1, h2⟩ := h
    refine runRel_keeps h2 ?_ (h1.keeps (fun _ => by omega) hr)
    unfold nextId
    cases wantsId o.op <;> simp <;> omega
theorem runD_keeps {ops : Array Oper} {env' : List AV} {L' : Heap} {j : Nat} : ∀ {l : List It} {env : List AV} {L : Heap}, RunD C ops l env L env' L' → (∀ t ∈ l, j < t.id) → L[j]? = some .resv → L'[j]? = some .resv
  | [], env, L, h, _, hr => by obtain ⟨_, rfl⟩ := h; exact hr
  | t :: l, env, L, h, hj, hr => by
    have ht := hj t (by simp)
    rcases h with ⟨av, L1, _, h1, h2⟩ | ⟨_, env1, L1, h1, h2⟩
    · exact runD_keeps h2 (fun s hs => hj s (by simp [hs])) (h1.rel.keeps (fun _ => by omega) hr)
    · exact runD_keeps h2 (fun s hs => hj s (by simp [hs])) (h1.keeps (fun _ => by omega) hr)
theorem regRel_keeps {ops : Array Oper} {draw : Bool} {env env' : List AV} {L L' : Heap} {j : Nat} (h : RegRel C ops draw env L env' L') (hr : L[j]? = some .resv) : L'[j]? = some .resv := by
  have hj := (List.getElem?_eq_some_iff.1 hr).1
  have hr1 : (L ++ List.replicate (cntIds ops.toList) Slot.resv)[j]? = some .resv := by rw [List.getElem?_append_left hj]; exact hr
  unfold RegRel at h
  cases draw with
  | false =>
    simp only [Bool.false_eq_true, if_false] at h
    exact runRel_keeps h hj hr1
  | true =>
    simp only [if_true] at h
    obtain ⟨fs, _, h1⟩ := h
    refine runD_keeps h1 (fun t ht => ?_) hr1
    obtain ⟨_, _, q, _⟩ := items_at ht
    omega

theorem frzL_keeps {j : Nat} : ∀ (fz : List Nat) (env : List AV) (L : Heap), L[j]? = some .resv → (frzL fz env L).2[j]? = some .resv
  | [], env, L, h => h
  | t :: ts, env, L, h => by
    unfold frzL
    split
    · split
      · exact frzL_keeps ts _ _ (mark1_keeps h)
      · exact frzL_keeps ts env L h
    · exact frzL_keeps ts env L h
mutual
/-- What is reserved stays so. -/
theorem CodeRel.keeps {c : Code} {env : List AV} {L : Heap} {e : Ex} {env' : List AV} {L' : Heap} {j : Nat} : CodeRel C c env L e env' L' → L[j]? = some .resv → L'[j]? = some .resv
  | .skip, h => h
  | .label, h => h
  | .exit, h => h
  | .ret, h => h
  | .region hr, h => regRel_keeps hr h
  | .seqN h1 h2, h => h2.keeps (h1.keeps h)
  | .seqX h1 _, h => h1.keeps h
  | .cond _ h1, h => h1.keeps h
  | .blockHit h1, h => h1.keeps h
  | .blockOut h1 _, h => h1.keeps h
  | .scope h1, h => h1.keeps h
  | .loop h1, h => h1.keeps (List.getElem?_eq_some_iff.1 h).1 (frzL_keeps _ _ _ h)
theorem LoopRel.keeps {c : Code} {mask : List Bool} {h0 : Nat} {env : List AV} {L : Heap} {e : Ex} {env' : List AV} {L' : Heap} {j : Nat} : LoopRel C c mask h0 env L e env' L' → j < h0 → L[j]? = some .resv → L'[j]? = some .resv
  | .stop h1 _, _, h => h1.keeps h
  | .more h1 h2, hj, h => h2.keeps hj (get_cut (frzL_keeps _ _ _ (h1.keeps h)) hj)
end
end

/-- What a walked call's function gives, in the caller's blocks. -/
def finI {Ω : Type} (C : Cfg) (fn : Func) (k : AV → Heap → Option Ω) : Kont Ω
  | .exit _, _, _ => none
  | .normal, env, L => (resL C env L fn.results.toList).bind fun as => k (tupA as) L
  | .ret, env, L => (resL C env L fn.results.toList).bind fun as => k (tupA as) L
abbrev Cfg.at (C : Cfg) (L : Heap) : Cfg := { C with Y := fun i => decide (L.length ≤ i) }
def evInl {Ω : Type} (C : Cfg) (spec : Spec) (fuel : Fuel) (fn : Func) (c : Code) (as : List AV) (L : Heap) (k : AV → Heap → Option Ω) : Option Ω :=
  evCode (C.at L) spec fuel c (as ++ List.replicate (fn.ntmps - as.length) .dead) L (finI (C.at L) fn k)

section
variable {Ω : Type} {C : Cfg} {spec : Spec}
theorem inl_does (hC : C.OK) (hS : SpecOK C spec) {fuel : Fuel} {g : FuncId} {fn : Func} {c : Code} (hf : C.P.funcs[g]? = some fn) (hb : fn.body = some c) (hn : (fn.name == "runtime.NumGoroutine") = false)
    {as : List AV} {L : Heap} {k : AV → Heap → Option Ω} {r : Ω} (h : evInl C spec fuel fn c as L k = some r) : ∃ av L', k av L' = some r ∧ CallDoes C g as L av L' := by
  unfold evInl at h
  have hC' : (C.at L).OK := ⟨hC.ty, hC.mixed, hC.ob⟩
  obtain ⟨e, env', L', h1, h2⟩ := evCode_rel (hS.withY _) h
  have h3 : ∃ rs, resL (C.at L) env' L' fn.results.toList = some rs ∧ k (tupA rs) L' = some r ∧ ∀ i, e ≠ .exit i := by
    cases e with
    | exit i => cases h2
    | normal => obtain ⟨rs, p, q⟩ := Option.bind_eq_some_iff.1 h2; exact ⟨rs, p, q, by simp⟩
    | ret => obtain ⟨rs, p, q⟩ := Option.bind_eq_some_iff.1 h2; exact ⟨rs, p, q, by simp⟩
  obtain ⟨rs, h4, h5, hne⟩ := h3
  refine ⟨tupA rs, L', h5, ⟨fun us w => ?_, fun j hj => h1.keeps hj, fun B m w S us hI hG hrep => ?_⟩⟩
  · have hpn : (program.run C.P w : Result Program) = .ok C.P w := rfl
    simp only [callFunc, Sem.run_bind, hpn, Result.andThen_ok, hf, hn, hb, Bool.false_eq_true, if_false, Option.isNone_some, Sem.run_pure]
  · refine calls_of_wp hf hb ?_
    have hlen := repAs_len hrep
    have hst : St (C.at L) B w S m L (as ++ List.replicate (fn.ntmps - as.length) .dead) L { tmps := us.toArray ++ Array.replicate (fn.ntmps - us.toArray.size) undef, defers := [] } w := by
      refine ⟨m, S, hI, ⟨by simp [hlen], fun t => ?_⟩, ⟨hG.tab, hG.any⟩, Below.refl _ _, Safe.refl _ _, fun _ _ h => .inl h, Ext.refl _ _ _, rfl⟩
      have := repAs_getD (fn.ntmps - as.length) hrep t
      rw [List.getD_eq_getElem?_getD (l := us ++ _)] at this
      have harr : us.toArray ++ Array.replicate (fn.ntmps - us.toArray.size) undef = (us ++ List.replicate (fn.ntmps - us.length) undef).toArray := by apply Array.ext'; simp
      show RepA m L w S _ ((us.toArray ++ Array.replicate (fn.ntmps - us.toArray.size) undef).getD t undef)
      rw [harr, Array.getD_eq_getD_getElem?, List.getElem?_toArray, ← hlen]
      exact this
    refine code_wp hC' h1 _ w _ hst ?_
    intro a' w' hst'
    obtain ⟨m', S', hI', hE, hG', hbel, hsafe, hnew, hx, hd⟩ := hst'
    have hpost : a'.defers = [] ∧ ∃ v, (results fn a'.tmps).run C.P w' = .ok v w' ∧ ∃ u m2 S2, Ending.returned v = .returned u ∧ Goes B (fun _ => false) m L w S m2 L' w' S2 ∧ RepA m2 L' w' S2 (tupA rs) u := by
      refine ⟨hd, ?_⟩
      obtain ⟨us', r1, r2⟩ := resL_gives hC' hI' hE h4
      refine ⟨_, ?_, _, m', S', rfl, ⟨hI', hsafe, hbel, ⟨fun id s hs hr => ?_⟩, hnew⟩, tup_rep r2⟩
      · have r1' : (fn.results.toList.mapM (rvSem a'.tmps)).run C.P w' = .ok us' w' := r1
        rw [results_eq, Array.mapM_eq_mapM_toList]
        simp only [bind_map_left, Sem.run_bind, r1', Result.andThen_ok, Sem.run_pure]
      · obtain ⟨s', q1, q2, q3, q3', q4⟩ := hx.ext id s hs hr
        refine ⟨s', q1, q2, q3, q3', fun t e xs ro hy hq => q4 t e xs ro ?_ hq⟩
        have hlt : id < L.length := (List.getElem?_eq_some_iff.1 hs).1
        exact decide_eq_false (by omega)
    cases e with
    | exit i => exact absurd rfl (hne i)
    | normal => exact hpost
    | ret => exact hpost
end

/-- A function that is walked where it is called. -/
def inlS (C : Cfg) (g0 : FuncId) (sp : Spec) (fuel : Fuel) (fn : Func) (rest : Spec) : Spec :=
  ⟨rest.con, fun g => g == g0 || rest.isI g, fun g as L k => bif g == g0 then evInl C sp fuel fn (fn.body.getD .skip) as L k else rest.inl g as L k⟩
theorem inlS_ok {C : Cfg} (hC : C.OK) {g0 : FuncId} {sp : Spec} {fuel : Fuel} {fn : Func} {rest : Spec} (hS : SpecOK C sp) (hr : SpecOK C rest) (hf : C.P.funcs[g0]? = some fn) (hb : fn.body.isSome = true) (hn : (fn.name == "runtime.NumGoroutine") = false) : SpecOK C (inlS C g0 sp fuel fn rest) := by
  refine ⟨hr.con, ?_⟩
  intro Ω g as L k r hk
  have key : ∀ b : Bool, (g == g0) = b → (bif b then evInl C sp fuel fn (fn.body.getD .skip) as L k else rest.inl g as L k) = some r → ∃ av L', k av L' = some r ∧ CallDoes C g as L av L' := by
    intro b hb' hq
    cases b with
    | true =>
      obtain rfl : g = g0 := by simpa using hb'
      obtain ⟨c, hc⟩ := Option.isSome_iff_exists.1 hb
      rw [cond_true, hc] at hq
      exact inl_does hC hS hf hc hn hq
    | false => exact hr.inl g as L k r hq
  exact key _ rfl hk

/-- All that some functions come to, walked where they are called, so many calls deep. -/
def allS (C : Cfg) (base : Spec) (fuel : Fuel) (tab : FuncId → Option Func) : Nat → Spec
  | 0 => base
  | d + 1 => ⟨base.con, fun g => (tab g).isSome, fun g as L k => match tab g with
    | some fn => evInl C (allS C base fuel tab d) fuel fn (fn.body.getD .skip) as L k
    | none => none⟩
def tabOK (C : Cfg) (tab : FuncId → Option Func) : Prop := ∀ g fn, tab g = some fn → C.P.funcs[g]? = some fn ∧ fn.body.isSome = true ∧ (fn.name == "runtime.NumGoroutine") = false
def tab0 : FuncId → Option Func := fun _ => none
def tabS (g0 : FuncId) (fn : Func) (rest : FuncId → Option Func) : FuncId → Option Func := fun g => bif g == g0 then some fn else rest g
theorem tab0_ok {C : Cfg} : tabOK C tab0 := fun _ _ h => by cases h
theorem tabS_ok {C : Cfg} {g0 : FuncId} {fn0 : Func} {rest : FuncId → Option Func} (h1 : C.P.funcs[g0]? = some fn0) (h2 : fn0.body.isSome = true) (h3 : (fn0.name == "runtime.NumGoroutine") = false) (hr : tabOK C rest) : tabOK C (tabS g0 fn0 rest) := by
  intro g fn h
  unfold tabS at h
  cases hg : (g == g0) with
  | true =>
    rw [hg, cond_true] at h
    cases h
    obtain rfl : g = g0 := by simpa using hg
    exact ⟨h1, h2, h3⟩
  | false =>
    rw [hg, cond_false] at h
    exact hr g fn h
theorem allS_ok {C : Cfg} (hC : C.OK) {base : Spec} (hB : SpecOK C base) {fuel : Fuel} {tab : FuncId → Option Func} (ht : tabOK C tab) : ∀ d, SpecOK C (allS C base fuel tab d)
  | 0 => hB
  | d + 1 => by
    refine ⟨hB.con, fun g as L k r hk => ?_⟩
    simp only [allS] at hk
    cases hg : tab g with
    | none => rw [hg] at hk; cases hk
    | some fn =>
      rw [hg] at hk
      obtain ⟨h1, h2, h3⟩ := ht g fn hg
      obtain ⟨c, hc⟩ := Option.isSome_iff_exists.1 h2
      simp only [hc, Option.getD_some] at hk
      exact inl_does hC (allS_ok hC hB ht d) h1 hc h3 hk
end Go.Proofs.YtmmooplcdkmapaaGreatDoor.K

/- Plain results: what refines what; entries by kinds of arguments; from a plain result to the contract. -/
import Derived.Test.YtmphlhnpichonaaDoorK29
set_option maxHeartbeats 400000
set_option linter.unusedVariables false
set_option linter.unusedSimpArgs false
namespace Go.Proofs.YtmphlhnpichonaaDoor.K
open Go Go.RowKit

/-- What the first gives, the second gives. -/
def Le {Ω : Type} (x y : Option Ω) : Prop := ∀ r, x = some r → y = some r

section
variable {Ω β : Type} {X Y X1 X2 Y1 Y2 : Option Ω}
theorem Le.refl (x : Option Ω) : Le x x := fun _ h => h
theorem Le.of (h : X = Y) : Le X Y := h ▸ Le.refl X
theorem Le.nil : Le none Y := fun _ h => by cases h
theorem Le.trans {Z : Option Ω} (h : Le X Y) (k : Le Y Z) : Le X Z := fun r hr => k r (h r hr)
theorem Le.cond {c : Bool} (h1 : Le X1 Y1) (h2 : Le X2 Y2) : Le (bif c then X1 else X2) (bif c then Y1 else Y2) := by
  cases c <;> assumption
theorem Le.gd {g : Bool} (h : g = true → Le X Y) : Le (bif g then X else none) Y := by
  cases g with
  | true => exact h rfl
  | false => exact Le.nil
theorem Le.tru {c : Bool} (hc : c = true) (h : Le X Y1) : Le X (bif c then Y1 else Y2) := by
  subst hc; exact h
theorem Le.fls {c : Bool} (hc : c = false) (h : Le X Y2) : Le X (bif c then Y1 else Y2) := by
  subst hc; exact h
theorem Le.bnd {o : Option β} {f g : β → Option Ω} (h : ∀ x, Le (f x) (g x)) : Le (o.bind f) (o.bind g) := by
  cases o with
  | none => exact Le.nil
  | some x => exact h x
end

/-- A number of rounds beyond all that a counter of 64 bits may tell. -/
def BIG : Nat := 9223372036854775808

/-- A loop over a list, one round for each. -/
theorem iter_list {α σ' σ Ω : Type} (X : List α) (z : α) (mk : Int → σ' → σ) (G : List α → Int → σ' → Option Ω) (B : (σ → Option Ω) → σ → Option Ω)
    (h0 : ∀ (i : Int) (a : σ') (r : σ → Option Ω), decide (i < ((List.length X : Nat) : Int)) = false → Le (G [] i a) (B r (mk i a)))
    (h1 : ∀ (i : Int) (xs : List α) (a : σ') (r : σ → Option Ω), decide (i < ((List.length X : Nat) : Int)) = true → idxOK i (List.length X) = true → IntKind.wrap .i64 (i + 1) = i + 1 →
      (∀ j, j = i + 1 → ∀ a', Le (G xs (i + 1) a') (r (mk j a'))) → Le (G (List.getD X (Int.toNat i) z :: xs) i a) (B r (mk i a)))
    (hX : ((List.length X : Nat) : Int) ≤ 9223372036854775807) : ∀ (m : Nat) (i : Int) (a : σ'), 0 ≤ i → i ≤ ((List.length X : Nat) : Int) → ((List.length X : Nat) : Int) < m + i → Le (G (X.drop (Int.toNat i)) i a) (iter B m (mk i a))
  | 0, i, a, h, hl, hm => by omega
  | m + 1, i, a, h, hl, hm => by
    show Le _ (B (iter B m) (mk i a))
    rcases Int.lt_or_le i ((List.length X : Nat) : Int) with hlt | hge
    · have hi : i.toNat < X.length := by omega
      have hd : X.drop i.toNat = List.getD X (Int.toNat i) z :: X.drop (i + 1).toNat := by
        rw [show (i + 1).toNat = i.toNat + 1 by omega, List.drop_eq_getElem_cons hi]
        simp [List.getD, hi]
      rw [hd]
      refine h1 i _ a _ (decide_eq_true hlt) (by simp [idxOK]; omega) (wrap_in (by omega) (by omega)) ?_
      rintro j rfl a'
      exact iter_list X z mk G B h0 h1 hX m (i + 1) a' (by omega) (by omega) (by omega)
    · rw [List.drop_eq_nil_of_le (by omega)]
      exact h0 i a _ (decide_eq_false (by omega))

/-- A loop that counts upward. -/
theorem iter_count {σ' σ Ω : Type} (N : Int) (c : Int → Bool) (hc : ∀ i, c i = decide (i < N)) (mk : Int → σ' → σ) (G : Nat → Int → σ' → Option Ω) (B : (σ → Option Ω) → σ → Option Ω)
    (h0 : ∀ (i : Int) (a : σ') (r : σ → Option Ω), c i = false → Le (G 0 i a) (B r (mk i a)))
    (h1 : ∀ (i : Int) (d : Nat) (a : σ') (r : σ → Option Ω), c i = true → IntKind.wrap .i64 (i + 1) = i + 1 →
      (∀ j, j = i + 1 → ∀ a', Le (G d (i + 1) a') (r (mk j a'))) → Le (G (d + 1) i a) (B r (mk i a)))
    (hN : N ≤ 9223372036854775807) : ∀ (m : Nat) (i : Int) (a : σ'), -9223372036854775808 ≤ i → (N - i).toNat < m → Le (G (N - i).toNat i a) (iter B m (mk i a))
  | 0, i, a, h, hm => by omega
  | m + 1, i, a, h, hm => by
    show Le _ (B (iter B m) (mk i a))
    rcases Int.lt_or_le i N with hlt | hge
    · rw [show (N - i).toNat = (N - (i + 1)).toNat + 1 by omega]
      refine h1 i _ a _ ((hc i).trans (decide_eq_true hlt)) (wrap_in (by omega) (by omega)) ?_
      rintro j rfl a'
      exact iter_count N c hc mk G B h0 h1 hN m (i + 1) a' (by omega) (by omega)
    · rw [show (N - i).toNat = 0 by omega]
      exact h0 i a _ ((hc i).trans (decide_eq_false (by omega)))

theorem iter_le {σ Ω : Type} {B B' : (σ → Option Ω) → σ → Option Ω} (h : ∀ r r' s, (∀ s, Le (r s) (r' s)) → Le (B r s) (B' r' s)) : ∀ (m : Nat) (s : σ), Le (iter B m s) (iter B' m s)
  | 0, s => Le.nil
  | m + 1, s => h _ _ s fun s => iter_le h m s

section
variable {N i : Int}
theorem le_up (h : N ≤ 4611686018427387904) : N ≤ 9223372036854775807 := by omega
theorem zero_le_len (n : Nat) : (0 : Int) ≤ ((n : Nat) : Int) := by omega
theorem big_list {n : Nat} (h : ((n : Nat) : Int) ≤ 4611686018427387904) : ((n : Nat) : Int) < ((BIG : Nat) : Int) + 0 := by unfold BIG; omega
theorem cnt_up (h : decide (N ≤ 4611686018427387904) = true) : N ≤ 9223372036854775807 := by have := of_decide_eq_true h; omega
theorem cnt_up1 (h : decide (N ≤ 4611686018427387904) = true) : N + 1 ≤ 9223372036854775807 := by have := of_decide_eq_true h; omega
theorem cnt_lo (h : decide ((0 : Int) ≤ i) = true) : -9223372036854775808 ≤ i := by have := of_decide_eq_true h; omega
theorem cnt_lo3 (h : decide ((0 : Int) ≤ i) = true) : -1000 ≤ i := by have := of_decide_eq_true h; omega
theorem cnt_big (h : decide (N ≤ 4611686018427387904) = true) (hi : -1000 ≤ i) : Int.toNat (N - i) < BIG := by have := of_decide_eq_true h; unfold BIG; omega
theorem cnt_big1 (h : decide (N ≤ 4611686018427387904) = true) (hi : -1000 ≤ i) : Int.toNat (N + 1 - i) < BIG := by have := of_decide_eq_true h; unfold BIG; omega
theorem and_l {a b : Bool} (h : (a && b) = true) : a = true := by cases a <;> simp_all
theorem and_r {a b : Bool} (h : (a && b) = true) : b = true := by cases a <;> simp_all
theorem le_lt1 (i N : Int) : decide (i ≤ N) = decide (i < N + 1) := by
  by_cases h : i ≤ N
  · rw [decide_eq_true h, decide_eq_true (by omega)]
  · rw [decide_eq_false h, decide_eq_false (by omega)]
end

/-- The results of a function: one, or several. -/
@[reducible] def Tup : ETy → List ETy → Type
  | τ, [] => τ.I
  | τ, σ :: r => τ.I × Tup σ r
def tupAVs : (τ : ETy) → (l : List ETy) → Tup τ l → List AV
  | τ, [], x => [.v τ x]
  | τ, σ :: r, x => .v τ x.1 :: tupAVs σ r x.2
def tupAV : (τ : ETy) → (l : List ETy) → Tup τ l → AV
  | τ, [], x => .v τ x
  | τ, σ :: r, x => .tup (.v τ x.1 :: tupAVs σ r x.2)
def decs : (τ : ETy) → (l : List ETy) → List AV → Option (Tup τ l)
  | τ, [], [a] => getI τ a
  | τ, σ :: r, a :: as => (getI τ a).bind fun x => (decs σ r as).map fun y => (x, y)
  | _, _, _ => none
def dec : (τ : ETy) → (l : List ETy) → AV → Option (Tup τ l)
  | τ, [], a => getI τ a
  | τ, σ :: r, .tup (a :: as) => (getI τ a).bind fun x => (decs σ r as).map fun y => (x, y)
  | _, _, _ => none
theorem castI_self (τ : ETy) (x : τ.I) : castI τ τ x = some x := by simp [castI]
theorem getI_self (τ : ETy) (x : τ.I) : getI τ (.v τ x) = some x := castI_self τ x
theorem decs_self : ∀ (τ : ETy) (l : List ETy) (x : Tup τ l), decs τ l (tupAVs τ l x) = some x
  | τ, [], x => by simp only [tupAVs, decs, getI_self]
  | τ, σ :: r, x => by
    simp only [tupAVs, decs, getI_self, Option.bind_some, decs_self σ r x.2, Option.map_some]
theorem dec_self : ∀ (τ : ETy) (l : List ETy) (x : Tup τ l), dec τ l (tupAV τ l x) = some x
  | τ, [], x => by simp only [tupAV, dec, getI_self]
  | τ, σ :: r, x => by
    simp only [tupAV, dec, getI_self, Option.bind_some, decs_self σ r x.2, Option.map_some]
theorem dec_fun (τ : ETy) (l : List ETy) : (fun r => dec τ l (tupAV τ l r)) = some := funext (dec_self τ l)
theorem decs_eq : ∀ {τ : ETy} {l : List ETy} {as : List AV} {x : Tup τ l}, decs τ l as = some x → as = tupAVs τ l x
  | τ, [], as, x, h => by
    match as, h with
    | [a], h => simp only [decs] at h; rw [getI_eq h]; rfl
  | τ, σ :: r, as, x, h => by
    match as, h with
    | a :: as, h =>
      simp only [decs, Option.bind_eq_some_iff, Option.map_eq_some_iff] at h
      obtain ⟨y, h1, z, h2, rfl⟩ := h
      rw [getI_eq h1, decs_eq h2]; rfl
theorem dec_eq : ∀ {τ : ETy} {l : List ETy} {a : AV} {x : Tup τ l}, dec τ l a = some x → a = tupAV τ l x
  | τ, [], a, x, h => by simp only [dec] at h; rw [getI_eq h]; rfl
  | τ, σ :: r, a, x, h => by
    match a, h with
    | .tup (a :: as), h =>
      simp only [dec, Option.bind_eq_some_iff, Option.map_eq_some_iff] at h
      obtain ⟨y, h1, z, h2, rfl⟩ := h
      rw [getI_eq h1, decs_eq h2]; rfl

/-- From what a body comes to, decoded, to the contract. -/
theorem contract_u {C : Cfg} {spec : Spec} (hC : C.OK) (hS : SpecOK C spec) {fuel : Fuel} {f : FuncId} {fn : Func} (hf : C.P.funcs[f]? = some fn) (hb : fn.body.isSome = true) (hn : (fn.name == "runtime.NumGoroutine") = false)
    {args : List AV} {τ : ETy} {l : List ETy} {r : Tup τ l} (h : evFn C spec fuel fn (fn.body.getD .skip) args (dec τ l) = some r) : Contract C f args (tupAV τ l r) := by
  obtain ⟨c, hc⟩ := Option.isSome_iff_exists.1 hb
  rw [hc] at h
  obtain ⟨av', h1, h2⟩ := fn_contract hC hS hf hc hn h
  rw [dec_eq h1] at h2
  exact h2

theorem contract_s {C : Cfg} {spec : Spec} (hC : C.OK) (hS : SpecOK C spec) {fuel : Fuel} {f : FuncId} {fn : Func} (hf : C.P.funcs[f]? = some fn) (hb : fn.body.isSome = true) (hn : (fn.name == "runtime.NumGoroutine") = false)
    {args : List AV} {τ : ETy} {l : List ETy} {r : Tup τ l} {S : (Tup τ l → Option (Tup τ l)) → Option (Tup τ l)} (hev : evFn C spec fuel fn (fn.body.getD .skip) args (dec τ l) = S (fun r => dec τ l (tupAV τ l r))) (h : S some = some r) : Contract C f args (tupAV τ l r) := by
  rw [dec_fun, h] at hev
  exact contract_u hC hS hf hb hn hev

/-- A place that is only read. -/
def getVP (T : ETy) : AV → Option T.I
  | .vp T' x [] => castI T' T x
  | _ => none
theorem getVP_eq {T : ETy} {a : AV} {x : T.I} (h : getVP T a = some x) : a = .vp T x [] := by
  cases a with
  | vp T' y p =>
    cases p with
    | nil =>
      obtain ⟨e, rfl⟩ := castI_eq h
      subst e
      rfl
    | cons _ _ => simp [getVP] at h
  | _ => simp [getVP] at h

/-- Entries whose first arguments are read already. -/
structure EntA (C : Cfg) (g : FuncId) (acc : List AV) (e : Ent) : Prop where
  ok : ∀ (Ω : Type) (bs : List AV) (k : AV → Option Ω) (r : Ω), e bs k = some r → ∃ av, k av = some r ∧ Contract C g (acc ++ bs) av
def argI (τ : ETy) (f : τ.I → Ent) : Ent := fun bs k => match bs with
  | a :: r => (getI τ a).bind fun x => f x r k
  | [] => none
def argP (T : ETy) (f : T.I → Ent) : Ent := fun bs k => match bs with
  | a :: r => (getVP T a).bind fun x => f x r k
  | [] => none
def argF0 (g : FuncId) (f : Ent) : Ent := fun bs k => match bs with
  | .fn g' [] :: r => bif g' == g then f r k else none
  | _ => none
def argF1 (g : FuncId) (T : ETy) (f : T.I → Ent) : Ent := fun bs k => match bs with
  | .fn g' [a] :: r => bif g' == g then (getVP T a).bind fun x => f x r k else none
  | _ => none
def argF2 (g : FuncId) (T U : ETy) (f : T.I → U.I → Ent) : Ent := fun bs k => match bs with
  | .fn g' [a, b] :: r => bif g' == g then (getVP T a).bind fun x => (getVP U b).bind fun y => f x y r k else none
  | _ => none
/-- A place that holds this function. -/
def argQ (g : FuncId) (f : Ent) : Ent := fun bs k => match bs with
  | .vp (.raw .func) v [] :: r => bif asFn v == some g then f r k else none
  | _ => none
/-- This function, which has caught a place that holds that function. -/
def argFq (g h : FuncId) (f : Ent) : Ent := fun bs k => match bs with
  | .fn g' [.vp (.raw .func) v []] :: r => bif g' == g && asFn v == some h then f r k else none
  | _ => none
def endU {β : Type} (o : Option β) (f : β → AV) : Ent := fun bs k => match bs with
  | [] => o.bind fun r => k (f r)
  | _ => none
def endT (a : AV) : Ent := fun bs k => match bs with
  | [] => k a
  | _ => none
def orEnt (test : List AV → Bool) (e1 e2 : Ent) : Ent := fun bs k => bif test bs then e1 bs k else e2 bs k
/-- Which functions an argument bears. -/
def capSig : AV → Nat
  | .vp (.raw .func) v _ => (asFn v).getD 0
  | _ => 0
def sigOf : AV → List Nat
  | .fn g caps => g :: caps.map capSig
  | a => [capSig a]
def isSig (i : Nat) (sig : List Nat) (bs : List AV) : Bool := match bs[i]? with
  | some a => sigOf a == sig
  | none => false

section
variable {C : Cfg} {g : FuncId} {acc : List AV}
theorem argI_ok {τ : ETy} {f : τ.I → Ent} (h : ∀ x, EntA C g (acc ++ [.v τ x]) (f x)) : EntA C g acc (argI τ f) := by
  refine ⟨fun Ω bs k r hk => ?_⟩
  match bs, hk with
  | a :: bs, hk =>
    obtain ⟨x, e1, hk⟩ := Option.bind_eq_some_iff.1 hk
    obtain ⟨av, h1, h2⟩ := (h x).ok _ bs k r hk
    rw [getI_eq e1]
    exact ⟨av, h1, by simpa using h2⟩
theorem argP_ok {T : ETy} {f : T.I → Ent} (h : ∀ x, EntA C g (acc ++ [.vp T x []]) (f x)) : EntA C g acc (argP T f) := by
  refine ⟨fun Ω bs k r hk => ?_⟩
  match bs, hk with
  | a :: bs, hk =>
    obtain ⟨x, e1, hk⟩ := Option.bind_eq_some_iff.1 hk
    obtain ⟨av, h1, h2⟩ := (h x).ok _ bs k r hk
    rw [getVP_eq e1]
    exact ⟨av, h1, by simpa using h2⟩
theorem argF0_ok {q : FuncId} {f : Ent} (h : EntA C g (acc ++ [.fn q []]) f) : EntA C g acc (argF0 q f) := by
  refine ⟨fun Ω bs k r hk => ?_⟩
  match bs, hk with
  | .fn q' [] :: bs, hk =>
    have hk' : (bif q' == q then f bs k else none) = some r := hk
    obtain ⟨e1, hk2⟩ := ite_some hk'
    obtain rfl : q' = q := by simpa using e1
    obtain ⟨av, h1, h2⟩ := h.ok _ bs k r hk2
    exact ⟨av, h1, by simpa using h2⟩
theorem argF1_ok {q : FuncId} {T : ETy} {f : T.I → Ent} (h : ∀ x, EntA C g (acc ++ [.fn q [.vp T x []]]) (f x)) : EntA C g acc (argF1 q T f) := by
  refine ⟨fun Ω bs k r hk => ?_⟩
  match bs, hk with
  | .fn q' [a] :: bs, hk =>
    have hk' : (bif q' == q then (getVP T a).bind fun x => f x bs k else none) = some r := hk
    obtain ⟨e1, hk2⟩ := ite_some hk'
    obtain rfl : q' = q := by simpa using e1
    obtain ⟨x, e2, hk3⟩ := Option.bind_eq_some_iff.1 hk2
    obtain ⟨av, h1, h2⟩ := (h x).ok _ bs k r hk3
    rw [getVP_eq e2]
    exact ⟨av, h1, by simpa using h2⟩
theorem argF2_ok {q : FuncId} {T U : ETy} {f : T.I → U.I → Ent} (h : ∀ x y, EntA C g (acc ++ [.fn q [.vp T x [], .vp U y []]]) (f x y)) : EntA C g acc (argF2 q T U f) := by
  refine ⟨fun Ω bs k r hk => ?_⟩
  match bs, hk with
  | .fn q' [a, b] :: bs, hk =>
    have hk' : (bif q' == q then (getVP T a).bind fun x => (getVP U b).bind fun y => f x y bs k else none) = some r := hk
    obtain ⟨e1, hk2⟩ := ite_some hk'
    obtain rfl : q' = q := by simpa using e1
    obtain ⟨x, e2, hk3⟩ := Option.bind_eq_some_iff.1 hk2
    obtain ⟨y, e3, hk4⟩ := Option.bind_eq_some_iff.1 hk3
    obtain ⟨av, h1, h2⟩ := (h x y).ok _ bs k r hk4
    rw [getVP_eq e2, getVP_eq e3]
    exact ⟨av, h1, by simpa using h2⟩
theorem argQ_ok {q : FuncId} {f : Ent} (h : EntA C g (acc ++ [.vp (.raw .func) (Value.func (.func q) #[] #[]) []]) f) : EntA C g acc (argQ q f) := by
  refine ⟨fun Ω bs k r hk => ?_⟩
  match bs, hk with
  | .vp (.raw .func) v [] :: bs, hk =>
    have hk' : (bif asFn v == some q then f bs k else none) = some r := hk
    obtain ⟨e1, hk2⟩ := ite_some hk'
    obtain rfl := asFn_eq (by simpa using e1)
    obtain ⟨av, h1, h2⟩ := h.ok _ bs k r hk2
    exact ⟨av, h1, by simpa using h2⟩
theorem argFq_ok {q p : FuncId} {f : Ent} (h : EntA C g (acc ++ [.fn q [.vp (.raw .func) (Value.func (.func p) #[] #[]) []]]) f) : EntA C g acc (argFq q p f) := by
  refine ⟨fun Ω bs k r hk => ?_⟩
  match bs, hk with
  | .fn q' [.vp (.raw .func) v []] :: bs, hk =>
    have hk' : (bif q' == q && asFn v == some p then f bs k else none) = some r := hk
    obtain ⟨e0, hk2⟩ := ite_some hk'
    simp only [Bool.and_eq_true] at e0
    obtain rfl : q' = q := by simpa using e0.1
    obtain rfl := asFn_eq (by simpa using e0.2)
    obtain ⟨av, h1, h2⟩ := h.ok _ bs k r hk2
    exact ⟨av, h1, by simpa using h2⟩
theorem endU_ok {β : Type} {o : Option β} {f : β → AV} (h : ∀ r, o = some r → Contract C g acc (f r)) : EntA C g acc (endU o f) := by
  refine ⟨fun Ω bs k r hk => ?_⟩
  match bs, hk with
  | [], hk =>
    obtain ⟨x, e1, hk⟩ := Option.bind_eq_some_iff.1 (show (o.bind fun r => k (f r)) = some r from hk)
    exact ⟨_, hk, by simpa using h x e1⟩
theorem endT_ok {a : AV} (h : Contract C g acc a) : EntA C g acc (endT a) := by
  refine ⟨fun Ω bs k r hk => ?_⟩
  match bs, hk with
  | [], hk => exact ⟨_, hk, by simpa using h⟩
theorem orEnt_ok {test : List AV → Bool} {e1 e2 : Ent} (h1 : EntOK C g e1) (h2 : EntOK C g e2) : EntOK C g (orEnt test e1 e2) := by
  intro Ω bs k r hk
  have key : ∀ b : Bool, (bif b then e1 bs k else e2 bs k) = some r → ∃ av, k av = some r ∧ Contract C g bs av := by
    intro b hb
    cases b with
    | true => exact h1 bs k r hb
    | false => exact h2 bs k r hb
  exact key (test bs) hk
theorem entA_ok {e : Ent} (h : EntA C g [] e) : EntOK C g e := fun bs k r hk => h.ok _ bs k r hk
end
end Go.Proofs.YtmphlhnpichonaaDoor.K

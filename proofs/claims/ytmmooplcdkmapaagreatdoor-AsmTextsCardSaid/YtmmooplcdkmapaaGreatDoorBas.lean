/- Small laws that the plain functions need. -/
import Derived.Test.YtmmooplcdkmapaaGreatDoorKF
set_option maxRecDepth 100000
set_option linter.unusedVariables false
set_option linter.unusedSimpArgs false
namespace Go.Proofs.YtmmooplcdkmapaaGreatDoor.K
open Go

theorem idxOK_of {i : Int} {n : Nat} (h0 : 0 ≤ i) (h1 : i < (n : Int)) : idxOK i n = true := by simp [idxOK]; omega
theorem idxOK_nat {i n : Nat} (h : i < n) : idxOK (i : Int) n = true := idxOK_of (by omega) (by omega)
theorem wrapN {x : Int} (h : -9223372036854775808 ≤ x ∧ x ≤ 9223372036854775807) : IntKind.wrap .i64 x = x := wrap_in h.1 h.2
theorem dec_len {α : Type} {l : List α} {n : Nat} (h : l.length ≤ n) (hn : n ≤ 4611686018427387904) : decide (((List.length l : Nat) : Int) ≤ 4611686018427387904) = true := decide_eq_true (by omega)

theorem all_getD {α : Type} (p : α → Bool) (z : α) : ∀ (l : List α), l.all p = (List.range l.length).all fun j => p (l.getD j z)
  | [] => rfl
  | x :: l => by
    rw [List.all_cons, all_getD p z l, List.length_cons, List.range_succ_eq_map, List.all_cons, List.all_map]
    rfl
theorem all_take {α : Type} (p : α → Bool) (z : α) : ∀ (l : List α) (d : Nat), (l.take d).all p = (List.range l.length).all fun j => !decide (j < d) || p (l.getD j z)
  | [], d => by simp
  | x :: l, 0 => by
    simp only [List.take_zero, List.all_nil]
    symm
    rw [List.all_eq_true]
    intro j hj
    simp
  | x :: l, d + 1 => by
    rw [List.take_succ_cons, List.all_cons, all_take p z l d, List.length_cons, List.range_succ_eq_map, List.all_cons, List.all_map]
    simp only [List.getD_cons_zero, Nat.zero_lt_succ, decide_true, Bool.not_true, Bool.false_or]
    congr 2
    funext j
    simp [Function.comp]
theorem all_drop {α : Type} (p : α → Bool) (z : α) : ∀ (l : List α) (d : Nat), (l.drop d).all p = (List.range l.length).all fun j => decide (j < d) || p (l.getD j z)
  | [], d => by simp
  | x :: l, 0 => by
    rw [List.drop_zero, all_getD p z]
    simp
  | x :: l, d + 1 => by
    rw [List.drop_succ_cons, all_drop p z l d, List.length_cons, List.range_succ_eq_map, List.all_cons, List.all_map]
    simp only [Nat.zero_lt_succ, decide_true, Bool.true_or, Bool.true_and]
    congr 1
    funext j
    simp [Function.comp]
theorem all_and {α : Type} (p q : α → Bool) : ∀ (l : List α), l.all (fun x => p x && q x) = (l.all p && l.all q)
  | [] => rfl
  | x :: l => by
    simp only [List.all_cons, all_and p q l]
    cases p x <;> cases q x <;> simp

/-- A loop that counts, and asks at each. -/
theorem count_all {Ω : Type} (g : Nat → Int → Option Ω) (c : Nat → Bool) (a b : Option Ω) (N : Nat) (h0 : g 0 (N : Int) = a) (h1 : ∀ (d i : Nat), i + (d + 1) = N → g (d + 1) (i : Int) = bif c i then g d ((i : Int) + 1) else b) :
    ∀ (d i : Nat), i + d = N → g d (i : Int) = bif (List.range' i d).all c then a else b
  | 0, i, h => by
    rw [show i = N by omega]
    simpa using h0
  | d + 1, i, h => by
    rw [h1 d i h]
    have := count_all g c a b N h0 h1 d (i + 1) (by omega)
    rw [show ((i + 1 : Nat) : Int) = (i : Int) + 1 by omega] at this
    rw [this, List.range'_succ, List.all_cons]
    cases c i <;> rfl

/-- A search in a list: is it found? -/
theorem find_list {α Ω : Type} (p : α → Bool) (g : List α → Int → Option Ω) (k : Int → Option Ω) (h0 : ∀ i, g [] i = k (-1)) (h1 : ∀ x xs i, g (x :: xs) i = bif p x then k i else g xs (i + 1)) :
    ∀ (xs : List α) (i : Int), 0 ≤ i → ∃ j, g xs i = k j ∧ decide (j ≥ 0) = xs.any p
  | [], i, h => ⟨-1, h0 i, by simp⟩
  | x :: xs, i, h => by
    rw [h1]
    cases hp : p x with
    | true => exact ⟨i, rfl, by simp [hp]; omega⟩
    | false =>
      obtain ⟨j, e1, e2⟩ := find_list p g k h0 h1 xs (i + 1) (by omega)
      exact ⟨j, e1, by rw [e2, List.any_cons, hp, Bool.false_or]⟩

theorem bnot_any {α : Type} (p : α → Bool) (l : List α) : (!(l.any fun x => !(p x))) = l.all p := by
  induction l with
  | nil => rfl
  | cons x l ih => rw [List.any_cons, List.all_cons, ← ih]; cases p x <;> simp

/-- Types whose data may be compared. -/
def cmpTy : ETy → Bool
  | .raw _ => false
  | .slice _ => false
  | .pair a b => cmpTy a && cmpTy b
  | .arr _ e => cmpTy e
  | _ => true
theorem eqI_go_self {α : Type} {f : α → α → Bool} (h : ∀ x, f x x = true) : ∀ (n : Nat) (l : List α), eqI.go f n l l = true
  | 0, l => by unfold eqI.go; rfl
  | n + 1, [] => by unfold eqI.go; rfl
  | n + 1, x :: l => by unfold eqI.go; rw [h x, eqI_go_self h n l]; rfl
theorem eqI_self : ∀ (τ : ETy) (x : τ.I), cmpTy τ = true → eqI τ x x = true
  | .int _, x, _ => by simp [eqI]
  | .bool, x, _ => by simp [eqI]
  | .str, x, _ => by simp [eqI]
  | .unit, x, _ => by simp [eqI]
  | .raw _, _, h => by cases h
  | .slice _, _, h => by cases h
  | .pair a b, x, h => by
    simp only [cmpTy, Bool.and_eq_true] at h
    simp only [eqI, eqI_self a x.1 h.1, eqI_self b x.2 h.2, Bool.and_self]
  | .arr n e, x, h => by
    simp only [eqI]
    exact eqI_go_self (fun y => eqI_self e y (by simpa [cmpTy] using h)) n x
end Go.Proofs.YtmmooplcdkmapaaGreatDoor.K

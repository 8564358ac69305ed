/- Labels, plainly: whether one may be. -/
import Derived.Test.YtaednhofihnfkaaDoorZ35
import Derived.Test.YtaednhofihnfkaaDoorL28e
import Derived.Test.YtaednhofihnfkaaDoorL08r
import Derived.KernelRfl
set_option maxRecDepth 100000
set_option linter.unusedVariables false
set_option linter.unusedSimpArgs false
namespace Go.Proofs.YtaednhofihnfkaaDoor.K
open Go

abbrev Lb := Int × (Int × (Int × (Evn × Unit)))
abbrev tyLb : ETy := .pair (.int .i64) (.pair (.int .i64) (.pair (.int .i64) (.pair tyEvn .unit)))
theorem alive35 : law35_alive.u = some true := by kernel_rfl
theorem eqLb (x : Lb) : eqI tyLb x x = true := eqI_self tyLb x rfl
theorem eqLb_parts (k w v : Int) (e : Evn) (k' w' v' : Int) (e' : Evn) : eqI tyLb (k, (w, (v, (e, ())))) (k', (w', (v', (e', ())))) = ((k == k') && ((w == w') && ((v == v') && ((e == e') && true)))) := by
  show ((k == k') && ((w == w') && ((v == v') && (eqI tyEvn e e' && true)))) = _
  rw [eqEv_iff]

def rngL (a b n : Int) : Bool := decide (a ≤ n ∧ n ≤ b)
theorem rngL_iff {a b n : Int} : rngL a b n = true ↔ a ≤ n ∧ n ≤ b := by unfold rngL; simp
theorem rng_step {α : Type} (a b n : Int) (X Y : α) : (bif decide (n < a) then X else bif decide (n > b) then X else Y) = bif rngL a b n then Y else X := by
  unfold rngL
  by_cases h : n < a
  · rw [decide_eq_true h, decide_eq_false (show ¬ (a ≤ n ∧ n ≤ b) by omega)]; rfl
  · by_cases h2 : n > b
    · rw [decide_eq_false h, decide_eq_true h2, decide_eq_false (show ¬ (a ≤ n ∧ n ≤ b) by omega)]; rfl
    · rw [decide_eq_false h, decide_eq_false h2, decide_eq_true (show a ≤ n ∧ n ≤ b by omega)]; rfl
theorem rng_step' {α : Type} (n : Int) (X Y : α) : (bif decide (n < 0) then X else bif decide (n ≥ 16) then X else Y) = bif rngL 0 15 n then Y else X := by
  rw [show decide (n ≥ 16) = decide (n > 15) from by rw [Bool.eq_iff_iff]; simp; omega]
  exact rng_step 0 15 n X Y
/-- Whether a label may be. -/
def chkL : Lb → Int
  | (k, (w, (v, (e, _)))) =>
    bif k == 7 then (bif chkE e != 0 then chkE e else bif (w == 0) && (v == 0) then 0 else 3)
    else bif k == 8 then (bif rngL 0 65535 v then (bif (w == 0) && (e == zEv) then 0 else 3) else 8)
    else bif k == 2 then (bif rngL 0 15 w then (bif rngL (-2147483648) 2147483647 v then (bif e == zEv then 0 else 3) else 8) else 8)
    else bif k == 4 then (bif rngL 0 15 w then (bif rngL 0 3 v then (bif e == zEv then 0 else 3) else 8) else 8)
    else bif k == 6 then (bif rngL 0 15 w then (bif rngL 1 511 v then (bif e == zEv then 0 else 3) else 8) else 8)
    else bif (k == 1) || (k == 3) || (k == 5) then (bif rngL 0 15 w then (bif (v == 0) && (e == zEv) then 0 else 3) else 8)
    else 12
theorem chkL_out {k w v : Int} {e : Evn} (h : k < 1 ∨ k > 8) : chkL (k, (w, (v, (e, ())))) = 12 := by
  unfold chkL
  have q : ∀ n : Int, 1 ≤ n → n ≤ 8 → (k == n) = false := fun n a b => beq_eq_false_iff_ne.2 (by omega)
  simp only [q 1 (by omega) (by omega), q 2 (by omega) (by omega), q 3 (by omega) (by omega), q 4 (by omega) (by omega), q 5 (by omega) (by omega), q 6 (by omega) (by omega), q 7 (by omega) (by omega), q 8 (by omega) (by omega), Bool.or_self, cond_false]
theorem not3 (b : Bool) : (bif !b then (3 : Int) else 0) = bif b then 0 else 3 := by cases b <;> rfl
theorem beq_symm' {α : Type} [BEq α] [LawfulBEq α] (a b : α) : (a == b) = (b == a) := by
  rw [Bool.eq_iff_iff]; simp only [beq_iff_eq]; exact eq_comm
theorem lkinds (k : Int) (h1 : ¬ k < 1) (h2 : ¬ k > 8) : k = 1 ∨ k = 2 ∨ k = 3 ∨ k = 4 ∨ k = 5 ∨ k = 6 ∨ k = 7 ∨ k = 8 := by omega
theorem lcheck_t (x : Lb) : label_Check.t x = chkL x := by
  obtain ⟨k, w, v, e, u⟩ := x
  cases u
  unfold label_Check.t
  by_cases h1 : k < 1
  · have : chkL (k, (w, (v, (e, ())))) = 12 := chkL_out (by omega)
    rw [this]
    simp [h1]
  by_cases h2 : k > 8
  · have : chkL (k, (w, (v, (e, ())))) = 12 := chkL_out (by omega)
    rw [this]
    simp [h1, h2]
  simp only [rng_step', eqLb_parts, check_t]
  rcases lkinds k h1 h2 with rfl | rfl | rfl | rfl | rfl | rfl | rfl | rfl
  · show (bif rngL 0 15 w then (bif (!((1 : Int) == 1 && ((w == w) && ((0 == v) && (((zEv : Evn) == e) && true))))) then (3 : Int) else 0) else 8) = bif rngL 0 15 w then (bif (v == 0) && (e == zEv) then 0 else 3) else 8
    rw [not3, beq_self_eq_true, beq_self_eq_true, beq_symm' 0 v, beq_symm' zEv e, Bool.and_true, Bool.true_and, Bool.true_and]
  · show (bif rngL 0 15 w then (bif decide (v < -2147483648) then (8 : Int) else bif decide (v > 2147483647) then 8 else (bif (!((2 : Int) == 2 && ((w == w) && ((v == v) && (((zEv : Evn) == e) && true))))) then (3 : Int) else 0)) else 8) = bif rngL 0 15 w then (bif rngL (-2147483648) 2147483647 v then (bif e == zEv then 0 else 3) else 8) else 8
    rw [rng_step, not3, beq_self_eq_true, beq_self_eq_true, beq_self_eq_true, beq_symm' zEv e, Bool.and_true, Bool.true_and, Bool.true_and, Bool.true_and]
  · show (bif rngL 0 15 w then (bif (!((3 : Int) == 3 && ((w == w) && ((0 == v) && (((zEv : Evn) == e) && true))))) then (3 : Int) else 0) else 8) = bif rngL 0 15 w then (bif (v == 0) && (e == zEv) then 0 else 3) else 8
    rw [not3, beq_self_eq_true, beq_self_eq_true, beq_symm' 0 v, beq_symm' zEv e, Bool.and_true, Bool.true_and, Bool.true_and]
  · show (bif rngL 0 15 w then (bif decide (v < 0) then (8 : Int) else bif decide (v > 3) then 8 else (bif (!((4 : Int) == 4 && ((w == w) && ((v == v) && (((zEv : Evn) == e) && true))))) then (3 : Int) else 0)) else 8) = bif rngL 0 15 w then (bif rngL 0 3 v then (bif e == zEv then 0 else 3) else 8) else 8
    rw [rng_step, not3, beq_self_eq_true, beq_self_eq_true, beq_self_eq_true, beq_symm' zEv e, Bool.and_true, Bool.true_and, Bool.true_and, Bool.true_and]
  · show (bif rngL 0 15 w then (bif (!((5 : Int) == 5 && ((w == w) && ((0 == v) && (((zEv : Evn) == e) && true))))) then (3 : Int) else 0) else 8) = bif rngL 0 15 w then (bif (v == 0) && (e == zEv) then 0 else 3) else 8
    rw [not3, beq_self_eq_true, beq_self_eq_true, beq_symm' 0 v, beq_symm' zEv e, Bool.and_true, Bool.true_and, Bool.true_and]
  · show (bif rngL 0 15 w then (bif decide (v < 1) then (8 : Int) else bif decide (v > 511) then 8 else (bif (!((6 : Int) == 6 && ((w == w) && ((v == v) && (((zEv : Evn) == e) && true))))) then (3 : Int) else 0)) else 8) = bif rngL 0 15 w then (bif rngL 1 511 v then (bif e == zEv then 0 else 3) else 8) else 8
    rw [rng_step, not3, beq_self_eq_true, beq_self_eq_true, beq_self_eq_true, beq_symm' zEv e, Bool.and_true, Bool.true_and, Bool.true_and, Bool.true_and]
  · show (bif chkE e != 0 then chkE e else (bif (!((7 : Int) == 7 && ((0 == w) && ((0 == v) && ((e == e) && true))))) then (3 : Int) else 0)) = bif chkE e != 0 then chkE e else bif (w == 0) && (v == 0) then 0 else 3
    rw [not3, beq_self_eq_true, beq_self_eq_true, beq_symm' 0 v, beq_symm' 0 w, Bool.and_true, Bool.and_true, Bool.true_and]
  · show (bif decide (v < 0) then (8 : Int) else bif decide (v > 65535) then 8 else (bif (!((8 : Int) == 8 && ((0 == w) && ((v == v) && (((zEv : Evn) == e) && true))))) then (3 : Int) else 0)) = bif rngL 0 65535 v then (bif (w == 0) && (e == zEv) then 0 else 3) else 8
    rw [rng_step, not3, beq_self_eq_true, beq_self_eq_true, beq_symm' 0 w, beq_symm' zEv e, Bool.and_true, Bool.true_and, Bool.true_and]

/-! ### The document's -/
theorem lcut1 (w v : Int) (e : Evn) (b c : Bool) : ref35_Check.cut0 (1, (w, (v, (e, ())))) 1 b c = bif decide (w < 0) then some 8 else bif decide (w > 15) then some 8 else bif (v != 0) then some 3 else bif !(eqI tyEvn e zEv) then some 3 else some 0 := by
  rw [ref35_Check.cut0_eq]; kernel_rfl
theorem lcut2 (w v : Int) (e : Evn) (b c : Bool) : ref35_Check.cut0 (2, (w, (v, (e, ())))) 2 b c = bif decide (w < 0) then some 8 else bif decide (w > 15) then some 8 else bif !(ref08_Fine.t v) then some 8 else bif !(eqI tyEvn e zEv) then some 3 else some 0 := by
  rw [ref35_Check.cut0_eq]; kernel_rfl
theorem lcut3 (w v : Int) (e : Evn) (b c : Bool) : ref35_Check.cut0 (3, (w, (v, (e, ())))) 3 b c = bif decide (w < 0) then some 8 else bif decide (w > 15) then some 8 else bif (v != 0) then some 3 else bif !(eqI tyEvn e zEv) then some 3 else some 0 := by
  rw [ref35_Check.cut0_eq]; kernel_rfl
theorem lcut4 (w v : Int) (e : Evn) (b c : Bool) : ref35_Check.cut0 (4, (w, (v, (e, ())))) 4 b c = bif decide (w < 0) then some 8 else bif decide (w > 15) then some 8 else bif decide (v < 0) then some 8 else bif decide (v > 3) then some 8 else bif !(eqI tyEvn e zEv) then some 3 else some 0 := by
  rw [ref35_Check.cut0_eq]; kernel_rfl
theorem lcut5 (w v : Int) (e : Evn) (b c : Bool) : ref35_Check.cut0 (5, (w, (v, (e, ())))) 5 b c = bif decide (w < 0) then some 8 else bif decide (w > 15) then some 8 else bif (v != 0) then some 3 else bif !(eqI tyEvn e zEv) then some 3 else some 0 := by
  rw [ref35_Check.cut0_eq]; kernel_rfl
theorem lcut6 (w v : Int) (e : Evn) (b c : Bool) : ref35_Check.cut0 (6, (w, (v, (e, ())))) 6 b c = bif decide (w < 0) then some 8 else bif decide (w > 15) then some 8 else bif decide (v < 1) then some 8 else bif decide (v > 511) then some 8 else bif !(eqI tyEvn e zEv) then some 3 else some 0 := by
  rw [ref35_Check.cut0_eq]; kernel_rfl
theorem lcut7 (w v : Int) (e : Evn) (b c : Bool) : ref35_Check.cut0 (7, (w, (v, (e, ())))) 7 b c = bif (ref28_Check.t e != 0) then some (ref28_Check.t e) else bif (w != 0) then some 3 else bif (v != 0) then some 3 else some 0 := by
  rw [ref35_Check.cut0_eq]; kernel_rfl
theorem lcut8 (w v : Int) (e : Evn) (b c : Bool) : ref35_Check.cut0 (8, (w, (v, (e, ())))) 8 b c = bif decide (v < 0) then some 8 else bif decide (v > 65535) then some 8 else bif (w != 0) then some 3 else bif !(eqI tyEvn e zEv) then some 3 else some 0 := by
  rw [ref35_Check.cut0_eq]; kernel_rfl
theorem cond_someI (b : Bool) (x y : Int) : (bif b then some x else some y) = some (bif b then x else y) := by cases b <;> rfl
theorem refl_u (x : Lb) : ref35_Check.u x = some (chkL x) := by
  obtain ⟨k, w, v, e, u⟩ := x
  cases u
  rw [ref35_Check.u_eq]
  unfold ref35_Check.u0
  by_cases h1 : k < 1
  · have : chkL (k, (w, (v, (e, ())))) = 12 := chkL_out (by omega)
    rw [this]
    simp [h1]
  by_cases h2 : k > 8
  · have : chkL (k, (w, (v, (e, ())))) = 12 := chkL_out (by omega)
    rw [this]
    simp [h1, h2]
  simp only [h1, h2, decide_false, cond_false]
  have z3 : ∀ a b : Bool, (bif !a then some (3 : Int) else bif !b then some 3 else some 0) = some (bif a && b then 0 else 3) := fun a b => by cases a <;> cases b <;> rfl
  have z1 : ∀ a : Bool, (bif !a then some (3 : Int) else some 0) = some (bif a then 0 else 3) := fun a => by cases a <;> rfl
  have fin : ref08_Fine.t v = rngL (-2147483648) 2147483647 v := by
    rw [Bool.eq_iff_iff, rngL_iff]; exact fine_iff
  have n8 : ∀ (a : Bool) (X : Option Int), (bif !a then some (8 : Int) else X) = bif a then X else some 8 := fun a X => by cases a <;> rfl
  rcases lkinds k h1 h2 with rfl | rfl | rfl | rfl | rfl | rfl | rfl | rfl
  · rw [lcut1, rng_step, eqEv_iff]; unfold bne; rw [z3, cond_someI]; rfl
  · rw [lcut2, rng_step, eqEv_iff, fin, n8, z1, cond_someI, cond_someI]; rfl
  · rw [lcut3, rng_step, eqEv_iff]; unfold bne; rw [z3, cond_someI]; rfl
  · rw [lcut4, rng_step, rng_step, eqEv_iff, z1, cond_someI, cond_someI]; rfl
  · rw [lcut5, rng_step, eqEv_iff]; unfold bne; rw [z3, cond_someI]; rfl
  · rw [lcut6, rng_step, rng_step, eqEv_iff, z1, cond_someI, cond_someI]; rfl
  · rw [lcut7]
    show (bif (chkE e != 0) then some (chkE e) else bif !(w == 0) then some (3 : Int) else bif !(v == 0) then some 3 else some 0) = _
    rw [z3, cond_someI]; rfl
  · rw [lcut8, rng_step, eqEv_iff]; unfold bne; rw [z3, cond_someI]; rfl
end Go.Proofs.YtaednhofihnfkaaDoor.K

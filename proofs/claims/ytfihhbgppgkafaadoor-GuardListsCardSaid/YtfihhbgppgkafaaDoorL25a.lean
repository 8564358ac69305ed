/- Guards, plainly: whether one may be. -/
import Derived.Test.YtfihhbgppgkafaaDoorZ25
import Derived.Test.YtfihhbgppgkafaaDoorL01
import Derived.KernelRfl
set_option maxRecDepth 100000
set_option linter.unusedVariables false
set_option linter.unusedSimpArgs false
namespace Go.Proofs.YtfihhbgppgkafaaDoor.K
open Go

abbrev Gd := Int × (Int × (Int × (Int × (Int × Unit))))
abbrev tyGd : ETy := .pair (.int .i64) (.pair (.int .i64) (.pair (.int .i64) (.pair (.int .i64) (.pair (.int .i64) .unit))))
theorem alive25 : law25_alive.u = some true := by kernel_rfl
theorem eqGd (g : Gd) : eqI tyGd g g = true := eqI_self tyGd g rfl
theorem eqGd_iff (a b : Gd) : eqI tyGd a b = (a == b) := by
  obtain ⟨a1, a2, a3, a4, a5, u⟩ := a
  obtain ⟨b1, b2, b3, b4, b5, v⟩ := b
  have hu : (u == v) = true := by cases u; cases v; rfl
  show ((a1 == b1) && ((a2 == b2) && ((a3 == b3) && ((a4 == b4) && ((a5 == b5) && true))))) = ((a1 == b1) && ((a2 == b2) && ((a3 == b3) && ((a4 == b4) && ((a5 == b5) && (u == v))))))
  rw [hu]

/-- From 0 on, and below a bound. -/
def inR (n m : Int) : Bool := decide (0 ≤ n ∧ n < m)
theorem refin_t (n m : Int) : ref25_in.t n m = inR n m := by
  unfold ref25_in.t inR
  by_cases h : n ≥ 0
  · simp [h]
  · simp [h, show ¬ 0 ≤ n by omega]
theorem below_step (a b : Int) (K : Option Bool) : (bif decide (a < 0) then some false else bif decide (a ≥ b) then some false else K) = bif inR a b then K else some false := by
  unfold inR
  by_cases h : a < 0
  · rw [decide_eq_true h, decide_eq_false (show ¬ (0 ≤ a ∧ a < b) by omega)]; rfl
  · by_cases h2 : a ≥ b
    · rw [decide_eq_false h, decide_eq_true h2, decide_eq_false (show ¬ (0 ≤ a ∧ a < b) by omega)]; rfl
    · rw [decide_eq_false h, decide_eq_false h2, decide_eq_true (show 0 ≤ a ∧ a < b by omega)]; rfl
theorem below_go (e : List (List Int)) : ∀ l : List (List Int), guard_below.g0 e some l = some (l.all fun p => inR (List.getD p 0 0) (List.getD p 1 0))
  | [] => rfl
  | x :: xs => by
    have ih := below_go e xs
    simp only [guard_below.g0, List.all_cons]
    rw [ih, below_step]
    cases inR (List.getD x 0 0) (List.getD x 1 0) <;> rfl
theorem below_u {l : List (List Int)} (h : l.length ≤ 100) : guard_below.u l = some (l.all fun p => inR (List.getD p 0 0) (List.getD p 1 0)) := by
  unfold guard_below.u guard_below.w
  rw [dec_len h (by decide), cond_true, below_go]
theorem below1 (a b : Int) : guard_below.u [List.set (List.set (List.replicate 2 0) 0 a) 1 b] = some (inR a b) := by
  rw [below_u (by simp)]
  exact congrArg some (Bool.and_true _)
theorem below2 (a b c d : Int) : guard_below.u [List.set (List.set (List.replicate 2 0) 0 a) 1 b, List.set (List.set (List.replicate 2 0) 0 c) 1 d] = some (inR a b && inR c d) := by
  rw [below_u (by simp)]
  show some (inR a b && (inR c d && true)) = _
  rw [Bool.and_true]
theorem clock_t (t : Int) : clock_Fine.t t = decide (0 ≤ t ∧ t ≤ 1099511627776) := by
  unfold clock_Fine.t clock_held_int.t
  rw [Bool.eq_iff_iff, beq_iff_eq, decide_eq_true_eq]
  simp only
  constructor
  · intro h
    split at h <;> split at h <;> omega
  · intro h
    split <;> split <;> omega
theorem refclock_t (t : Int) : ref05_Fine.t t = decide (0 ≤ t ∧ t ≤ 1099511627776) := by
  unfold ref05_Fine.t
  by_cases h : t ≥ 0
  · simp [h]
  · simp [h, show ¬ 0 ≤ t by omega]
def clkF (t : Int) : Bool := decide (0 ≤ t ∧ t ≤ 1099511627776)

/-- What is wrong with a guard. -/
def okG : Gd → Bool
  | (k, (o, (v, (r, (n, _))))) => inR n 6 && (bif k == 1 then inR o 8 && inR r 8 else bif k == 2 then inR o 8 && word_Fine.t v else bif k == 3 then inR o 8 else bif k == 4 then clkF v else bif k == 6 then word_Fine.t v && inR r 8 else true)
def clG : Gd → Bool
  | (k, (o, (v, (r, (n, _))))) => bif k == 1 then v == 0 else bif k == 2 then r == 0 else bif k == 3 then v == 0 && r == 0 else bif k == 4 then o == 0 && r == 0 else bif k == 6 then o == 0 else (o == 0 && v == 0 && r == 0)
def chkG (g : Gd) : Int := bif decide (g.1 < 1) then 12 else bif decide (g.1 > 6) then 12 else bif okG g then (bif clG g then 0 else 3) else 8

theorem kind_cases {k : Int} (h1 : ¬ k < 1) (h2 : ¬ k > 6) : k = 1 ∨ k = 2 ∨ k = 3 ∨ k = 4 ∨ k = 5 ∨ k = 6 := by omega
theorem gcheck_u (g : Gd) : guard_Check.u g = some (chkG g) := by
  unfold guard_Check.u guard_Check.s chkG
  by_cases h1 : g.1 < 1
  · rw [decide_eq_true h1]; rfl
  by_cases h2 : g.1 > 6
  · rw [decide_eq_false h1, decide_eq_true h2]; rfl
  rw [decide_eq_false h1, decide_eq_false h2]
  simp only [cond_false]
  obtain ⟨k, o, v, r, n, u⟩ := g
  have hk := kind_cases h1 h2
  simp only at hk
  unfold guard_right.u guard_right.s
  simp only [below1, below2, clock_t, Option.bind_some]
  rcases hk with rfl | rfl | rfl | rfl | rfl | rfl
  · simp only [okG, clG, Int.reduceBEq, cond_true, cond_false, eqI, beq_self_eq_true]
    cases inR n 6 <;> cases inR o 8 <;> cases inR r 8 <;> (try rfl) <;> simp only [cond_true, cond_false, Option.bind_some, Bool.and_true, Bool.true_and, Bool.and_false, Bool.false_and, Bool.and_self, Bool.not_true, Bool.not_false, beq_self_eq_true] <;> cases (v == 0) <;> rfl
  · simp only [okG, clG, Int.reduceBEq, cond_true, cond_false, eqI, beq_self_eq_true]
    cases inR n 6 <;> cases inR o 8 <;> cases word_Fine.t v <;> (try rfl) <;> simp only [cond_true, cond_false, Option.bind_some, Bool.and_true, Bool.true_and, Bool.and_false, Bool.false_and, Bool.and_self, Bool.not_true, Bool.not_false, beq_self_eq_true] <;> cases (r == 0) <;> rfl
  · simp only [okG, clG, Int.reduceBEq, cond_true, cond_false, eqI, beq_self_eq_true]
    cases inR n 6 <;> cases inR o 8 <;> (try rfl) <;> simp only [cond_true, cond_false, Option.bind_some, Bool.and_true, Bool.true_and, Bool.and_false, Bool.false_and, Bool.and_self, Bool.not_true, Bool.not_false, beq_self_eq_true] <;> cases (v == 0) <;> cases (r == 0) <;> rfl
  · simp only [okG, clG, clkF, Int.reduceBEq, cond_true, cond_false, eqI, beq_self_eq_true]
    cases inR n 6 <;> cases decide (0 ≤ v ∧ v ≤ 1099511627776) <;> (try rfl) <;> simp only [cond_true, cond_false, Option.bind_some, Bool.and_true, Bool.true_and, Bool.and_false, Bool.false_and, Bool.and_self, Bool.not_true, Bool.not_false, beq_self_eq_true] <;> cases (o == 0) <;> cases (r == 0) <;> rfl
  · simp only [okG, clG, Int.reduceBEq, cond_true, cond_false, eqI, beq_self_eq_true]
    cases inR n 6 <;> (try rfl) <;> simp only [cond_true, cond_false, Option.bind_some, Bool.and_true, Bool.true_and, Bool.and_false, Bool.false_and, Bool.and_self, Bool.not_true, Bool.not_false, beq_self_eq_true] <;> cases (o == 0) <;> cases (v == 0) <;> cases (r == 0) <;> rfl
  · simp only [okG, clG, Int.reduceBEq, cond_true, cond_false, eqI, beq_self_eq_true]
    cases inR n 6 <;> cases inR r 8 <;> cases word_Fine.t v <;> (try rfl) <;> simp only [cond_true, cond_false, Option.bind_some, Bool.and_true, Bool.true_and, Bool.and_false, Bool.false_and, Bool.and_self, Bool.not_true, Bool.not_false, beq_self_eq_true] <;> cases (o == 0) <;> rfl

theorem cut1 (o v r n : Int) (b c : Bool) : ref25_Check.cut0 (1, (o, (v, (r, (n, ()))))) 1 b c = bif !(ref25_in.t n 6) then some 8 else bif !(ref25_in.t o 8) then some 8 else bif !(ref25_in.t r 8) then some 8 else bif (v != 0) then some 3 else some 0 := by
  rw [ref25_Check.cut0_eq]; kernel_rfl
theorem cut2 (o v r n : Int) (b c : Bool) : ref25_Check.cut0 (2, (o, (v, (r, (n, ()))))) 2 b c = bif !(ref25_in.t n 6) then some 8 else bif !(ref25_in.t o 8) then some 8 else bif !(ref08_Fine.t v) then some 8 else bif (r != 0) then some 3 else some 0 := by
  rw [ref25_Check.cut0_eq]; kernel_rfl
theorem cut3 (o v r n : Int) (b c : Bool) : ref25_Check.cut0 (3, (o, (v, (r, (n, ()))))) 3 b c = bif !(ref25_in.t n 6) then some 8 else bif !(ref25_in.t o 8) then some 8 else bif (v != 0) then some 3 else bif (r != 0) then some 3 else some 0 := by
  rw [ref25_Check.cut0_eq]; kernel_rfl
theorem cut4 (o v r n : Int) (b c : Bool) : ref25_Check.cut0 (4, (o, (v, (r, (n, ()))))) 4 b c = bif !(ref25_in.t n 6) then some 8 else bif !(ref05_Fine.t v) then some 8 else bif (o != 0) then some 3 else bif (r != 0) then some 3 else some 0 := by
  rw [ref25_Check.cut0_eq]; kernel_rfl
theorem cut5 (o v r n : Int) (b c : Bool) : ref25_Check.cut0 (5, (o, (v, (r, (n, ()))))) 5 b c = bif !(ref25_in.t n 6) then some 8 else bif (o != 0) then some 3 else bif (v != 0) then some 3 else bif (r != 0) then some 3 else some 0 := by
  rw [ref25_Check.cut0_eq]; kernel_rfl
theorem cut6 (o v r n : Int) (b c : Bool) : ref25_Check.cut0 (6, (o, (v, (r, (n, ()))))) 6 b c = bif !(ref25_in.t n 6) then some 8 else bif !(ref25_in.t r 8) then some 8 else bif !(ref08_Fine.t v) then some 8 else bif (o != 0) then some 3 else some 0 := by
  rw [ref25_Check.cut0_eq]; kernel_rfl
theorem rcheck_u (g : Gd) : ref25_Check.u g = some (chkG g) := by
  rw [ref25_Check.u_eq]
  unfold ref25_Check.u0 chkG
  by_cases h1 : g.1 < 1
  · rw [decide_eq_true h1]; rfl
  by_cases h2 : g.1 > 6
  · rw [decide_eq_false h1, decide_eq_true h2]; rfl
  rw [decide_eq_false h1, decide_eq_false h2]
  simp only [cond_false]
  obtain ⟨k, o, v, r, n, u⟩ := g
  have hk := kind_cases h1 h2
  simp only at hk
  rcases hk with rfl | rfl | rfl | rfl | rfl | rfl
  · rw [cut1]
    simp only [okG, clG, Int.reduceBEq, cond_true, cond_false, refin_t, bne]
    cases inR n 6 <;> cases inR o 8 <;> cases inR r 8 <;> cases (v == 0) <;> rfl
  · rw [cut2]
    simp only [okG, clG, Int.reduceBEq, cond_true, cond_false, refin_t, fine_eq, bne]
    cases inR n 6 <;> cases inR o 8 <;> cases word_Fine.t v <;> cases (r == 0) <;> rfl
  · rw [cut3]
    simp only [okG, clG, Int.reduceBEq, cond_true, cond_false, refin_t, bne]
    cases inR n 6 <;> cases inR o 8 <;> cases (v == 0) <;> cases (r == 0) <;> rfl
  · rw [cut4]
    simp only [okG, clG, clkF, Int.reduceBEq, cond_true, cond_false, refin_t, refclock_t, bne]
    cases inR n 6 <;> cases decide (0 ≤ v ∧ v ≤ 1099511627776) <;> cases (o == 0) <;> cases (r == 0) <;> rfl
  · rw [cut5]
    simp only [okG, clG, Int.reduceBEq, cond_true, cond_false, refin_t, bne]
    cases inR n 6 <;> cases (o == 0) <;> cases (v == 0) <;> cases (r == 0) <;> rfl
  · rw [cut6]
    simp only [okG, clG, Int.reduceBEq, cond_true, cond_false, refin_t, fine_eq, bne]
    cases inR n 6 <;> cases inR r 8 <;> cases word_Fine.t v <;> cases (o == 0) <;> rfl
end Go.Proofs.YtfihhbgppgkafaaDoor.K

/- The words' arithmetic: plain facts. -/
import Derived.Test.YtmphlhnpichonaaDoorY2
import Derived.IntWalk
set_option maxRecDepth 100000
set_option linter.unusedVariables false
set_option linter.unusedSimpArgs false
namespace Go.Proofs.YtmphlhnpichonaaDoor.K
open Go

theorem p43_true : p43 = true := by kernel_rfl
theorem t43_true : t43 = true := by kernel_rfl

theorem tmod_lit (x : Int) (n : Nat) : Int.tmod x n = if 0 ≤ x then x % n else -((-x) % n) := by
  split
  · rename_i h; exact Int.tmod_eq_emod_of_nonneg h
  · rename_i h
    have h1 : Int.tmod (-x) n = (-x) % n := Int.tmod_eq_emod_of_nonneg (by omega)
    rw [Int.neg_tmod] at h1
    omega
theorem tdiv_lit (x : Int) (n : Nat) : Int.tdiv x n = if 0 ≤ x then x / n else -((-x) / n) := by
  split
  · rename_i h; exact Int.tdiv_eq_ediv_of_nonneg h
  · rename_i h
    have h1 : Int.tdiv (-x) n = (-x) / n := Int.tdiv_eq_ediv_of_nonneg (by omega)
    rw [Int.neg_tdiv] at h1
    omega

def fit32 (x : Int) : Prop := -2147483648 ≤ x ∧ x ≤ 2147483647
def fit64 (x : Int) : Prop := -9223372036854775808 ≤ x ∧ x ≤ 9223372036854775807

/-- The word of a number. -/
def bm (x : Int) : Int := (x + 2147483648) % 4294967296 - 2147483648
theorem w32 (x : Int) : IntKind.wrap .i32 x = bm x := by
  unfold bm
  rw [IntKind.wrap_i32]
theorem w64 (x : Int) : IntKind.wrap .i64 x = (x + 9223372036854775808) % 18446744073709551616 - 9223372036854775808 := IntKind.wrap_i64 x
theorem bm_fit (x : Int) : fit32 (bm x) := by unfold fit32 bm; omega
theorem bm_id {x : Int} (h : fit32 x) : bm x = x := by unfold fit32 at h; unfold bm; omega
theorem w64_fit (x : Int) : fit64 (IntKind.wrap .i64 x) := by rw [w64]; unfold fit64; omega
theorem w64_id {x : Int} (h : fit64 x) : IntKind.wrap .i64 x = x := wrap_in h.1 h.2
theorem bm_w64 (x : Int) : bm (IntKind.wrap .i64 x) = bm x := by rw [w64]; unfold bm; omega

theorem t54_eq (x : Int) : t54 x = bm x := by
  unfold t54
  rw [w32, w64_id]
  have := bm_fit x
  unfold fit32 at this
  unfold fit64
  omega
theorem t55_eq {x : Int} (h : fit64 x) : t55 x = bm x := by
  unfold t55
  have hm := tmod_lit x 4294967296
  generalize hM : Int.tmod x 4294967296 = M at *
  have hM' : M = if 0 ≤ x then x % 4294967296 else -((-x) % 4294967296) := hm
  have h2 : IntKind.wrap .i64 (M + 4294967296) = M + 4294967296 := wrap_in (by split at hM' <;> omega) (by split at hM' <;> omega)
  have h3 : IntKind.wrap .i64 (M - 4294967296) = M - 4294967296 := wrap_in (by split at hM' <;> omega) (by split at hM' <;> omega)
  have h4 : IntKind.wrap .i64 (M + 4294967296 - 4294967296) = M := by rw [show M + 4294967296 - 4294967296 = M by omega]; exact wrap_in (by split at hM' <;> omega) (by split at hM' <;> omega)
  simp only [h2, h3, h4]
  unfold bm
  cases h5 : decide (M < 0) with
  | true =>
    have h5' : M < 0 := by simpa using h5
    cases h6 : decide (M + 4294967296 > 2147483647) with
    | true =>
      have h6' : M + 4294967296 > 2147483647 := by simpa using h6
      simp only [cond_true]
      split at hM' <;> omega
    | false =>
      have h6' : ¬ M + 4294967296 > 2147483647 := by simpa using h6
      simp only [cond_true, cond_false]
      split at hM' <;> omega
  | false =>
    have h5' : ¬ M < 0 := by simpa using h5
    cases h6 : decide (M > 2147483647) with
    | true =>
      have h6' : M > 2147483647 := by simpa using h6
      simp only [cond_true, cond_false]
      split at hM' <;> omega
    | false =>
      have h6' : ¬ M > 2147483647 := by simpa using h6
      simp only [cond_false]
      split at hM' <;> omega

theorem t52_fit {x : Int} : t52 x = true ↔ fit32 x := by
  unfold t52 fit32
  cases h : decide (x ≥ -2147483648) with
  | true => simp at h ⊢; omega
  | false => simp at h ⊢; omega
theorem t53_eq (x : Int) : t53 x = t52 x := rfl

theorem t71_eq {x : Int} (h : fit32 x) : t71 x = x % 4294967296 := by
  unfold t71
  unfold fit32 at h
  cases h1 : decide (x < 0) with
  | true =>
    have : x < 0 := by simpa using h1
    rw [cond_true, wrap_in (by omega) (by omega)]
    omega
  | false =>
    have : ¬ x < 0 := by simpa using h1
    rw [cond_false]
    omega

theorem half_floor {x : Int} (h : fit32 x) : st70 true x = x / 2 := by
  unfold st70
  unfold fit32 at h
  have hd := tdiv_lit x 2
  have hm := tmod_lit x 2
  simp only [Bool.not_true, cond_false]
  have e1 : Int.tdiv x 2 = if 0 ≤ x then x / 2 else -((-x) / 2) := hd
  have e2 : Int.tmod x 2 = if 0 ≤ x then x % 2 else -((-x) % 2) := hm
  have h3 : IntKind.wrap .i64 (Int.tdiv x 2) = Int.tdiv x 2 := wrap_in (by rw [e1]; split <;> omega) (by rw [e1]; split <;> omega)
  have h4 : IntKind.wrap .i64 (Int.tdiv x 2 - 1) = Int.tdiv x 2 - 1 := wrap_in (by rw [e1]; split <;> omega) (by rw [e1]; split <;> omega)
  simp only [h3, h4]
  cases h5 : decide (x < 0) with
  | true =>
    have h5' : x < 0 := by simpa using h5
    simp only [cond_true]
    cases h6 : ((Int.tmod x 2) != 0) with
    | true =>
      have h6' : Int.tmod x 2 ≠ 0 := by simpa using h6
      simp only [cond_true]
      rw [e2] at h6'; rw [e1]
      split at h6' <;> split <;> omega
    | false =>
      have h6' : Int.tmod x 2 = 0 := by simpa using h6
      simp only [cond_false]
      rw [e2] at h6'; rw [e1]
      split at h6' <;> split <;> omega
  | false =>
    have h5' : ¬ x < 0 := by simpa using h5
    simp only [cond_false]
    rw [e1]; split <;> omega

theorem shr_rep : ∀ (n : Nat) (x : Int), fit32 x → rep (st70 true) n x = x / 2 ^ n
  | 0, x, h => by simp [rep]
  | n + 1, x, h => by
    show rep (st70 true) n (st70 true x) = _
    rw [half_floor h, shr_rep n (x / 2) (by unfold fit32 at *; omega), Int.pow_succ, Int.mul_comm, Int.ediv_ediv_of_nonneg (by omega)]

theorem dbl {x : Int} (h : fit32 x) : st70 false x = bm (2 * x) := by
  unfold st70
  simp only [Bool.not_false, cond_true]
  unfold fit32 at h
  rw [wrap_in (by omega) (by omega), t55_eq (by unfold fit64; omega)]

theorem bm_mul (a x : Int) : bm (a * bm x) = bm (a * x) := by
  have : bm x = x - 4294967296 * ((x + 2147483648) / 4294967296) := by unfold bm; omega
  rw [this]
  unfold bm
  rw [Int.mul_sub, ← Int.mul_assoc, Int.mul_comm a 4294967296, Int.mul_assoc]
  omega

theorem shl_rep : ∀ (n : Nat) (x : Int), fit32 x → rep (st70 false) n x = bm (x * 2 ^ n)
  | 0, x, h => by simp [rep, bm_id h]
  | n + 1, x, h => by
    show rep (st70 false) n (st70 false x) = _
    rw [dbl h, shl_rep n _ (bm_fit _), Int.mul_comm, bm_mul, Int.pow_succ]
    congr 1
    rw [Int.mul_comm (2 ^ n), Int.mul_assoc, Int.mul_left_comm, Int.mul_comm (2 ^ n) 2, Int.mul_left_comm]
end Go.Proofs.YtmphlhnpichonaaDoor.K

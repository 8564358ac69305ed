/- becketlaw08.WordDoes, plainly. -/
import Derived.Test.YtmphlhnpichonaaDoorP8b
set_option maxRecDepth 100000
set_option linter.unusedVariables false
set_option linter.unusedSimpArgs false
namespace Go.Proofs.YtmphlhnpichonaaDoor.K
open Go

theorem rem_bound {a b : Int} (ha : fit32 a) (hb : b ≠ 0) : fit32 (Int.tmod a b) ∧ (-2147483648 ≤ Int.tdiv a b ∧ Int.tdiv a b ≤ 2147483648) := by
  unfold fit32 at *
  have h1 : (Int.tdiv a b).natAbs ≤ a.natAbs := by rw [Int.natAbs_tdiv]; exact Nat.div_le_self _ _
  have h2 : (Int.tmod a b).natAbs ≤ a.natAbs := by rw [Int.natAbs_tmod]; exact Nat.mod_le _ _
  have h3 : 0 ≤ a → 0 ≤ Int.tmod a b := fun h => Int.tmod_nonneg b h
  refine ⟨⟨by omega, ?_⟩, by omega, by omega⟩
  rcases Int.lt_or_le a 0 with h | h
  · have := Int.tmod_nonneg b (a := -a) (by omega)
    rw [Int.neg_tmod] at this
    omega
  · omega

theorem rem_eq {a b : Int} (ha : fit32 a) (hb : fit32 b) (h0 : b ≠ 0) : (IntKind.wrap .i64 (a - (IntKind.wrap .i64 (b * (IntKind.wrap .i64 (Int.tdiv a b)))))) = Int.tmod a b := by
  obtain ⟨h1, h2, h3⟩ := rem_bound ha h0
  have h4 : Int.tmod a b = a - b * Int.tdiv a b := Int.tmod_def a b
  unfold fit32 at h1 ha
  rw [wrap_in (x := Int.tdiv a b) (by omega) (by omega), wrap_in (x := b * Int.tdiv a b) (by omega) (by omega), ← h4, wrap_in (by omega) (by omega)]

theorem up_mod {x : Int} (h : fit32 x) : Int.tmod (t71 x) 32 = x % 32 := by
  rw [t71_eq h]
  have h1 : Int.tmod (x % 4294967296) ((32 : Nat) : Int) = (x % 4294967296) % ((32 : Nat) : Int) := Int.tmod_eq_emod_of_nonneg (by omega)
  have h2 : Int.tmod (x % 4294967296) 32 = (x % 4294967296) % 32 := h1
  rw [h2]; omega

theorem p70_ok (x1 x2 : Int) (b : Bool) : p70 x1 (x2 % 32) b = true := by
  unfold p70
  simp
  omega

theorem shl_law {a b : Int} (ha : fit32 a) : t54 (IntKind.wrap .i64 (a * (2 ^ (min (Int.toNat (b % 32)) (IntKind.bits .i64))))) = t70 a (b % 32) false := by
  have hm : min (Int.toNat (b % 32)) (IntKind.bits .i64) = Int.toNat (b % 32) := by
    show min (Int.toNat (b % 32)) 64 = _
    omega
  rw [hm, t54_eq, bm_w64]
  unfold t70
  rw [shl_rep _ _ ha]
theorem shr_law {a b : Int} (ha : fit32 a) : t54 (Int.fdiv a (2 ^ (min (Int.toNat (b % 32)) (IntKind.bits .i64)))) = t70 a (b % 32) true := by
  have hm : min (Int.toNat (b % 32)) (IntKind.bits .i64) = Int.toNat (b % 32) := by
    show min (Int.toNat (b % 32)) 64 = _
    omega
  rw [hm]
  unfold t70
  rw [shr_rep _ _ ha, Int.fdiv_eq_ediv_of_nonneg _ (by exact Int.le_of_lt (Int.pow_pos (by omega))), t54_eq, bm_id]
  have hp : (1 : Int) ≤ 2 ^ (b % 32).toNat := Int.pow_pos (by omega)
  unfold fit32 at *
  generalize (2 : Int) ^ (b % 32).toNat = q at *
  constructor
  · have := Int.le_ediv_of_mul_le (a := -2147483648) (b := a) (c := q) (by omega) (by
      have : -2147483648 * q ≤ -2147483648 * 1 := Int.mul_le_mul_of_nonpos_left (by omega) hp
      omega)
    exact this
  · exact Int.ediv_le_of_le_mul (by omega) (by
      have : 2147483647 * 1 ≤ 2147483647 * q := Int.mul_le_mul_of_nonneg_left hp (by omega)
      omega)

theorem do_law (x0 x1 x2 : Int) : p41 x0 x1 x2 = true ∧ p42 x0 x1 x2 = true ∧ t41 x0 x1 x2 = t42 x0 x1 x2 := by
  rcases Int.lt_or_le x0 1 with h | h
  · simp only [p41, p42, t41, t42, h, decide_true, cond_true, and_self]
  rcases Int.lt_or_le 12 x0 with h' | h'
  · have hn : ¬ x0 < 1 := by omega
    simp only [p41, p42, t41, t42, hn, h', gt_iff_lt, decide_true, decide_false, cond_true, cond_false, and_self]
  have hn : ¬ x0 < 1 := by omega
  have hn' : ¬ 12 < x0 := by omega
  cases h1 : t52 x1 with
  | false => simp only [p41, p42, t41, t42, t53_eq, h1, hn, hn', gt_iff_lt, decide_false, cond_false, Bool.not_false, cond_true, and_self]
  | true =>
    cases h2 : t52 x2 with
    | false => simp only [p41, p42, t41, t42, t53_eq, h1, h2, hn, hn', gt_iff_lt, decide_false, cond_false, Bool.not_false, Bool.not_true, cond_true, and_self]
    | true =>
      have f1 := t52_fit.1 h1
      have f2 := t52_fit.1 h2
      have hz : (x2 == 0) = true ∨ ((x2 == 0) = false ∧ x2 ≠ 0) := by
        cases e : (x2 == 0) with
        | true => exact .inl rfl
        | false => exact .inr ⟨rfl, by simpa using e⟩
      have l95 : ∀ b, t54 (t95 b) = t72 b := by intro b; cases b <;> decide
      have hcase : x0 = 1 ∨ x0 = 2 ∨ x0 = 3 ∨ x0 = 4 ∨ x0 = 5 ∨ x0 = 6 ∨ x0 = 7 ∨ x0 = 8 ∨ x0 = 9 ∨ x0 = 10 ∨ x0 = 11 ∨ x0 = 12 := by omega
      have up := up_mod f2
      have a31 := and31 x2
      have nn : decide ((0 : Int) ≤ x2 % 32) = true := by simp; omega
      rcases hcase with rfl | rfl | rfl | rfl | rfl | rfl | rfl | rfl | rfl | rfl | rfl | rfl <;>
        simp only [p41, p42, t41, t42, t53_eq, h1, h2, p69, t69, up, a31, nn, p70_ok, l95, Int.reduceLT, gt_iff_lt, Int.reduceBEq, decide_true, decide_false, cond_true, cond_false, Bool.not_false, Bool.not_true, and_self, true_and]
      · rw [t54_eq, t55_eq (w64_fit _)]
      · rw [t54_eq, t55_eq (w64_fit _)]
      · rw [t54_eq, t55_eq (w64_fit _)]
      · rcases hz with hz | ⟨hz, _⟩ <;> simp only [hz, cond_true, cond_false, Bool.not_false, and_self, true_and]
        rw [t54_eq, t55_eq (w64_fit _)]
      · rcases hz with hz | ⟨hz, h0⟩ <;> simp only [hz, cond_true, cond_false, Bool.not_false, and_self, true_and]
        rw [t54_eq, rem_eq f1 f2 h0, bm_id (rem_bound f1 h0).1]
      · rw [t54_eq, bm_w64, t73_eq f1 f2, and_eq]; rfl
      · rw [t54_eq, bm_w64, t73_eq f1 f2, or_eq]; rfl
      · rw [t54_eq, bm_w64, t73_eq f1 f2, xor_eq]; rfl
      · rw [shl_law f1]
      · rw [shr_law f1]

theorem law11 (x0 x1 x2 : Int) : p11 x0 x1 x2 = true ∧ t11 x0 x1 x2 = true := by
  obtain ⟨h1, h2, h3⟩ := do_law x0 x1 x2
  unfold p11 t11
  rw [h1, h2, h3, p43_true, t43_true]
  simp
end Go.Proofs.YtmphlhnpichonaaDoor.K

/- Words, plainly: sums and their like; a text is read again. -/
import Derived.Test.YtjhkagfolmhacaaGreatDoorL08a
import Derived.Test.YtjhkagfolmhacaaGreatDoorDig
import Derived.Test.YtjhkagfolmhacaaGreatDoorKF
import Derived.KernelRfl
set_option maxRecDepth 100000
set_option linter.unusedVariables false
set_option linter.unusedSimpArgs false
namespace Go.Proofs.YtjhkagfolmhacaaGreatDoor.K
open Go

/-- A number, wrapped to a word. -/
def bm (x : Int) : Int := (x + 2147483648) % 4294967296 - 2147483648
theorem w32 (x : Int) : IntKind.wrap .i32 x = bm x := by
  have : IntKind.wrap .i32 x = if x % 4294967296 < 2147483648 then x % 4294967296 else x % 4294967296 - 4294967296 := by
    simp [IntKind.wrap, IntKind.bits, IntKind.signed, IntKind.min, IntKind.max]
    split <;> split <;> omega
  rw [this]
  unfold bm
  split <;> omega
theorem bm_range (x : Int) : -2147483648 ≤ bm x ∧ bm x ≤ 2147483647 := by unfold bm; omega
theorem bm_fine {x : Int} (h : -2147483648 ≤ x ∧ x ≤ 2147483647) : bm x = x := by unfold bm; omega
theorem wrap_t (x : Int) : word_Wrap.t x = bm x := by
  unfold word_Wrap.t
  have := bm_range x
  rw [w32, wrapN ⟨by omega, by omega⟩]
theorem w64 (x : Int) : IntKind.wrap .i64 x = (x + 9223372036854775808) % 18446744073709551616 - 9223372036854775808 := by
  have : IntKind.wrap .i64 x = if x % 18446744073709551616 < 9223372036854775808 then x % 18446744073709551616 else x % 18446744073709551616 - 18446744073709551616 := by
    simp [IntKind.wrap, IntKind.bits, IntKind.signed, IntKind.min, IntKind.max]
    split <;> split <;> omega
  rw [this]
  split <;> omega
theorem bm_w64 (x : Int) : bm (IntKind.wrap .i64 x) = bm x := by rw [w64]; unfold bm; omega

theorem do_add {a b : Int} (ha : word_Fine.t a = true) (hb : word_Fine.t b = true) : word_Do.u 1 a b = some (bm (a + b), 0) := by
  unfold word_Do.u word_Do.s word_reckoned.u word_reckoned.s
  simp [ha, hb, wrap_t, bm_w64]
theorem do_sub {a b : Int} (ha : word_Fine.t a = true) (hb : word_Fine.t b = true) : word_Do.u 2 a b = some (bm (a - b), 0) := by
  unfold word_Do.u word_Do.s word_reckoned.u word_reckoned.s
  simp [ha, hb, wrap_t, bm_w64]
theorem do_mul {a b : Int} (ha : word_Fine.t a = true) (hb : word_Fine.t b = true) : word_Do.u 3 a b = some (bm (a * b), 0) := by
  unfold word_Do.u word_Do.s word_reckoned.u word_reckoned.s
  simp [ha, hb, wrap_t, bm_w64]
theorem do_div {a b : Int} (ha : word_Fine.t a = true) (hb : word_Fine.t b = true) (h0 : b ≠ 0) : word_Do.u 4 a b = some (bm (Int.tdiv a b), 0) := by
  unfold word_Do.u word_Do.s word_reckoned.u word_reckoned.s
  simp [ha, hb, wrap_t, bm_w64, beq_eq_false_iff_ne.2 h0]
theorem do_rem {a b : Int} (ha : word_Fine.t a = true) (hb : word_Fine.t b = true) (h0 : b ≠ 0) : word_Do.u 5 a b = some (bm (Int.tmod a b), 0) := by
  unfold word_Do.u word_Do.s word_reckoned.u word_reckoned.s
  simp [ha, hb, wrap_t, bm_w64, beq_eq_false_iff_ne.2 h0]

end Go.Proofs.YtjhkagfolmhacaaGreatDoor.K

/- becketlaw08.WordOne, plainly. -/
import Derived.Test.YtmphlhnpichonaaDoorY3
set_option maxRecDepth 100000
set_option linter.unusedVariables false
set_option linter.unusedSimpArgs false
namespace Go.Proofs.YtmphlhnpichonaaDoor.K
open Go

theorem dd_len : ∀ (n u : Nat), u ≤ n → (Lib.decDigits u).length ≤ u + 1
  | 0, u, h => by rw [Lib.decDigits, dif_pos (by omega)]; simp
  | n + 1, u, h => by
    rw [Lib.decDigits]
    split
    · simp
    · have := dd_len n (u / 10) (by omega)
      simp only [List.length_append, List.length_singleton]
      omega

theorem text_law {x0 : Int} (f : fit32 x0) : p46 x0 = true ∧ p51 x0 = true ∧ t46 x0 = t51 x0 := by
  have h1 := t52_fit.2 f
  have f' := f
  unfold fit32 at f'
  have hp78 : p78 x0 = true := by unfold p78; simp; omega
  rcases Int.lt_or_le x0 0 with h | h
  · have hw : IntKind.wrap .i64 (0 - x0) = 0 - x0 := wrap_in (by omega) (by omega)
    have hp79 : p79 (0 - x0) = true := by unfold p79; simp; omega
    have hlen := dd_len (0 - x0).toNat (0 - x0).toNat (Nat.le_refl _)
    have hsz : decide ((bs [45]).size + (t79 (0 - x0)).size ≤ catMax) = true := by
      have e1 : (t79 (0 - x0)).size = (Lib.decDigits (0 - x0).toNat).length := rfl
      have e2 : (bs [45]).size = 1 := rfl
      rw [e1, e2]
      unfold catMax
      exact decide_eq_true (by omega)
    simp only [p46, p51, t46, t51, t53_eq, h1, h, hw, hp78, hp79, hsz, Bool.not_true, cond_true, cond_false, decide_true, true_and]
    refine Prod.ext ?_ rfl
    apply ba_ext
    show Lib.itoa x0 = _
    rw [app_list, bs_list]
    unfold Lib.itoa t79
    rw [if_pos h, bs_list, show (0 - x0).toNat = x0.natAbs by omega]
    rfl
  · have hn : ¬ x0 < 0 := by omega
    have hp79 : p79 x0 = true := by unfold p79; simp; omega
    simp only [p46, p51, t46, t51, t53_eq, h1, hn, hp78, hp79, Bool.not_true, cond_true, cond_false, decide_false, true_and]
    refine Prod.ext ?_ rfl
    apply ba_ext
    show Lib.itoa x0 = _
    unfold Lib.itoa t79
    rw [if_neg hn, bs_list]

theorem not_bits {x0 : Int} (f : fit32 x0) : t54 (IntKind.wrap .i64 ((BitVec.ofInt (IntKind.bits .i64) x0 ^^^ BitVec.ofInt (IntKind.bits .i64) (-1)).toNat : Nat)) = IntKind.wrap .i64 ((-1) - x0) := by
  unfold fit32 at f
  have : (BitVec.ofInt 64 x0 ^^^ BitVec.ofInt 64 (-1)).toNat = (18446744073709551616 - 1 - x0 % 18446744073709551616).toNat := by
    rw [show BitVec.ofInt 64 (-1) = BitVec.allOnes 64 by decide, BitVec.xor_allOnes, BitVec.toNat_not, BitVec.toNat_ofInt]
    omega
  rw [t54_eq, bm_w64]
  show bm (((BitVec.ofInt 64 x0 ^^^ BitVec.ofInt 64 (-1)).toNat : Nat) : Int) = _
  rw [this, wrap_in (by omega) (by omega)]
  unfold bm
  omega

theorem not_law (x0 : Int) : p47 x0 = true ∧ t47 x0 = t48 x0 := by
  obtain ⟨h1, _, _⟩ := do_law 8 x0 (-1)
  have h2 : t52 (-1) = true := by decide
  cases h : t52 x0 with
  | false =>
    refine ⟨by simp only [p47, h1, cond_true], ?_⟩
    simp only [t47, h1, cond_true, t48, t53_eq, h, Bool.not_false]
    simp only [t41, h, Int.reduceLT, gt_iff_lt, decide_false, cond_false, Bool.not_false, cond_true]
  | true =>
    have f := t52_fit.1 h
    refine ⟨by simp only [p47, h1, cond_true], ?_⟩
    have hp : p69 8 x0 (-1) = true := by
      simp only [p69, Int.reduceBEq, cond_true, cond_false]
    simp only [t47, h1, cond_true, t48, t53_eq, h, Bool.not_true, cond_false]
    simp only [t41, h, h2, hp, Int.reduceLT, gt_iff_lt, Int.reduceBEq, decide_false, cond_false, Bool.not_true, cond_true]
    simp only [t69, Int.reduceBEq, cond_true, cond_false]
    rw [not_bits f]

theorem neg_law (x0 : Int) : p49 x0 = true ∧ t49 x0 = t50 x0 := by
  obtain ⟨h1, _, _⟩ := do_law 2 0 x0
  have h2 : t52 0 = true := by decide
  refine ⟨by simp only [p49, h1, cond_true], ?_⟩
  cases h : t52 x0 with
  | false =>
    simp only [t49, h1, cond_true, t50, t53_eq, h, Bool.not_false]
    simp only [t41, h, h2, Int.reduceLT, gt_iff_lt, decide_false, cond_false, Bool.not_false, Bool.not_true, cond_true]
  | true =>
    have hp : p69 2 0 x0 = true := by
      simp only [p69, Int.reduceBEq, cond_true, cond_false]
    simp only [t49, h1, cond_true, t50, t53_eq, h, Bool.not_true, cond_false]
    simp only [t41, h, h2, hp, Int.reduceLT, gt_iff_lt, Int.reduceBEq, decide_false, cond_false, Bool.not_true, cond_true]
    simp only [t69, Int.reduceBEq, cond_true, cond_false]
    rw [t54_eq, t55_eq (w64_fit _)]

theorem text_all (x0 : Int) : p46 x0 = true ∧ p51 x0 = true ∧ t46 x0 = t51 x0 := by
  cases h : t52 x0 with
  | true => exact text_law (t52_fit.1 h)
  | false => simp only [p46, p51, t46, t51, t53_eq, h, Bool.not_false, cond_true, and_self]

theorem wf64 {a : Int} (h : (Lit.int .i64 a).wf = true) : fit64 a := by
  unfold Lit.wf at h
  simp only [Bool.and_eq_true, decide_eq_true_eq] at h
  have e1 : IntKind.min .i64 = -9223372036854775808 := rfl
  have e2 : IntKind.max .i64 = 9223372036854775807 := rfl
  rw [e1, e2] at h
  exact h

theorem law14 (x0 : Int) (f : fit64 x0) : p14 x0 = true ∧ t14 x0 = true := by
  obtain ⟨a1, a2⟩ := not_law x0
  obtain ⟨b1, b2⟩ := neg_law x0
  obtain ⟨c1, c2, c3⟩ := text_all x0
  have d : t54 x0 = t55 x0 := by rw [t54_eq, t55_eq f]
  have e : eqI .bool (t52 x0) (t53 x0) = true := by show ((t52 x0 : Bool) == t52 x0) = true; simp
  unfold p14 t14
  simp only [a1, a2, b1, b2, c1, c2, c3, d, e, p43_true, t43_true, beq_self_eq_true, cond_true, and_self]
end Go.Proofs.YtmphlhnpichonaaDoor.K

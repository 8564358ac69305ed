/- Words, plainly: their texts, by the reference. -/
import Derived.Test.YtmmooplcdkmapaaGreatDoorL08a
set_option maxRecDepth 100000
set_option linter.unusedVariables false
set_option linter.unusedSimpArgs false
namespace Go.Proofs.YtmmooplcdkmapaaGreatDoor.K
open Go

theorem ref_text (n : Int) : ref08_Text.u n = some (textOf n) := by
  unfold ref08_Text.u ref08_Text.s textOf
  rw [fine_eq]
  cases h : word_Fine.t n with
  | false => rfl
  | true =>
    have hf := fine_iff.1 h
    simp only [Bool.not_true, cond_false, cond_true]
    by_cases hn : n < 0
    · have hw : IntKind.wrap .i64 (0 - n) = 0 - n := wrap_in (by omega) (by omega)
      have hlen := dd_len (0 - n).toNat (0 - n).toNat (Nat.le_refl _)
      have hsz : decide ((bs [45]).size + (bs (Lib.decDigits (0 - n).toNat)).size ≤ catMax) = true := by
        rw [bs_size, bs_size]
        unfold catMax
        exact decide_eq_true (by simp only [List.length_cons, List.length_nil]; omega)
      simp only [hn, decide_true, cond_true, hw, digits_u (show 0 ≤ 0 - n by omega) (by omega), Option.bind_some, hsz]
      congr 2
      apply ba_ext
      rw [app_list, bs_list, bs_list, txt_list]
      unfold Lib.itoa
      rw [if_pos hn, show (0 - n).toNat = n.natAbs by omega]
      rfl
    · simp only [hn, decide_false, cond_false, digits_u (show 0 ≤ n by omega) (by omega), Option.bind_some]
      congr 2
      apply ba_ext
      rw [bs_list, txt_list]
      unfold Lib.itoa
      rw [if_neg hn]
end Go.Proofs.YtmmooplcdkmapaaGreatDoor.K

/- Lists of numbers that are the same. -/
import Derived.Test.YthamolhikhcilaaDoorZ02
import Derived.Test.YthamolhikhcilaaDoorBas
set_option linter.unusedVariables false
set_option linter.unusedSimpArgs false
namespace Go.Proofs.YthamolhikhcilaaDoor.K
open Go

theorem same_go (ys : List Int) : ∀ (xs : List Int) (n : Nat), ys.drop n = xs → ref02_Same.g0 ys ys some xs (n : Int) = some true
  | [], n, h => rfl
  | x :: xs, n, h => by
    have hn : n < ys.length := by
      rcases Nat.lt_or_ge n ys.length with h' | h'
      · exact h'
      · rw [List.drop_eq_nil_of_le h'] at h; cases h
    have h1 := List.drop_eq_getElem_cons hn
    rw [h] at h1
    cases h1
    have hx : List.getD ys (Int.toNat (n : Int)) 0 = ys[n] := by
      rw [Int.toNat_natCast, List.getD_eq_getElem?_getD, List.getElem?_eq_getElem hn]; rfl
    have hi : idxOK (n : Int) (List.length ys) = true := by
      rw [idxOK_iff]; omega
    simp only [ref02_Same.g0, hi, cond_true, hx, bne_self_eq_false, cond_false]
    exact same_go ys _ (n + 1) rfl
theorem same_u {l : List Int} (h : l.length ≤ 1000000) : ref02_Same.u l l = some true := by
  unfold ref02_Same.u ref02_Same.w
  rw [bne_self_eq_false, cond_false, decide_eq_true (by omega), cond_true]
  exact same_go l l 0 rfl
end Go.Proofs.YthamolhikhcilaaDoor.K

/- Instructions, plainly: what a row gives. -/
import Derived.Test.YtmmooplcdkmapaaGreatDoorL10a
set_option maxRecDepth 100000
set_option linter.unusedVariables false
set_option linter.unusedSimpArgs false
namespace Go.Proofs.YtmmooplcdkmapaaGreatDoor.K
open Go

abbrev tyIn : ETy := .pair (.int .u8) (.pair (.int .u8) (.pair (.int .u8) (.pair (.int .u8) .unit)))
theorem eqIn (x : In) : eqI tyIn x x = true := eqI_self tyIn x rfl
theorem u8_of {n : Int} (h : (Lit.int .u8 n).wf = true) : 0 ≤ n ∧ n ≤ 255 := by
  simp [Lit.wf, IntKind.min, IntKind.max, IntKind.signed, IntKind.bits] at h
  omega
theorem inOK_of {x : In} (h : fits tyIn x) : InOK x := ⟨u8_of h.1, u8_of h.2.1, u8_of h.2.2.1, u8_of h.2.2.2.1⟩
end Go.Proofs.YtmmooplcdkmapaaGreatDoor.K

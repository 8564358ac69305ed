/- Frames, plainly: the laws Keeps, Goes. -/
import Derived.Test.YtjhkagfolmhacaaGreatDoorL13b
import Derived.Test.YtjhkagfolmhacaaGreatDoorKF
import Derived.KernelRfl
set_option maxRecDepth 100000
set_option linter.unusedVariables false
set_option linter.unusedSimpArgs false
namespace Go.Proofs.YtjhkagfolmhacaaGreatDoor.K
open Go

abbrev tyFr : ETy := .pair (.int .i64) (.pair .bool (.pair (.arr 8 (.int .i64)) (.pair (.arr 16 (.int .i64)) (.pair (.int .i64) (.pair (.arr 8 (.int .i64)) .unit)))))
theorem eqFr (f : Fr) : eqI tyFr f f = true := eqI_self tyFr f rfl

theorem frOK_of {f : Fr} (h : fits tyFr f) : FrOK f := ⟨h.2.2.1.1, h.2.2.2.1.1, h.2.2.2.2.2.1.1⟩
end Go.Proofs.YtjhkagfolmhacaaGreatDoor.K

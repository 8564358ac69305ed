/- Frames, plainly: the laws Keeps, Goes. -/
import Derived.Test.YtmphlhnpichonaaDoorL13b
import Derived.Test.YtmphlhnpichonaaDoorKF
import Derived.KernelRfl
set_option maxRecDepth 100000
set_option linter.unusedVariables false
set_option linter.unusedSimpArgs false
namespace Go.Proofs.YtmphlhnpichonaaDoor.K
open Go

theorem alive13 : law13_alive.u = some true := by kernel_rfl

abbrev tyFr : ETy := .pair (.int .i64) (.pair .bool (.pair (.arr 8 (.int .i64)) (.pair (.arr 16 (.int .i64)) (.pair (.int .i64) (.pair (.arr 8 (.int .i64)) .unit)))))
theorem eqFr (f : Fr) : eqI tyFr f f = true := eqI_self tyFr f rfl

theorem law_keeps {f : Fr} (h : FrOK f) (i x : Int) : law13_FrameKeeps.u f i x = some true := by
  unfold law13_FrameKeeps.u law13_FrameKeeps.s
  obtain ⟨a, a1, a2⟩ := frame_get h i
  obtain ⟨b, b1, b2⟩ := frame_load h i
  obtain ⟨c, c1, c2⟩ := frame_set h i x
  obtain ⟨d, d1, d2⟩ := frame_store h i x
  simp only [a1, a2, b1, b2, c1, c2, d1, d2, Option.bind_some, beq_self_eq_true, cond_true, eqFr, alive13]

theorem law_goes {f : Fr} (h : FrOK f) (i : Int) : law13_FrameGoes.u f i = some true := by
  unfold law13_FrameGoes.u law13_FrameGoes.s
  obtain ⟨a, a1, a2⟩ := frame_go h i
  obtain ⟨b, b1, b2⟩ := frame_call h i
  obtain ⟨c, c1, c2⟩ := frame_ret h
  simp only [a1, a2, b1, b2, c1, c2, Option.bind_some, beq_self_eq_true, cond_true, eqFr, alive13]

theorem frOK_of {f : Fr} (h : fits tyFr f) : FrOK f := ⟨h.2.2.1.1, h.2.2.2.1.1, h.2.2.2.2.2.1.1⟩
theorem row_FrameKeeps (xs : Args [tyFr, .int .i64, .int .i64]) (h : fitsA _ xs) : law13_FrameKeeps.u xs.1 xs.2.1 xs.2.2.1 = some true := law_keeps (frOK_of h.1) _ _
theorem row_FrameGoes (xs : Args [tyFr, .int .i64]) (h : fitsA _ xs) : law13_FrameGoes.u xs.1 xs.2.1 = some true := law_goes (frOK_of h.1) _
end Go.Proofs.YtmphlhnpichonaaDoor.K

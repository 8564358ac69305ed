/- The row of 'becketlaw10.InstrBack', and its card: for every input it returns true. -/
import Derived.Test.YtfihhbgppgkafaaDoorL10c
import Derived.Test.YtfihhbgppgkafaaDoorKF
import Derived.Test.YtfihhbgppgkafaaDoorCards
import Derived.Test.YtfihhbgppgkafaaDoorTie
import Derived.SevenTiedAt
import Derived.Shelf.Vars
import Derived.Handed
set_option maxRecDepth 100000
set_option linter.unusedVariables false
namespace Go.Proofs.YtfihhbgppgkafaaDoor
open Go.ChangeShapes Go.WideShapes Go.ChangeAt Go.RowKit

theorem instrBack_glob {W : World} (hL : laidMet Tryd.prog Rows.instrBackRow.laid W) (hSh : W.ShapedOpen Tryd.prog) : K.GlobOK K.CKM W.heap.size W (fun b _ => ((K.CKM.G b).isSome = true ∨ K.CKM.M b = true) ∧ b < W.heap.size) := by
  refine K.glob_of (fun g d hg => ?_) fun g hg => ?_
  rotate_left
  · rw [show g = 1 by simpa using (show (g == 1) = true from hg)]
    exact Go.Proofs.cell_of_shapedOpen_int (zero := #[.int .i64 0]) (t := 3) hSh (of_decide_eq_true (by kernel_rfl)) (by kernel_rfl) rfl (by kernel_rfl) (by kernel_rfl) Tryd.underlying3
  have hg1 : K.gK g = some d := hg
  unfold K.gK at hg1
  cases hK : (g == 0) with
  | false => rw [hK] at hg1; cases hg1
  | true =>
    rw [hK] at hg1
    cases hg1
    rw [show g = 0 by simpa using hK]
    exact K.tab_laid (n := "becket/opcode.kinds") (d := Rows.laid_becket_opcode_kinds) (g := 0) (t := 139) (τ := (.arr 48 (.pair .str (.pair .str (.pair (.int .i64) .unit))))) (x := K.kindsT) (by simp [Rows.instrBackRow]) hL (by kernel_rfl) (by kernel_rfl) (by kernel_rfl) (by kernel_rfl) (by kernel_rfl) (by kernel_rfl)

theorem instrBack_lifted (os : Os) (started : os.Started) (H : Type) (enc : TypeId × Value → H) :
    ReturnsInHanded {} Tryd.checked os 8 .any (fun w args => (Rows.instrBackSpec.pre enc Tryd.prog Tryd.f8 Rows.instrBackRow.domain false w args ∧ laidMet Tryd.prog Rows.instrBackRow.laid w) ∧ sizedMet enc Tryd.prog Tryd.f8 (OpenSpec.ofChange Rows.instrBackSpec) false w args)
      (Rows.instrBackSpec.post enc Tryd.prog Tryd.f8 false true false false) := by
  refine K.returns_shaped (C := Tryd.checked) (X := fun w _ => laidMet Tryd.prog Rows.instrBackRow.laid w) (fun _ _ _ hh h => h.of_heap hh) (show ownKnob Tryd.prog.godebug = none by kernel_rfl) started (by kernel_rfl) Tryd.func8
    (ChangeSpec.witness_at (enc := enc) (C := Tryd.checked) (os := os) (X := fun w _ => laidMet Tryd.prog Rows.instrBackRow.laid w) false (World.laidAll Tryd.prog os Rows.instrBackRow.laid) #[K.valOf (.pair (.int .u8) (.pair (.int .u8) (.pair (.int .u8) (.pair (.int .u8) .unit)))) (K.zc (.pair (.int .u8) (.pair (.int .u8) (.pair (.int .u8) (.pair (.int .u8) .unit))))), K.valOf .str (K.zc .str), K.valOf .str (K.zc .str)] 8 rfl (by kernel_rfl) (by kernel_rfl) (by kernel_rfl) (by kernel_rfl) (by kernel_rfl) (laidMet_laidAll _ (by kernel_rfl) (by kernel_rfl))) ?_
  intro W base args ds gs before hval0 hW hL hSh hwt
  have hval : ∀ (j : Nat) t v, Tryd.f8.params[j]? = some t → args[j]? = some v → Value.okWide Tryd.prog W .any base t v := hval0
  have hW' := hW
  obtain ⟨p, q, hA0, hV, rfl, hfz, hnd⟩ := hW
  have hA : DataW.TrodAll enc Tryd.prog W 0 (fun _ => true) true Tryd.f8.params.toList args.toList ds p := hA0
  rw [Tryd.params8] at hA hval hwt
  obtain ⟨rfl, rfl⟩ := trodVars_none hV
  clear hA0 hval0
  simp only [List.append_nil] at hW'
  refine (K.law_calls (C := K.CKM) (l := [(.pair (.int .u8) (.pair (.int .u8) (.pair (.int .u8) (.pair (.int .u8) .unit)))), .str, .str]) (ts := [47, 9, 9]) (K.GlobOK.more (instrBack_glob hL hSh) fun _ _ h => h) (fun b _ h => h.2) (by kernel_rfl) (by kernel_rfl) (by kernel_rfl) (fun xs hx => K.law10_InstrBack.c xs.1 xs.2.1 xs.2.2.1 true (K.row_InstrBack xs hx)) (vs := args.toList) (fun j t v h1 h2 => hval j t v (by simpa using h1) (by simpa using h2)) hA (fun x hx => hW'.lt x hx) hwt).mono fun e W' ⟨he, hb, ha⟩ => ?_
  subst he
  obtain ⟨v0, vs0, d0, ds0, p0, q0, e0, f0, g0, h0, hA0⟩ := trodAll_cons hA
  obtain ⟨v1, vs1, d1, ds1, p1, q1, e1, f1, g1, h1, hA1⟩ := trodAll_cons hA0
  obtain ⟨v2, vs2, d2, ds2, p2, q2, e2, f2, g2, h2, hA2⟩ := trodAll_cons hA1
  obtain ⟨_, ez, _⟩ := trodAll_nil hA2
  subst ez
  subst f2
  subst f1
  subst f0
  exact ⟨_, rfl, _, _, _, [], p, [], hW', trodAll_mk1 (shut_bool Tryd.underlying4 true), ha, rfl, hb.frame _, fun h => by cases h⟩

theorem instrBack_holds : Rows.InstrBackSaid :=
  OpenClaim.holds_of_wide 8 Tryd.f8 rfl rfl rfl rfl rfl rfl rfl ⟨rfl, rfl, rfl, rfl, rfl⟩ rfl rfl rfl rfl rfl (by kernel_rfl) Tryd.func8 (by kernel_rfl)
    (of_decide_eq_true (by kernel_rfl)) (by unfold Func.isWrapper; first | (rw [if_neg (by decide +kernel)]; exact ⟨rfl, rfl⟩) | (rw [if_pos (by decide +kernel)]; kernel_rfl))
    (fun os started H enc _ => instrBack_lifted os started H enc)

/-- The tied card. -/
theorem instrBack_card : Rows.InstrBackCardSaid :=
  Claim7.holds_tied_plain_at .later [] [.data] true (true, "65553c0787aa0259a1b5451a1c852170cb36523abd343e9faee317cad71d14b4") true
    instrBack_holds (fun _ h => by cases h) (by kernel_rfl) (fun _ h => by cases h) instrBack_row_tie rfl ⟨rfl, rfl⟩ (by kernel_rfl) rfl
    (fun f fn hf hfn => by
      obtain rfl : f = 8 := Option.some.inj ((show Tryd.prog.funcNamed "becket/becketlaw10.InstrBack" = some 8 by kernel_rfl).symm.trans hf) |>.symm
      obtain rfl : fn = Tryd.f8 := (Option.some.inj (Tryd.func8.symm.trans hfn)).symm
      exact ⟨by kernel_rfl, fun j t ht => by
        rw [Tryd.params8] at ht
        rcases j with _ | j
        · rw [show t = 47 by simpa using ht.symm]
          exact (show Tryd.prog.wantsStandIn 47 = false by kernel_rfl)
        rcases j with _ | j
        · rw [show t = 9 by simpa using ht.symm]
          exact (show Tryd.prog.wantsStandIn 9 = false by kernel_rfl)
        rcases j with _ | j
        · rw [show t = 9 by simpa using ht.symm]
          exact (show Tryd.prog.wantsStandIn 9 = false by kernel_rfl)
        simp at ht⟩)
    (by kernel_rfl)
end Go.Proofs.YtfihhbgppgkafaaDoor

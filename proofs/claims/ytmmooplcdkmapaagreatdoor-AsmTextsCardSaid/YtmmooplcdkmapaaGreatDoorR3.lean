/- The row of 'becketlaw11.AsmTexts', and its card: for every input it returns true. -/
import Derived.Test.YtmmooplcdkmapaaGreatDoorL11t
import Derived.Test.YtmmooplcdkmapaaGreatDoorKF
import Derived.Test.YtmmooplcdkmapaaGreatDoorCards
import Derived.Test.YtmmooplcdkmapaaGreatDoorTie
import Derived.SevenTiedAt
import Derived.Shelf.Vars
import Derived.Handed
set_option maxRecDepth 100000
set_option linter.unusedVariables false
namespace Go.Proofs.YtmmooplcdkmapaaGreatDoor
open Go.ChangeShapes Go.WideShapes Go.ChangeAt Go.RowKit

theorem K.law11_AsmTexts.c (x0 : ((.slice (.pair (.int .u8) (.pair (.int .u8) (.pair (.int .u8) (.pair (.int .u8) .unit))))) : K.ETy).I) (x1 : (.str : K.ETy).I) (r : Bool) (h : K.law11_AsmTexts.u x0 x1 = some r) : K.Contract K.CKMP 3 [.v (.slice (.pair (.int .u8) (.pair (.int .u8) (.pair (.int .u8) (.pair (.int .u8) .unit))))) x0, .v .str x1] (K.tupAV .bool [] r) := by
  obtain ⟨av, h1, h2⟩ := K.law11_AsmTexts.n.ok (Ω := K.AV) [.v (.slice (.pair (.int .u8) (.pair (.int .u8) (.pair (.int .u8) (.pair (.int .u8) .unit))))) x0, .v .str x1] some (K.tupAV .bool [] r) (by
    show ((K.law11_AsmTexts.u x0 x1).bind fun r => some (K.tupAV .bool [] r)) = _
    rw [h]; rfl)
  cases h1; exact h2

theorem asmTexts_glob {W : World} (hL : laidMet Tryz.prog Rows.asmTextsRow.laid W) (hSh : W.ShapedOpen Tryz.prog) : K.GlobOK K.CKMP W.heap.size W (fun b _ => ((K.CKMP.G b).isSome = true ∨ K.CKMP.M b = true) ∧ b < W.heap.size) := by
  refine K.glob_of (fun g d hg => ?_) fun g hg => ?_
  rotate_left
  · rw [show g = 1 by simpa using (show (g == 1) = true from hg)]
    exact Go.Proofs.cell_of_shapedOpen_int (zero := #[.int .i64 0]) (t := 3) hSh (of_decide_eq_true (by kernel_rfl)) (by kernel_rfl) rfl (by kernel_rfl) (by kernel_rfl) Tryz.underlying3
  have hg1 : K.orG K.gK K.gP g = some d := hg
  unfold K.orG K.gK K.gP at hg1
  cases hA : (g == 0) with
  | true =>
    rw [hA] at hg1
    cases hg1
    rw [show g = 0 by simpa using hA]
    exact K.tab_laid (n := "becket/opcode.kinds") (d := Rows.laid_becket_opcode_kinds) (g := 0) (t := 92) (τ := (.arr 48 (.pair .str (.pair .str (.pair (.int .i64) .unit))))) (x := K.kindsT) (by simp [Rows.asmTextsRow]) hL (by kernel_rfl) (by kernel_rfl) (by kernel_rfl) (by kernel_rfl) (by kernel_rfl) (by kernel_rfl)
  | false =>
    rw [hA] at hg1
    cases hB : (g == 4) with
    | false => rw [hB] at hg1; cases hg1
    | true =>
      rw [hB] at hg1
      cases hg1
      rw [show g = 4 by simpa using hB]
      exact K.tab_laid (n := "internal/strconv.uint64pow10") (d := Rows.laid_internal_strconv_uint64pow10) (g := 4) (t := 143) (τ := (.arr 20 (.int .u64))) (x := K.pow10) (by simp [Rows.asmTextsRow]) hL (by kernel_rfl) (by kernel_rfl) (by kernel_rfl) (by kernel_rfl) (by kernel_rfl) (by kernel_rfl)

theorem asmTexts_lifted (os : Os) (started : os.Started) (H : Type) (enc : TypeId × Value → H) :
    ReturnsInHanded {} Tryz.checked os 3 .any (fun w args => (Rows.asmTextsSpec.pre enc Tryz.prog Tryz.f3 Rows.asmTextsRow.domain false w args ∧ laidMet Tryz.prog Rows.asmTextsRow.laid w) ∧ sizedMet enc Tryz.prog Tryz.f3 (OpenSpec.ofChange Rows.asmTextsSpec) false w args)
      (Rows.asmTextsSpec.post enc Tryz.prog Tryz.f3 false true false false) := by
  refine K.returns_shaped (C := Tryz.checked) (X := fun w _ => laidMet Tryz.prog Rows.asmTextsRow.laid w) (fun _ _ _ hh h => h.of_heap hh) (show ownKnob Tryz.prog.godebug = none by kernel_rfl) started (by kernel_rfl) Tryz.func3
    (ChangeSpec.witness_at (enc := enc) (C := Tryz.checked) (os := os) (X := fun w _ => laidMet Tryz.prog Rows.asmTextsRow.laid w) false (World.laidAll Tryz.prog os Rows.asmTextsRow.laid) #[K.valOf (.slice (.pair (.int .u8) (.pair (.int .u8) (.pair (.int .u8) (.pair (.int .u8) .unit))))) (K.zc (.slice (.pair (.int .u8) (.pair (.int .u8) (.pair (.int .u8) (.pair (.int .u8) .unit)))))), K.valOf .str (K.zc .str)] 8 rfl (by kernel_rfl) (by kernel_rfl) (by kernel_rfl) (by kernel_rfl) (by kernel_rfl) (laidMet_laidAll _ (by kernel_rfl) (by kernel_rfl))) ?_
  intro W base args ds gs before hval0 hW hL hSh hwt
  have hval : ∀ (j : Nat) t v, Tryz.f3.params[j]? = some t → args[j]? = some v → Value.okWide Tryz.prog W .any base t v := hval0
  have hW' := hW
  obtain ⟨p, q, hA0, hV, rfl, hfz, hnd⟩ := hW
  have hA : DataW.TrodAll enc Tryz.prog W 0 (fun _ => true) true Tryz.f3.params.toList args.toList ds p := hA0
  rw [Tryz.params3] at hA hval hwt
  obtain ⟨rfl, rfl⟩ := trodVars_none hV
  clear hA0 hval0
  simp only [List.append_nil] at hW'
  refine (K.law_calls (C := K.CKMP) (l := [(.slice (.pair (.int .u8) (.pair (.int .u8) (.pair (.int .u8) (.pair (.int .u8) .unit))))), .str]) (ts := [22, 9]) (K.GlobOK.more (asmTexts_glob hL hSh) fun _ _ h => h) (fun b _ h => h.2) (by kernel_rfl) (by kernel_rfl) (by kernel_rfl) (fun xs hx => K.law11_AsmTexts.c xs.1 xs.2.1 true (K.row_AsmTexts xs hx)) (vs := args.toList) (fun j t v h1 h2 => hval j t v (by simpa using h1) (by simpa using h2)) hA (fun x hx => hW'.lt x hx) hwt).mono fun e W' ⟨he, hb, ha⟩ => ?_
  subst he
  obtain ⟨v0, vs0, d0, ds0, p0, q0, e0, f0, g0, h0, hA0⟩ := trodAll_cons hA
  obtain ⟨v1, vs1, d1, ds1, p1, q1, e1, f1, g1, h1, hA1⟩ := trodAll_cons hA0
  obtain ⟨_, ez, _⟩ := trodAll_nil hA1
  subst ez
  subst f1
  subst f0
  exact ⟨_, rfl, _, _, _, [], p, [], hW', trodAll_mk1 (shut_bool Tryz.underlying4 true), ha, rfl, hb.frame _, fun h => by cases h⟩

theorem asmTexts_holds : Rows.AsmTextsSaid :=
  OpenClaim.holds_of_wide 3 Tryz.f3 rfl rfl rfl rfl rfl rfl rfl ⟨rfl, rfl, rfl, rfl, rfl⟩ rfl rfl rfl rfl rfl (by kernel_rfl) Tryz.func3 (by kernel_rfl)
    (of_decide_eq_true (by kernel_rfl)) (by unfold Func.isWrapper; first | (rw [if_neg (by decide +kernel)]; exact ⟨rfl, rfl⟩) | (rw [if_pos (by decide +kernel)]; kernel_rfl))
    (fun os started H enc _ => asmTexts_lifted os started H enc)

/-- The tied card. -/
theorem asmTexts_card : Rows.AsmTextsCardSaid :=
  Claim7.holds_tied_plain_at .later [] [.data, .data, .data, .data, .data, .sentinel, .sentinel, .pinned] true (true, "fd08bb554309f89e92c56c2517c2d19dbad1dbfd162da3d30494527486a2e28f") true
    asmTexts_holds (fun _ h => by cases h) (by kernel_rfl) (fun _ h => by cases h) asmTexts_row_tie rfl ⟨rfl, rfl⟩ (by kernel_rfl) rfl
    (fun f fn hf hfn => by
      obtain rfl : f = 3 := Option.some.inj ((show Tryz.prog.funcNamed "becket/becketlaw11.AsmTexts" = some 3 by kernel_rfl).symm.trans hf) |>.symm
      obtain rfl : fn = Tryz.f3 := (Option.some.inj (Tryz.func3.symm.trans hfn)).symm
      exact ⟨by kernel_rfl, fun j t ht => by
        rw [Tryz.params3] at ht
        rcases j with _ | j
        · rw [show t = 22 by simpa using ht.symm]
          exact (show Tryz.prog.wantsStandIn 22 = false by kernel_rfl)
        rcases j with _ | j
        · rw [show t = 9 by simpa using ht.symm]
          exact (show Tryz.prog.wantsStandIn 9 = false by kernel_rfl)
        simp at ht⟩)
    (by kernel_rfl)
end Go.Proofs.YtmmooplcdkmapaaGreatDoor

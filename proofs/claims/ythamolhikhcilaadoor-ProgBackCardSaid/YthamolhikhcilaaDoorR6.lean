/- The row of 'becketlaw12.ProgBack', and its card: for every input it returns true. -/
import Derived.Test.YthamolhikhcilaaDoorL12e
import Derived.Test.YthamolhikhcilaaDoorKF
import Derived.Test.YthamolhikhcilaaDoorCards
import Derived.Test.YthamolhikhcilaaDoorTie
import Derived.SevenTiedAt
import Derived.Shelf.Vars
import Derived.Handed
set_option maxRecDepth 100000
set_option linter.unusedVariables false
namespace Go.Proofs.YthamolhikhcilaaDoor
open Go.ChangeShapes Go.WideShapes Go.ChangeAt Go.RowKit

theorem progBack_glob {W : World} (hL : laidMet Tryd.prog Rows.progBackRow.laid W) (hSh : W.ShapedOpen Tryd.prog) : K.GlobOK K.CK W.heap.size W (fun b _ => ((K.CK.G b).isSome = true ∨ K.CK.M b = true) ∧ b < W.heap.size) := by
  refine K.glob_of (fun g d hg => ?_) (fun g hg => by cases hg)
  have hg1 : K.gK g = some d := hg
  unfold K.gK at hg1
  cases hK : (g == 0) with
  | false => rw [hK] at hg1; cases hg1
  | true =>
    rw [hK] at hg1
    cases hg1
    rw [show g = 0 by simpa using hK]
    exact K.tab_laid (n := "becket/opcode.kinds") (d := Rows.laid_becket_opcode_kinds) (g := 0) (t := 125) (τ := (.arr 48 (.pair .str (.pair .str (.pair (.int .i64) .unit))))) (x := K.kindsT) (by simp [Rows.progBackRow]) hL (by kernel_rfl) (by kernel_rfl) (by kernel_rfl) (by kernel_rfl) (by kernel_rfl) (by kernel_rfl)

theorem progBack_lifted (os : Os) (started : os.Started) (H : Type) (enc : TypeId × Value → H) :
    ReturnsInHanded {} Tryd.checked os 6 .any (fun w args => (Rows.progBackSpec.pre enc Tryd.prog Tryd.f6 Rows.progBackRow.domain false w args ∧ laidMet Tryd.prog Rows.progBackRow.laid w) ∧ sizedMet enc Tryd.prog Tryd.f6 (OpenSpec.ofChange Rows.progBackSpec) false w args)
      (Rows.progBackSpec.post enc Tryd.prog Tryd.f6 false true false false) := by
  refine K.returns_shaped (C := Tryd.checked) (X := fun w _ => laidMet Tryd.prog Rows.progBackRow.laid w) (fun _ _ _ hh h => h.of_heap hh) (show ownKnob Tryd.prog.godebug = none by kernel_rfl) started (by kernel_rfl) Tryd.func6
    (ChangeSpec.witness_at (enc := enc) (C := Tryd.checked) (os := os) (X := fun w _ => laidMet Tryd.prog Rows.progBackRow.laid w) false (World.laidAll Tryd.prog os Rows.progBackRow.laid) #[K.valOf (.slice (.pair (.int .u8) (.pair (.int .u8) (.pair (.int .u8) (.pair (.int .u8) .unit))))) (K.zc (.slice (.pair (.int .u8) (.pair (.int .u8) (.pair (.int .u8) (.pair (.int .u8) .unit)))))), K.valOf .str (K.zc .str), K.valOf .str (K.zc .str)] 8 rfl (by kernel_rfl) (by kernel_rfl) (by kernel_rfl) (by kernel_rfl) (by kernel_rfl) (laidMet_laidAll _ (by kernel_rfl) (by kernel_rfl))) ?_
  intro W base args ds gs before hval0 hW hL hSh hwt
  have hval : ∀ (j : Nat) t v, Tryd.f6.params[j]? = some t → args[j]? = some v → Value.okWide Tryd.prog W .any base t v := hval0
  have hW' := hW
  obtain ⟨p, q, hA0, hV, rfl, hfz, hnd⟩ := hW
  have hA : DataW.TrodAll enc Tryd.prog W 0 (fun _ => true) true Tryd.f6.params.toList args.toList ds p := hA0
  rw [Tryd.params6] at hA hval hwt
  obtain ⟨rfl, rfl⟩ := trodVars_none hV
  clear hA0 hval0
  simp only [List.append_nil] at hW'
  refine (K.law_calls (C := K.CK) (l := [(.slice (.pair (.int .u8) (.pair (.int .u8) (.pair (.int .u8) (.pair (.int .u8) .unit))))), .str, .str]) (ts := [22, 9, 9]) (K.GlobOK.more (progBack_glob hL hSh) fun _ _ h => h) (fun b _ h => h.2) (by kernel_rfl) (by kernel_rfl) (by kernel_rfl) (fun xs hx => K.law12_ProgBack.c xs.1 xs.2.1 xs.2.2.1 true (K.row_ProgBack xs hx)) (vs := args.toList) (fun j t v h1 h2 => hval j t v (by simpa using h1) (by simpa using h2)) hA (fun x hx => hW'.lt x hx) hwt).mono fun e W' ⟨he, hb, ha⟩ => ?_
  subst he
  obtain ⟨v0, vs0, d0, ds0, p0, q0, e0, f0, g0, h0, hA0⟩ := trodAll_cons hA
  obtain ⟨v1, vs1, d1, ds1, p1, q1, e1, f1, g1, h1, hA1⟩ := trodAll_cons hA0
  obtain ⟨v2, vs2, d2, ds2, p2, q2, e2, f2, g2, h2, hA2⟩ := trodAll_cons hA1
  obtain ⟨_, ez, _⟩ := trodAll_nil hA2
  subst ez
  subst f2
  subst f1
  subst f0
  exact ⟨_, rfl, _, _, _, [], p, [], hW', trodAll_mk1 (shut_bool Tryd.underlying4 true), ha, rfl, hb.frame _, fun h => by cases h⟩

theorem progBack_holds : Rows.ProgBackSaid :=
  OpenClaim.holds_of_wide 6 Tryd.f6 rfl rfl rfl rfl rfl rfl rfl ⟨rfl, rfl, rfl, rfl, rfl⟩ rfl rfl rfl rfl rfl (by kernel_rfl) Tryd.func6 (by kernel_rfl)
    (of_decide_eq_true (by kernel_rfl)) (by unfold Func.isWrapper; first | (rw [if_neg (by decide +kernel)]; exact ⟨rfl, rfl⟩) | (rw [if_pos (by decide +kernel)]; kernel_rfl))
    (fun os started H enc _ => progBack_lifted os started H enc)

/-- The tied card. -/
theorem progBack_card : Rows.ProgBackCardSaid :=
  Claim7.holds_tied_plain_at .later [] [.data] true (true, "35fbf2571ad762997198bbbcf2a41ac83dc07e96c06213a6dc4bd0b3db14244e") true
    progBack_holds (fun _ h => by cases h) (by kernel_rfl) (fun _ h => by cases h) progBack_row_tie rfl ⟨rfl, rfl⟩ (by kernel_rfl) rfl
    (fun f fn hf hfn => by
      obtain rfl : f = 6 := Option.some.inj ((show Tryd.prog.funcNamed "becket/becketlaw12.ProgBack" = some 6 by kernel_rfl).symm.trans hf) |>.symm
      obtain rfl : fn = Tryd.f6 := (Option.some.inj (Tryd.func6.symm.trans hfn)).symm
      exact ⟨by kernel_rfl, fun j t ht => by
        rw [Tryd.params6] at ht
        rcases j with _ | j
        · rw [show t = 22 by simpa using ht.symm]
          exact (show Tryd.prog.wantsStandIn 22 = false by kernel_rfl)
        rcases j with _ | j
        · rw [show t = 9 by simpa using ht.symm]
          exact (show Tryd.prog.wantsStandIn 9 = false by kernel_rfl)
        rcases j with _ | j
        · rw [show t = 9 by simpa using ht.symm]
          exact (show Tryd.prog.wantsStandIn 9 = false by kernel_rfl)
        simp at ht⟩)
    (by kernel_rfl)
end Go.Proofs.YthamolhikhcilaaDoor

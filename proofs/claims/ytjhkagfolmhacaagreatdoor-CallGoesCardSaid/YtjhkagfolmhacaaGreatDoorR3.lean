/- The row of 'becketlaw15.CallGoes', and its card: for every input it returns true. -/
import Derived.Test.YtjhkagfolmhacaaGreatDoorL15i
import Derived.Test.YtjhkagfolmhacaaGreatDoorKF
import Derived.Test.YtjhkagfolmhacaaGreatDoorCards
import Derived.Test.YtjhkagfolmhacaaGreatDoorTie
import Derived.SevenTiedAt
import Derived.Shelf.Vars
import Derived.Handed
set_option maxRecDepth 100000
set_option linter.unusedVariables false
namespace Go.Proofs.YtjhkagfolmhacaaGreatDoor
open Go.ChangeShapes Go.WideShapes Go.ChangeAt Go.RowKit

theorem callGoes_glob {W : World} (hL : laidMet Tryz.prog Rows.callGoesRow.laid W) (hSh : W.ShapedOpen Tryz.prog) : K.GlobOK K.CKM W.heap.size W (fun b _ => ((K.CKM.G b).isSome = true ∨ K.CKM.M b = true) ∧ b < W.heap.size) := by
  refine K.glob_of (fun g d hg => ?_) fun g hg => ?_
  rotate_left
  · rw [show g = 1 by simpa using (show (g == 1) = true from hg)]
    exact Go.Proofs.cell_of_shapedOpen_int (zero := #[.int .i64 0]) (t := 3) hSh (of_decide_eq_true (by kernel_rfl)) (by kernel_rfl) rfl (by kernel_rfl) (by kernel_rfl) Tryz.underlying3
  have hg1 : K.gK g = some d := hg
  unfold K.gK at hg1
  cases hK : (g == 0) with
  | false => rw [hK] at hg1; cases hg1
  | true =>
    rw [hK] at hg1
    cases hg1
    rw [show g = 0 by simpa using hK]
    exact K.tab_laid (n := "becket/opcode.kinds") (d := Rows.laid_becket_opcode_kinds) (g := 0) (t := 110) (τ := (.arr 48 (.pair .str (.pair .str (.pair (.int .i64) .unit))))) (x := K.kindsT) (by simp [Rows.callGoesRow]) hL (by kernel_rfl) (by kernel_rfl) (by kernel_rfl) (by kernel_rfl) (by kernel_rfl) (by kernel_rfl)

theorem callGoes_lifted (os : Os) (started : os.Started) (H : Type) (enc : TypeId × Value → H) :
    ReturnsInHanded {} Tryz.checked os 5 .any (fun w args => (Rows.callGoesSpec.pre enc Tryz.prog Tryz.f5 Rows.callGoesRow.domain false w args ∧ laidMet Tryz.prog Rows.callGoesRow.laid w) ∧ sizedMet enc Tryz.prog Tryz.f5 (OpenSpec.ofChange Rows.callGoesSpec) false w args)
      (Rows.callGoesSpec.post enc Tryz.prog Tryz.f5 false true false false) := by
  refine K.returns_shaped (C := Tryz.checked) (X := fun w _ => laidMet Tryz.prog Rows.callGoesRow.laid w) (fun _ _ _ hh h => h.of_heap hh) (show ownKnob Tryz.prog.godebug = none by kernel_rfl) started (by kernel_rfl) Tryz.func5
    (ChangeSpec.witness_at (enc := enc) (C := Tryz.checked) (os := os) (X := fun w _ => laidMet Tryz.prog Rows.callGoesRow.laid w) false (World.laidAll Tryz.prog os Rows.callGoesRow.laid) #[K.valOf (.slice (.pair (.int .u8) (.pair (.int .u8) (.pair (.int .u8) (.pair (.int .u8) .unit))))) (K.zc (.slice (.pair (.int .u8) (.pair (.int .u8) (.pair (.int .u8) (.pair (.int .u8) .unit)))))), K.valOf (.pair (.pair (.int .i64) (.pair .bool (.pair (.arr 8 (.int .i64)) (.pair (.arr 16 (.int .i64)) (.pair (.int .i64) (.pair (.arr 8 (.int .i64)) .unit)))))) (.pair (.pair (.int .i64) (.pair (.int .i64) (.pair (.int .i64) (.pair (.int .i64) (.pair (.int .i64) .unit))))) (.pair (.int .i64) (.pair .bool .unit)))) (K.zc (.pair (.pair (.int .i64) (.pair .bool (.pair (.arr 8 (.int .i64)) (.pair (.arr 16 (.int .i64)) (.pair (.int .i64) (.pair (.arr 8 (.int .i64)) .unit)))))) (.pair (.pair (.int .i64) (.pair (.int .i64) (.pair (.int .i64) (.pair (.int .i64) (.pair (.int .i64) .unit))))) (.pair (.int .i64) (.pair .bool .unit))))), K.valOf (.int .u8) (K.zc (.int .u8))] 8 rfl (by kernel_rfl) (by kernel_rfl) (by kernel_rfl) (by kernel_rfl) (by kernel_rfl) (laidMet_laidAll _ (by kernel_rfl) (by kernel_rfl))) ?_
  intro W base args ds gs before hval0 hW hL hSh hwt
  have hval : ∀ (j : Nat) t v, Tryz.f5.params[j]? = some t → args[j]? = some v → Value.okWide Tryz.prog W .any base t v := hval0
  have hW' := hW
  obtain ⟨p, q, hA0, hV, rfl, hfz, hnd⟩ := hW
  have hA : DataW.TrodAll enc Tryz.prog W 0 (fun _ => true) true Tryz.f5.params.toList args.toList ds p := hA0
  rw [Tryz.params5] at hA hval hwt
  obtain ⟨rfl, rfl⟩ := trodVars_none hV
  clear hA0 hval0
  simp only [List.append_nil] at hW'
  refine (K.law_calls (C := K.CKM) (l := [(.slice (.pair (.int .u8) (.pair (.int .u8) (.pair (.int .u8) (.pair (.int .u8) .unit))))), (.pair (.pair (.int .i64) (.pair .bool (.pair (.arr 8 (.int .i64)) (.pair (.arr 16 (.int .i64)) (.pair (.int .i64) (.pair (.arr 8 (.int .i64)) .unit)))))) (.pair (.pair (.int .i64) (.pair (.int .i64) (.pair (.int .i64) (.pair (.int .i64) (.pair (.int .i64) .unit))))) (.pair (.int .i64) (.pair .bool .unit)))), (.int .u8)]) (ts := [22, 47, 5]) (K.GlobOK.more (callGoes_glob hL hSh) fun _ _ h => h) (fun b _ h => h.2) (by kernel_rfl) (by kernel_rfl) (by kernel_rfl) (fun xs hx => K.law15_CallGoes.c xs.1 xs.2.1 xs.2.2.1 true (K.row_CallGoes xs hx)) (vs := args.toList) (fun j t v h1 h2 => hval j t v (by simpa using h1) (by simpa using h2)) hA (fun x hx => hW'.lt x hx) hwt).mono fun e W' ⟨he, hb, ha⟩ => ?_
  subst he
  obtain ⟨v0, vs0, d0, ds0, p0, q0, e0, f0, g0, h0, hA0⟩ := trodAll_cons hA
  obtain ⟨v1, vs1, d1, ds1, p1, q1, e1, f1, g1, h1, hA1⟩ := trodAll_cons hA0
  obtain ⟨v2, vs2, d2, ds2, p2, q2, e2, f2, g2, h2, hA2⟩ := trodAll_cons hA1
  obtain ⟨_, ez, _⟩ := trodAll_nil hA2
  subst ez
  subst f2
  subst f1
  subst f0
  exact ⟨_, rfl, _, _, _, [], p, [], hW', trodAll_mk1 (shut_bool Tryz.underlying4 true), ha, rfl, hb.frame _, fun h => by cases h⟩

theorem callGoes_holds : Rows.CallGoesSaid :=
  OpenClaim.holds_of_wide 5 Tryz.f5 rfl rfl rfl rfl rfl rfl rfl ⟨rfl, rfl, rfl, rfl, rfl⟩ rfl rfl rfl rfl rfl (by kernel_rfl) Tryz.func5 (by kernel_rfl)
    (of_decide_eq_true (by kernel_rfl)) (by unfold Func.isWrapper; first | (rw [if_neg (by decide +kernel)]; exact ⟨rfl, rfl⟩) | (rw [if_pos (by decide +kernel)]; kernel_rfl))
    (fun os started H enc _ => callGoes_lifted os started H enc)

/-- The tied card. -/
theorem callGoes_card : Rows.CallGoesCardSaid :=
  Claim7.holds_tied_plain_at .later [] [.data] true (true, "30e88f5a2bd40e01ee637f17a7285a2381629646eb3b873c4151cdb4d806e85f") false
    callGoes_holds (fun _ h => by cases h) (by kernel_rfl) (fun _ h => by cases h) callGoes_row_tie rfl ⟨rfl, rfl⟩ (by kernel_rfl) rfl
    (fun f fn hf hfn => by
      obtain rfl : f = 5 := Option.some.inj ((show Tryz.prog.funcNamed "becket/becketlaw15.CallGoes" = some 5 by kernel_rfl).symm.trans hf) |>.symm
      obtain rfl : fn = Tryz.f5 := (Option.some.inj (Tryz.func5.symm.trans hfn)).symm
      exact ⟨by kernel_rfl, fun j t ht => by
        rw [Tryz.params5] at ht
        rcases j with _ | j
        · rw [show t = 22 by simpa using ht.symm]
          exact (show Tryz.prog.wantsStandIn 22 = false by kernel_rfl)
        rcases j with _ | j
        · rw [show t = 47 by simpa using ht.symm]
          exact (show Tryz.prog.wantsStandIn 47 = false by kernel_rfl)
        rcases j with _ | j
        · rw [show t = 5 by simpa using ht.symm]
          exact (show Tryz.prog.wantsStandIn 5 = false by kernel_rfl)
        simp at ht⟩)
    (by kernel_rfl)
end Go.Proofs.YtjhkagfolmhacaaGreatDoor

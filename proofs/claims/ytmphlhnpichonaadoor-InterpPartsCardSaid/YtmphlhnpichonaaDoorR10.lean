/- The row of 'becketlaw14.InterpParts', and its card: for every input it returns true. -/
import Derived.Test.YtmphlhnpichonaaDoorL14d
import Derived.Test.YtmphlhnpichonaaDoorKF
import Derived.Test.YtmphlhnpichonaaDoorCards
import Derived.Test.YtmphlhnpichonaaDoorTie
import Derived.SevenTiedAt
import Derived.Shelf.Vars
import Derived.Handed
set_option maxRecDepth 100000
set_option linter.unusedVariables false
namespace Go.Proofs.YtmphlhnpichonaaDoor
open Go.ChangeShapes Go.WideShapes Go.ChangeAt Go.RowKit

theorem interpParts_glob {W : World} (hL : laidMet Tryd.prog Rows.interpPartsRow.laid W) (hSh : W.ShapedOpen Tryd.prog) : K.GlobOK K.CKM W.heap.size W (fun b _ => ((K.CKM.G b).isSome = true ∨ K.CKM.M b = true) ∧ b < W.heap.size) := by
  refine K.glob_of (fun g d hg => ?_) fun g hg => ?_
  rotate_left
  · rw [show g = 3 by simpa using (show (g == 3) = true from hg)]
    exact Go.Proofs.cell_of_shapedOpen_int (zero := #[.int .i64 0]) (t := 3) hSh (of_decide_eq_true (by kernel_rfl)) (by kernel_rfl) rfl (by kernel_rfl) (by kernel_rfl) Tryd.underlying3
  have hg1 : K.gK g = some d := hg
  unfold K.gK at hg1
  cases hK : (g == 0) with
  | false => rw [hK] at hg1; cases hg1
  | true =>
    rw [hK] at hg1
    cases hg1
    rw [show g = 0 by simpa using hK]
    exact K.tab_laid (n := "becket/opcode.kinds") (d := Rows.laid_becket_opcode_kinds) (g := 0) (t := 130) (τ := (.arr 48 (.pair .str (.pair .str (.pair (.int .i64) .unit))))) (x := K.kindsT) (by simp [Rows.interpPartsRow]) hL (by kernel_rfl) (by kernel_rfl) (by kernel_rfl) (by kernel_rfl) (by kernel_rfl) (by kernel_rfl)

theorem interpParts_lifted (os : Os) (started : os.Started) (H : Type) (enc : TypeId × Value → H) :
    ReturnsInHanded {} Tryd.checked os 10 .any (fun w args => (Rows.interpPartsSpec.pre enc Tryd.prog Tryd.f10 Rows.interpPartsRow.domain false w args ∧ laidMet Tryd.prog Rows.interpPartsRow.laid w) ∧ sizedMet enc Tryd.prog Tryd.f10 (OpenSpec.ofChange Rows.interpPartsSpec) false w args)
      (Rows.interpPartsSpec.post enc Tryd.prog Tryd.f10 false true false false) := by
  refine K.returns_shaped (C := Tryd.checked) (X := fun w _ => laidMet Tryd.prog Rows.interpPartsRow.laid w) (fun _ _ _ hh h => h.of_heap hh) (show ownKnob Tryd.prog.godebug = none by kernel_rfl) started (by kernel_rfl) Tryd.func10
    (ChangeSpec.witness_at (enc := enc) (C := Tryd.checked) (os := os) (X := fun w _ => laidMet Tryd.prog Rows.interpPartsRow.laid w) false (World.laidAll Tryd.prog os Rows.interpPartsRow.laid) #[K.valOf (.slice (.pair (.int .u8) (.pair (.int .u8) (.pair (.int .u8) (.pair (.int .u8) .unit))))) (K.zc (.slice (.pair (.int .u8) (.pair (.int .u8) (.pair (.int .u8) (.pair (.int .u8) .unit)))))), K.valOf (.pair (.int .i64) (.pair .bool (.pair (.arr 8 (.int .i64)) (.pair (.arr 16 (.int .i64)) (.pair (.int .i64) (.pair (.arr 8 (.int .i64)) .unit)))))) (K.zc (.pair (.int .i64) (.pair .bool (.pair (.arr 8 (.int .i64)) (.pair (.arr 16 (.int .i64)) (.pair (.int .i64) (.pair (.arr 8 (.int .i64)) .unit))))))), K.valOf (.arr 2 (.int .u8)) (K.zc (.arr 2 (.int .u8)))] 8 rfl (by kernel_rfl) (by kernel_rfl) (by kernel_rfl) (by kernel_rfl) (by kernel_rfl) (laidMet_laidAll _ (by kernel_rfl) (by kernel_rfl))) ?_
  intro W base args ds gs before hval0 hW hL hSh
  have hval : ∀ (j : Nat) t v, Tryd.f10.params[j]? = some t → args[j]? = some v → Value.okWide Tryd.prog W .any base t v := hval0
  have hW' := hW
  obtain ⟨p, q, hA0, hV, rfl, hfz, hnd⟩ := hW
  have hA : DataW.TrodAll enc Tryd.prog W 0 (fun _ => true) true Tryd.f10.params.toList args.toList ds p := hA0
  rw [Tryd.params10] at hA hval
  obtain ⟨rfl, rfl⟩ := trodVars_none hV
  clear hA0 hval0
  simp only [List.append_nil] at hW'
  refine (K.law_calls (C := K.CKM) (l := [(.slice (.pair (.int .u8) (.pair (.int .u8) (.pair (.int .u8) (.pair (.int .u8) .unit))))), (.pair (.int .i64) (.pair .bool (.pair (.arr 8 (.int .i64)) (.pair (.arr 16 (.int .i64)) (.pair (.int .i64) (.pair (.arr 8 (.int .i64)) .unit)))))), (.arr 2 (.int .u8))]) (ts := [51, 25, 62]) (K.GlobOK.more (interpParts_glob hL hSh) fun _ _ h => h) (fun b _ h => h.2) (by kernel_rfl) (by kernel_rfl) (by kernel_rfl) (fun xs hx => K.law14_InterpParts.c xs.1 xs.2.1 xs.2.2.1 true (K.row_InterpParts xs hx)) (vs := args.toList) (fun j t v h1 h2 => hval j t v (by simpa using h1) (by simpa using h2)) hA (fun x hx => hW'.lt x hx)).mono fun e W' ⟨he, hb, ha⟩ => ?_
  subst he
  obtain ⟨v0, vs0, d0, ds0, p0, q0, e0, f0, g0, h0, hA0⟩ := trodAll_cons hA
  obtain ⟨v1, vs1, d1, ds1, p1, q1, e1, f1, g1, h1, hA1⟩ := trodAll_cons hA0
  obtain ⟨v2, vs2, d2, ds2, p2, q2, e2, f2, g2, h2, hA2⟩ := trodAll_cons hA1
  obtain ⟨_, ez, _⟩ := trodAll_nil hA2
  subst ez
  subst f2
  subst f1
  subst f0
  exact ⟨_, rfl, _, _, _, [], p, [], hW', trodAll_mk1 (shut_bool Tryd.underlying4 true), ha, rfl, hb.frame _, fun h => by cases h⟩

theorem interpParts_holds : Rows.InterpPartsSaid :=
  OpenClaim.holds_of_wide 10 Tryd.f10 rfl rfl rfl rfl rfl rfl rfl ⟨rfl, rfl, rfl, rfl, rfl⟩ rfl rfl rfl rfl rfl (by kernel_rfl) Tryd.func10 (by kernel_rfl)
    (of_decide_eq_true (by kernel_rfl)) (by unfold Func.isWrapper; first | (rw [if_neg (by decide +kernel)]; exact ⟨rfl, rfl⟩) | (rw [if_pos (by decide +kernel)]; kernel_rfl))
    (fun os started H enc _ => interpParts_lifted os started H enc)

/-- The tied card. -/
theorem interpParts_card : Rows.InterpPartsCardSaid :=
  Claim7.holds_tied_plain_at .later [] [.data] true (true, "265dcfd7eea6bb8902f22a2b7c6c59498b0a466ccb1b3fada40dbccc0cc4ec17") true
    interpParts_holds (fun _ h => by cases h) (by kernel_rfl) (fun _ h => by cases h) interpParts_row_tie rfl ⟨rfl, rfl⟩ (by kernel_rfl) rfl
    (fun f fn hf hfn => by
      obtain rfl : f = 10 := Option.some.inj ((show Tryd.prog.funcNamed "becket/becketlaw14.InterpParts" = some 10 by kernel_rfl).symm.trans hf) |>.symm
      obtain rfl : fn = Tryd.f10 := (Option.some.inj (Tryd.func10.symm.trans hfn)).symm
      exact ⟨by kernel_rfl, fun j t ht => by
        rw [Tryd.params10] at ht
        rcases j with _ | j
        · rw [show t = 51 by simpa using ht.symm]
          exact (show Tryd.prog.wantsStandIn 51 = false by kernel_rfl)
        rcases j with _ | j
        · rw [show t = 25 by simpa using ht.symm]
          exact (show Tryd.prog.wantsStandIn 25 = false by kernel_rfl)
        rcases j with _ | j
        · rw [show t = 62 by simpa using ht.symm]
          exact (show Tryd.prog.wantsStandIn 62 = false by kernel_rfl)
        simp at ht⟩)
    (by kernel_rfl)
end Go.Proofs.YtmphlhnpichonaaDoor

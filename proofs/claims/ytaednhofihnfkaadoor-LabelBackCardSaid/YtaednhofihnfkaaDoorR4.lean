/- The row of 'becketlaw35.LabelBack', and its card: for every input it returns true. -/
import Derived.Test.YtaednhofihnfkaaDoorL35f
import Derived.Test.YtaednhofihnfkaaDoorKF
import Derived.Test.YtaednhofihnfkaaDoorCards
import Derived.Test.YtaednhofihnfkaaDoorTie
import Derived.SevenTiedAt
import Derived.Shelf.Vars
import Derived.Handed
set_option maxRecDepth 100000
set_option linter.unusedVariables false
namespace Go.Proofs.YtaednhofihnfkaaDoor
open Go.ChangeShapes Go.WideShapes Go.ChangeAt Go.RowKit

theorem labelBack_glob {W : World} (hL : laidMet Tryd.prog Rows.labelBackRow.laid W) (hSh : W.ShapedOpen Tryd.prog) : K.GlobOK K.CMP W.heap.size W (fun b _ => ((K.CMP.G b).isSome = true ∨ K.CMP.M b = true) ∧ b < W.heap.size) := by
  refine K.glob_of (fun g d hg => ?_) fun g hg => ?_
  rotate_left
  · rw [show g = 0 by simpa using (show (g == 0) = true from hg)]
    exact Go.Proofs.cell_of_shapedOpen_int (zero := #[.int .i64 0]) (t := 3) hSh (of_decide_eq_true (by kernel_rfl)) (by kernel_rfl) rfl (by kernel_rfl) (by kernel_rfl) Tryd.underlying3
  have hg1 : K.gP g = some d := hg
  unfold K.gP at hg1
  cases hP : (g == 5) with
  | false => rw [hP] at hg1; cases hg1
  | true =>
    rw [hP] at hg1
    cases hg1
    rw [show g = 5 by simpa using hP]
    exact K.tab_laid (n := "internal/strconv.uint64pow10") (d := Rows.laid_internal_strconv_uint64pow10) (g := 5) (t := 168) (τ := (.arr 20 (.int .u64))) (x := K.pow10) (by simp [Rows.labelBackRow]) hL (by kernel_rfl) (by kernel_rfl) (by kernel_rfl) (by kernel_rfl) (by kernel_rfl) (by kernel_rfl)

theorem labelBack_lifted (os : Os) (started : os.Started) (H : Type) (enc : TypeId × Value → H) :
    ReturnsInHanded {} Tryd.checked os 4 .any (fun w args => (Rows.labelBackSpec.pre enc Tryd.prog Tryd.f4 Rows.labelBackRow.domain false w args ∧ laidMet Tryd.prog Rows.labelBackRow.laid w) ∧ sizedMet enc Tryd.prog Tryd.f4 (OpenSpec.ofChange Rows.labelBackSpec) false w args)
      (Rows.labelBackSpec.post enc Tryd.prog Tryd.f4 false true false false) := by
  refine K.returns_shaped (C := Tryd.checked) (X := fun w _ => laidMet Tryd.prog Rows.labelBackRow.laid w) (fun _ _ _ hh h => h.of_heap hh) (show ownKnob Tryd.prog.godebug = none by kernel_rfl) started (by kernel_rfl) Tryd.func4
    (ChangeSpec.witness_at (enc := enc) (C := Tryd.checked) (os := os) (X := fun w _ => laidMet Tryd.prog Rows.labelBackRow.laid w) false (World.laidAll Tryd.prog os Rows.labelBackRow.laid) #[K.valOf (.slice (.pair (.int .i64) (.pair (.int .i64) (.pair (.int .i64) (.pair (.pair (.int .i64) (.pair (.int .i64) (.pair (.int .i64) (.pair (.int .i64) .unit)))) .unit))))) (K.zc (.slice (.pair (.int .i64) (.pair (.int .i64) (.pair (.int .i64) (.pair (.pair (.int .i64) (.pair (.int .i64) (.pair (.int .i64) (.pair (.int .i64) .unit)))) .unit)))))), K.valOf .str (K.zc .str)] 8 rfl (by kernel_rfl) (by kernel_rfl) (by kernel_rfl) (by kernel_rfl) (by kernel_rfl) (laidMet_laidAll _ (by kernel_rfl) (by kernel_rfl))) ?_
  intro W base args ds gs before hval0 hW hL hSh hwt
  have hval : ∀ (j : Nat) t v, Tryd.f4.params[j]? = some t → args[j]? = some v → Value.okWide Tryd.prog W .any base t v := hval0
  have hW' := hW
  obtain ⟨p, q, hA0, hV, rfl, hfz, hnd⟩ := hW
  have hA : DataW.TrodAll enc Tryd.prog W 0 (fun _ => true) true Tryd.f4.params.toList args.toList ds p := hA0
  rw [Tryd.params4] at hA hval hwt
  obtain ⟨rfl, rfl⟩ := trodVars_none hV
  clear hA0 hval0
  simp only [List.append_nil] at hW'
  refine (K.law_calls (C := K.CMP) (l := [(.slice (.pair (.int .i64) (.pair (.int .i64) (.pair (.int .i64) (.pair (.pair (.int .i64) (.pair (.int .i64) (.pair (.int .i64) (.pair (.int .i64) .unit)))) .unit))))), .str]) (ts := [39, 9]) (K.GlobOK.more (labelBack_glob hL hSh) fun _ _ h => h) (fun b _ h => h.2) (by kernel_rfl) (by kernel_rfl) (by kernel_rfl) (fun xs hx => K.law35_LabelBack.c xs.1 xs.2.1 true (K.row_LabelBack xs hx)) (vs := args.toList) (fun j t v h1 h2 => hval j t v (by simpa using h1) (by simpa using h2)) hA (fun x hx => hW'.lt x hx) hwt).mono fun e W' ⟨he, hb, ha⟩ => ?_
  subst he
  obtain ⟨v0, vs0, d0, ds0, p0, q0, e0, f0, g0, h0, hA0⟩ := trodAll_cons hA
  obtain ⟨v1, vs1, d1, ds1, p1, q1, e1, f1, g1, h1, hA1⟩ := trodAll_cons hA0
  obtain ⟨_, ez, _⟩ := trodAll_nil hA1
  subst ez
  subst f1
  subst f0
  exact ⟨_, rfl, _, _, _, [], p, [], hW', trodAll_mk1 (shut_bool Tryd.underlying4 true), ha, rfl, hb.frame _, fun h => by cases h⟩

theorem labelBack_holds : Rows.LabelBackSaid :=
  OpenClaim.holds_of_wide 4 Tryd.f4 rfl rfl rfl rfl rfl rfl rfl ⟨rfl, rfl, rfl, rfl, rfl⟩ rfl rfl rfl rfl rfl (by kernel_rfl) Tryd.func4 (by kernel_rfl)
    (of_decide_eq_true (by kernel_rfl)) (by unfold Func.isWrapper; first | (rw [if_neg (by decide +kernel)]; exact ⟨rfl, rfl⟩) | (rw [if_pos (by decide +kernel)]; kernel_rfl))
    (fun os started H enc _ => labelBack_lifted os started H enc)

/-- The tied card. -/
theorem labelBack_card : Rows.LabelBackCardSaid :=
  Claim7.holds_tied_plain_at .later [] [.data, .data, .data, .data, .sentinel, .sentinel, .pinned] true (true, "54c1751410ef08ea03fc73eddfdfa70bc18cfb94368d06b68ff7dffc50651d5c") true
    labelBack_holds (fun _ h => by cases h) (by kernel_rfl) (fun _ h => by cases h) labelBack_row_tie rfl ⟨rfl, rfl⟩ (by kernel_rfl) rfl
    (fun f fn hf hfn => by
      obtain rfl : f = 4 := Option.some.inj ((show Tryd.prog.funcNamed "becket/becketlaw35.LabelBack" = some 4 by kernel_rfl).symm.trans hf) |>.symm
      obtain rfl : fn = Tryd.f4 := (Option.some.inj (Tryd.func4.symm.trans hfn)).symm
      exact ⟨by kernel_rfl, fun j t ht => by
        rw [Tryd.params4] at ht
        rcases j with _ | j
        · rw [show t = 39 by simpa using ht.symm]
          exact (show Tryd.prog.wantsStandIn 39 = false by kernel_rfl)
        rcases j with _ | j
        · rw [show t = 9 by simpa using ht.symm]
          exact (show Tryd.prog.wantsStandIn 9 = false by kernel_rfl)
        simp at ht⟩)
    (by kernel_rfl)
end Go.Proofs.YtaednhofihnfkaaDoor

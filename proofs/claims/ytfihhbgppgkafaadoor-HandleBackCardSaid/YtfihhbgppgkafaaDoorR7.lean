/- The row of 'becketlaw01.HandleBack', and its card: for every input it returns true. -/
import Derived.Test.YtfihhbgppgkafaaDoorL01c
import Derived.Test.YtfihhbgppgkafaaDoorKF
import Derived.Test.YtfihhbgppgkafaaDoorCards
import Derived.Test.YtfihhbgppgkafaaDoorTie
import Derived.SevenTiedAt
import Derived.Shelf.Vars
import Derived.Handed
set_option maxRecDepth 100000
set_option linter.unusedVariables false
namespace Go.Proofs.YtfihhbgppgkafaaDoor
open Go.ChangeShapes Go.WideShapes Go.ChangeAt Go.RowKit

theorem handleBack_glob {W : World} (hL : laidMet Tryd.prog Rows.handleBackRow.laid W) (hSh : W.ShapedOpen Tryd.prog) : K.GlobOK K.CP W.heap.size W (fun b _ => ((K.CP.G b).isSome = true ∨ K.CP.M b = true) ∧ b < W.heap.size) := by
  refine K.glob_of (fun g d hg => ?_) (fun g hg => by cases hg)
  have hg1 : K.gP g = some d := hg
  unfold K.gP at hg1
  cases hP : (g == 2) with
  | false => rw [hP] at hg1; cases hg1
  | true =>
    rw [hP] at hg1
    cases hg1
    rw [show g = 2 by simpa using hP]
    exact K.tab_laid (n := "internal/strconv.uint64pow10") (d := Rows.laid_internal_strconv_uint64pow10) (g := 2) (t := 192) (τ := (.arr 20 (.int .u64))) (x := K.pow10) (by simp [Rows.handleBackRow]) hL (by kernel_rfl) (by kernel_rfl) (by kernel_rfl) (by kernel_rfl) (by kernel_rfl) (by kernel_rfl)

theorem handleBack_lifted (os : Os) (started : os.Started) (H : Type) (enc : TypeId × Value → H) :
    ReturnsInHanded {} Tryd.checked os 12 .any (fun w args => (Rows.handleBackSpec.pre enc Tryd.prog Tryd.f12 Rows.handleBackRow.domain false w args ∧ laidMet Tryd.prog Rows.handleBackRow.laid w) ∧ sizedMet enc Tryd.prog Tryd.f12 (OpenSpec.ofChange Rows.handleBackSpec) false w args)
      (Rows.handleBackSpec.post enc Tryd.prog Tryd.f12 false true false false) := by
  refine K.returns_shaped (C := Tryd.checked) (X := fun w _ => laidMet Tryd.prog Rows.handleBackRow.laid w) (fun _ _ _ hh h => h.of_heap hh) (show ownKnob Tryd.prog.godebug = none by kernel_rfl) started (by kernel_rfl) Tryd.func12
    (ChangeSpec.witness_at (enc := enc) (C := Tryd.checked) (os := os) (X := fun w _ => laidMet Tryd.prog Rows.handleBackRow.laid w) false (World.laidAll Tryd.prog os Rows.handleBackRow.laid) #[K.valOf (.arr 2 (.int .u16)) (K.zc (.arr 2 (.int .u16))), K.valOf (.arr 2 (.int .u16)) (K.zc (.arr 2 (.int .u16)))] 8 rfl (by kernel_rfl) (by kernel_rfl) (by kernel_rfl) (by kernel_rfl) (by kernel_rfl) (laidMet_laidAll _ (by kernel_rfl) (by kernel_rfl))) ?_
  intro W base args ds gs before hval0 hW hL hSh hwt
  have hval : ∀ (j : Nat) t v, Tryd.f12.params[j]? = some t → args[j]? = some v → Value.okWide Tryd.prog W .any base t v := hval0
  have hW' := hW
  obtain ⟨p, q, hA0, hV, rfl, hfz, hnd⟩ := hW
  have hA : DataW.TrodAll enc Tryd.prog W 0 (fun _ => true) true Tryd.f12.params.toList args.toList ds p := hA0
  rw [Tryd.params12] at hA hval hwt
  obtain ⟨rfl, rfl⟩ := trodVars_none hV
  clear hA0 hval0
  simp only [List.append_nil] at hW'
  refine (K.law_calls (C := K.CP) (l := [(.arr 2 (.int .u16)), (.arr 2 (.int .u16))]) (ts := [72, 72]) (K.GlobOK.more (handleBack_glob hL hSh) fun _ _ h => h) (fun b _ h => h.2) (by kernel_rfl) (by kernel_rfl) (by kernel_rfl) (fun xs hx => K.law01_HandleBack.c xs.1 xs.2.1 true (K.row_HandleBack xs hx)) (vs := args.toList) (fun j t v h1 h2 => hval j t v (by simpa using h1) (by simpa using h2)) hA (fun x hx => hW'.lt x hx) hwt).mono fun e W' ⟨he, hb, ha⟩ => ?_
  subst he
  obtain ⟨v0, vs0, d0, ds0, p0, q0, e0, f0, g0, h0, hA0⟩ := trodAll_cons hA
  obtain ⟨v1, vs1, d1, ds1, p1, q1, e1, f1, g1, h1, hA1⟩ := trodAll_cons hA0
  obtain ⟨_, ez, _⟩ := trodAll_nil hA1
  subst ez
  subst f1
  subst f0
  exact ⟨_, rfl, _, _, _, [], p, [], hW', trodAll_mk1 (shut_bool Tryd.underlying4 true), ha, rfl, hb.frame _, fun h => by cases h⟩

theorem handleBack_holds : Rows.HandleBackSaid :=
  OpenClaim.holds_of_wide 12 Tryd.f12 rfl rfl rfl rfl rfl rfl rfl ⟨rfl, rfl, rfl, rfl, rfl⟩ rfl rfl rfl rfl rfl (by kernel_rfl) Tryd.func12 (by kernel_rfl)
    (of_decide_eq_true (by kernel_rfl)) (by unfold Func.isWrapper; first | (rw [if_neg (by decide +kernel)]; exact ⟨rfl, rfl⟩) | (rw [if_pos (by decide +kernel)]; kernel_rfl))
    (fun os started H enc _ => handleBack_lifted os started H enc)

/-- The tied card. -/
theorem handleBack_card : Rows.HandleBackCardSaid :=
  Claim7.holds_tied_plain_at .later [] [.data, .data, .data, .sentinel, .sentinel] true (true, "65553c0787aa0259a1b5451a1c852170cb36523abd343e9faee317cad71d14b4") true
    handleBack_holds (fun _ h => by cases h) (by kernel_rfl) (fun _ h => by cases h) handleBack_row_tie rfl ⟨rfl, rfl⟩ (by kernel_rfl) rfl
    (fun f fn hf hfn => by
      obtain rfl : f = 12 := Option.some.inj ((show Tryd.prog.funcNamed "becket/becketlaw01.HandleBack" = some 12 by kernel_rfl).symm.trans hf) |>.symm
      obtain rfl : fn = Tryd.f12 := (Option.some.inj (Tryd.func12.symm.trans hfn)).symm
      exact ⟨by kernel_rfl, fun j t ht => by
        rw [Tryd.params12] at ht
        rcases j with _ | j
        · rw [show t = 72 by simpa using ht.symm]
          exact (show Tryd.prog.wantsStandIn 72 = false by kernel_rfl)
        rcases j with _ | j
        · rw [show t = 72 by simpa using ht.symm]
          exact (show Tryd.prog.wantsStandIn 72 = false by kernel_rfl)
        simp at ht⟩)
    (by kernel_rfl)
end Go.Proofs.YtfihhbgppgkafaaDoor

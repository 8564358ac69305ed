/- The row of 'becketlaw36.SnapFresh', and its card: for every input it returns true. -/
import Derived.Test.YtlcomipbinfooaaGreatDoorW2
import Derived.Test.YtlcomipbinfooaaGreatDoorKE
import Derived.Test.YtlcomipbinfooaaGreatDoorCards
import Derived.Test.YtlcomipbinfooaaGreatDoorTie
import Derived.SevenTiedAt
import Derived.Shelf.Vars
import Derived.Handed
set_option maxRecDepth 100000
set_option linter.unusedVariables false
namespace Go.Proofs.YtlcomipbinfooaaGreatDoor
open Go.ChangeShapes Go.WideShapes Go.ChangeAt Go.RowKit

theorem K.zq04.c (x0 : ((.pair (.slice (.slice (.pair (.int .u8) (.pair (.int .u8) (.pair (.int .u8) (.pair (.int .u8) .unit)))))) (.pair (.slice (.pair (.int .i64) (.pair (.int .i64) (.pair (.int .i64) (.pair (.int .i64) .unit))))) (.pair (.slice (.pair .bool (.pair (.int .i64) .unit))) (.pair (.int .i64) (.pair (.slice (.pair (.int .i64) (.pair (.int .i64) (.pair (.int .i64) .unit)))) .unit))))) : K.ETy).I) (r : Bool) (h : K.zq04.u x0 = some r) : K.Contract K.CDEKP 5 [.v (.pair (.slice (.slice (.pair (.int .u8) (.pair (.int .u8) (.pair (.int .u8) (.pair (.int .u8) .unit)))))) (.pair (.slice (.pair (.int .i64) (.pair (.int .i64) (.pair (.int .i64) (.pair (.int .i64) .unit))))) (.pair (.slice (.pair .bool (.pair (.int .i64) .unit))) (.pair (.int .i64) (.pair (.slice (.pair (.int .i64) (.pair (.int .i64) (.pair (.int .i64) .unit)))) .unit))))) x0] (K.tupAV .bool [] r) := by
  obtain ⟨av, h1, h2⟩ := K.zq04.n.ok (Ω := K.AV) [.v (.pair (.slice (.slice (.pair (.int .u8) (.pair (.int .u8) (.pair (.int .u8) (.pair (.int .u8) .unit)))))) (.pair (.slice (.pair (.int .i64) (.pair (.int .i64) (.pair (.int .i64) (.pair (.int .i64) .unit))))) (.pair (.slice (.pair .bool (.pair (.int .i64) .unit))) (.pair (.int .i64) (.pair (.slice (.pair (.int .i64) (.pair (.int .i64) (.pair (.int .i64) .unit)))) .unit))))) x0] some (K.tupAV .bool [] r) (by
    show ((K.zq04.u x0).bind fun r => some (K.tupAV .bool [] r)) = _
    rw [h]; rfl)
  cases h1; exact h2

theorem snapFresh_glob {W : World} (hL : laidMet Tryz.prog Rows.snapFreshRow.laid W) (hSh : W.ShapedOpen Tryz.prog) : K.GlobOK K.CDEKP W.heap.size W (fun b _ => ((K.CDEKP.G b).isSome = true ∨ K.CDEKP.M b = true) ∧ b < W.heap.size) := by
  refine K.glob_of (fun g d hg => ?_) (fun g hg => by cases hg)
  have hg1 : (K.orG K.gD (K.orG K.gE (K.orG K.gK K.gP))) g = some d := hg
  unfold K.orG K.gD K.gE K.gK K.gP at hg1
  cases hD : (g == 1) with
  | true =>
    rw [hD] at hg1
    cases hg1
    rw [show g = 1 by simpa using hD]
    exact K.tab_laid (n := "math/bits.deBruijn64tab") (d := Rows.laid_math_bits_deBruijn64tab) (g := 1) (t := 364) (τ := (.arr 64 (.int .u8))) (x := K.deBruijnT) (by simp [Rows.snapFreshRow]) hL (by kernel_rfl) (by kernel_rfl) (by kernel_rfl) (by kernel_rfl) (by kernel_rfl) (by kernel_rfl)
  | false =>
    rw [hD] at hg1
    cases hE : (g == 0) with
    | true =>
      rw [hE] at hg1
      cases hg1
      rw [show g = 0 by simpa using hE]
      exact K.tab_laid (n := "becket/roll.everybody") (d := Rows.laid_becket_roll_everybody) (g := 0) (t := 152) (τ := (.arr 4 (.int .u64))) (x := K.everybodyT) (by simp [Rows.snapFreshRow]) hL (by kernel_rfl) (by kernel_rfl) (by kernel_rfl) (by kernel_rfl) (by kernel_rfl) (by kernel_rfl)
    | false =>
      rw [hE] at hg1
      cases hK : (g == 4) with
      | true =>
        rw [hK] at hg1
        cases hg1
        rw [show g = 4 by simpa using hK]
        exact K.tab_laid (n := "becket/opcode.kinds") (d := Rows.laid_becket_opcode_kinds) (g := 4) (t := 380) (τ := (.arr 48 (.pair .str (.pair .str (.pair (.int .i64) .unit))))) (x := K.kindsT) (by simp [Rows.snapFreshRow]) hL (by kernel_rfl) (by kernel_rfl) (by kernel_rfl) (by kernel_rfl) (by kernel_rfl) (by kernel_rfl)
      | false =>
        rw [hK] at hg1
        cases hP : (g == 3) with
        | true =>
          rw [hP] at hg1
          cases hg1
          rw [show g = 3 by simpa using hP]
          exact K.tab_laid (n := "internal/strconv.uint64pow10") (d := Rows.laid_internal_strconv_uint64pow10) (g := 3) (t := 376) (τ := (.arr 20 (.int .u64))) (x := K.pow10) (by simp [Rows.snapFreshRow]) hL (by kernel_rfl) (by kernel_rfl) (by kernel_rfl) (by kernel_rfl) (by kernel_rfl) (by kernel_rfl)
        | false =>
          rw [hP] at hg1
          cases hg1

theorem snapFresh_lifted (os : Os) (started : os.Started) (H : Type) (enc : TypeId × Value → H) :
    ReturnsInHanded {} Tryz.checked os 5 .any (fun w args => (Rows.snapFreshSpec.pre enc Tryz.prog Tryz.f5 Rows.snapFreshRow.domain false w args ∧ laidMet Tryz.prog Rows.snapFreshRow.laid w) ∧ sizedMet enc Tryz.prog Tryz.f5 (OpenSpec.ofChange Rows.snapFreshSpec) false w args)
      (Rows.snapFreshSpec.post enc Tryz.prog Tryz.f5 false true false false) := by
  refine K.returns_shaped (C := Tryz.checked) (X := fun w _ => laidMet Tryz.prog Rows.snapFreshRow.laid w) (fun _ _ _ hh h => h.of_heap hh) (show ownKnob Tryz.prog.godebug = none by kernel_rfl) started (by kernel_rfl) Tryz.func5
    (ChangeSpec.witness_at (enc := enc) (C := Tryz.checked) (os := os) (X := fun w _ => laidMet Tryz.prog Rows.snapFreshRow.laid w) false (World.laidAll Tryz.prog os Rows.snapFreshRow.laid) #[K.valOf (.pair (.slice (.slice (.pair (.int .u8) (.pair (.int .u8) (.pair (.int .u8) (.pair (.int .u8) .unit)))))) (.pair (.slice (.pair (.int .i64) (.pair (.int .i64) (.pair (.int .i64) (.pair (.int .i64) .unit))))) (.pair (.slice (.pair .bool (.pair (.int .i64) .unit))) (.pair (.int .i64) (.pair (.slice (.pair (.int .i64) (.pair (.int .i64) (.pair (.int .i64) .unit)))) .unit))))) (K.zc (.pair (.slice (.slice (.pair (.int .u8) (.pair (.int .u8) (.pair (.int .u8) (.pair (.int .u8) .unit)))))) (.pair (.slice (.pair (.int .i64) (.pair (.int .i64) (.pair (.int .i64) (.pair (.int .i64) .unit))))) (.pair (.slice (.pair .bool (.pair (.int .i64) .unit))) (.pair (.int .i64) (.pair (.slice (.pair (.int .i64) (.pair (.int .i64) (.pair (.int .i64) .unit)))) .unit))))))] 8 rfl (by kernel_rfl) (by kernel_rfl) (by kernel_rfl) (by kernel_rfl) (by kernel_rfl) (laidMet_laidAll _ (by kernel_rfl) (by kernel_rfl))) ?_
  intro W base args ds gs before hval0 hW hL hSh hwt
  have hval : ∀ (j : Nat) t v, Tryz.f5.params[j]? = some t → args[j]? = some v → Value.okWide Tryz.prog W .any base t v := hval0
  have hW' := hW
  obtain ⟨p, q, hA0, hV, rfl, hfz, hnd⟩ := hW
  have hA : DataW.TrodAll enc Tryz.prog W 0 (fun _ => true) true Tryz.f5.params.toList args.toList ds p := hA0
  rw [Tryz.params5] at hA hval hwt
  obtain ⟨rfl, rfl⟩ := trodVars_none hV
  clear hA0 hval0
  simp only [List.append_nil] at hW'
  refine (K.law_calls (C := K.CDEKP) (l := [(.pair (.slice (.slice (.pair (.int .u8) (.pair (.int .u8) (.pair (.int .u8) (.pair (.int .u8) .unit)))))) (.pair (.slice (.pair (.int .i64) (.pair (.int .i64) (.pair (.int .i64) (.pair (.int .i64) .unit))))) (.pair (.slice (.pair .bool (.pair (.int .i64) .unit))) (.pair (.int .i64) (.pair (.slice (.pair (.int .i64) (.pair (.int .i64) (.pair (.int .i64) .unit)))) .unit)))))]) (ts := [27]) (K.GlobOK.more (snapFresh_glob hL hSh) fun _ _ h => h) (fun b _ h => h.2) (by kernel_rfl) (by kernel_rfl) (by kernel_rfl) (fun xs hx => K.zq04.c xs.1 true (K.row_SnapFresh xs hx)) (vs := args.toList) (fun j t v h1 h2 => hval j t v (by simpa using h1) (by simpa using h2)) hA (fun x hx => hW'.lt x hx) hwt).mono fun e W' ⟨he, hb, ha⟩ => ?_
  subst he
  obtain ⟨v0, vs0, d0, ds0, p0, q0, e0, f0, g0, h0, hA0⟩ := trodAll_cons hA
  obtain ⟨_, ez, _⟩ := trodAll_nil hA0
  subst ez
  subst f0
  exact ⟨_, rfl, _, _, _, [], p, [], hW', trodAll_mk1 (shut_bool Tryz.underlying4 true), ha, rfl, hb.frame _, fun h => by cases h⟩

theorem snapFresh_and {a b : Bool} (h : a = true) (k : b = true) : (a && b) = true := by rw [h, k]; rfl
theorem snapFresh_fact0 : (fun (P : Program) (f : FuncId) (fn : Func) (s : ChangeSpec) (c : OpenClaim) => ((c.wf (OpenSpec.ofChange s)) : Bool)) Tryz.prog 5 Tryz.f5 Rows.snapFreshSpec Rows.snapFreshRow = true := by kernel_rfl
theorem snapFresh_fact1 : (fun (P : Program) (f : FuncId) (fn : Func) (s : ChangeSpec) (c : OpenClaim) => ((laidOutB P) : Bool)) Tryz.prog 5 Tryz.f5 Rows.snapFreshSpec Rows.snapFreshRow = true := by kernel_rfl
theorem snapFresh_fact2 : (fun (P : Program) (f : FuncId) (fn : Func) (s : ChangeSpec) (c : OpenClaim) => ((mapsRowed P) : Bool)) Tryz.prog 5 Tryz.f5 Rows.snapFreshSpec Rows.snapFreshRow = true := by kernel_rfl
theorem snapFresh_fact3 : (fun (P : Program) (f : FuncId) (fn : Func) (s : ChangeSpec) (c : OpenClaim) => ((fn.params.all (P.readableRec ·)) : Bool)) Tryz.prog 5 Tryz.f5 Rows.snapFreshSpec Rows.snapFreshRow = true := by kernel_rfl
theorem snapFresh_fact4 : (fun (P : Program) (f : FuncId) (fn : Func) (s : ChangeSpec) (c : OpenClaim) => ((namedTie P c.named s.vars) : Bool)) Tryz.prog 5 Tryz.f5 Rows.snapFreshSpec Rows.snapFreshRow = true := by kernel_rfl
theorem snapFresh_fact5 : (fun (P : Program) (f : FuncId) (fn : Func) (s : ChangeSpec) (c : OpenClaim) => (((c.stops == [])) : Bool)) Tryz.prog 5 Tryz.f5 Rows.snapFreshSpec Rows.snapFreshRow = true := by kernel_rfl
theorem snapFresh_fact6 : (fun (P : Program) (f : FuncId) (fn : Func) (s : ChangeSpec) (c : OpenClaim) => (((P.stops == [])) : Bool)) Tryz.prog 5 Tryz.f5 Rows.snapFreshSpec Rows.snapFreshRow = true := by kernel_rfl
theorem snapFresh_fact7 : (fun (P : Program) (f : FuncId) (fn : Func) (s : ChangeSpec) (c : OpenClaim) => (((c.knobs == [])) : Bool)) Tryz.prog 5 Tryz.f5 Rows.snapFreshSpec Rows.snapFreshRow = true := by kernel_rfl
theorem snapFresh_fact8 : (fun (P : Program) (f : FuncId) (fn : Func) (s : ChangeSpec) (c : OpenClaim) => (((P.stopKnobs == [])) : Bool)) Tryz.prog 5 Tryz.f5 Rows.snapFreshSpec Rows.snapFreshRow = true := by kernel_rfl
theorem snapFresh_fact9 : (fun (P : Program) (f : FuncId) (fn : Func) (s : ChangeSpec) (c : OpenClaim) => (((c.inPlace == P.inPlace f)) : Bool)) Tryz.prog 5 Tryz.f5 Rows.snapFreshSpec Rows.snapFreshRow = true := by kernel_rfl
theorem snapFresh_fact10 : (fun (P : Program) (f : FuncId) (fn : Func) (s : ChangeSpec) (c : OpenClaim) => (((c.unfollowed == P.unfollowed f)) : Bool)) Tryz.prog 5 Tryz.f5 Rows.snapFreshSpec Rows.snapFreshRow = true := by kernel_rfl
theorem snapFresh_fact11 : (fun (P : Program) (f : FuncId) (fn : Func) (s : ChangeSpec) (c : OpenClaim) => (((c.recurses == P.recurses f)) : Bool)) Tryz.prog 5 Tryz.f5 Rows.snapFreshSpec Rows.snapFreshRow = true := by kernel_rfl
theorem snapFresh_fact12 : (fun (P : Program) (f : FuncId) (fn : Func) (s : ChangeSpec) (c : OpenClaim) => (((c.named == P.varsNamed f)) : Bool)) Tryz.prog 5 Tryz.f5 Rows.snapFreshSpec Rows.snapFreshRow = true := by kernel_rfl
theorem snapFresh_fact13 : (fun (P : Program) (f : FuncId) (fn : Func) (s : ChangeSpec) (c : OpenClaim) => (((c.maps == (fn.params.toList ++ s.plain.varTypes P).any (P.mapsRec ·))) : Bool)) Tryz.prog 5 Tryz.f5 Rows.snapFreshSpec Rows.snapFreshRow = true := by kernel_rfl
theorem snapFresh_fact14 : (fun (P : Program) (f : FuncId) (fn : Func) (s : ChangeSpec) (c : OpenClaim) => (((c.ifaces == (fn.params.toList ++ s.plain.varTypes P).any (P.ifacesRec ·))) : Bool)) Tryz.prog 5 Tryz.f5 Rows.snapFreshSpec Rows.snapFreshRow = true := by kernel_rfl
theorem snapFresh_fact15 : (fun (P : Program) (f : FuncId) (fn : Func) (s : ChangeSpec) (c : OpenClaim) => (((c.mapsOut == P.mapsAmong fn.resultTypes.toList)) : Bool)) Tryz.prog 5 Tryz.f5 Rows.snapFreshSpec Rows.snapFreshRow = true := by kernel_rfl
theorem snapFresh_fact16 : (fun (P : Program) (f : FuncId) (fn : Func) (s : ChangeSpec) (c : OpenClaim) => (((c.loops == (fn.params.toList ++ s.plain.varTypes P).any (P.loopsFrom ·))) : Bool)) Tryz.prog 5 Tryz.f5 Rows.snapFreshSpec Rows.snapFreshRow = true := by kernel_rfl
theorem snapFresh_fact17 : (fun (P : Program) (f : FuncId) (fn : Func) (s : ChangeSpec) (c : OpenClaim) => (((c.wideKeys == (fn.params.toList ++ s.plain.varTypes P ++ fn.resultTypes.toList).any (P.wideKeysFrom ·))) : Bool)) Tryz.prog 5 Tryz.f5 Rows.snapFreshSpec Rows.snapFreshRow = true := by kernel_rfl
theorem snapFresh_fact18 : (fun (P : Program) (f : FuncId) (fn : Func) (s : ChangeSpec) (c : OpenClaim) => ((s.vars.all (P.varReadable ·)) : Bool)) Tryz.prog 5 Tryz.f5 Rows.snapFreshSpec Rows.snapFreshRow = true := by kernel_rfl
theorem snapFresh_fact19 : (fun (P : Program) (f : FuncId) (fn : Func) (s : ChangeSpec) (c : OpenClaim) => ((fn.resultTypes.all (fun t => P.readableRec t && decide (t < P.types.size))) : Bool)) Tryz.prog 5 Tryz.f5 Rows.snapFreshSpec Rows.snapFreshRow = true := by kernel_rfl
theorem snapFresh_fact20 : (fun (P : Program) (f : FuncId) (fn : Func) (s : ChangeSpec) (c : OpenClaim) => (((c.ifacesOut == fn.resultTypes.toList.any (P.ifacesRec ·))) : Bool)) Tryz.prog 5 Tryz.f5 Rows.snapFreshSpec Rows.snapFreshRow = true := by kernel_rfl
theorem snapFresh_fact21 : (fun (P : Program) (f : FuncId) (fn : Func) (s : ChangeSpec) (c : OpenClaim) => (((c.loopsOut == fn.resultTypes.toList.any (P.loopsFrom ·))) : Bool)) Tryz.prog 5 Tryz.f5 Rows.snapFreshSpec Rows.snapFreshRow = true := by kernel_rfl
theorem snapFresh_fact22 : (fun (P : Program) (f : FuncId) (fn : Func) (s : ChangeSpec) (c : OpenClaim) => (((c.plainKeys == P.plainKeys)) : Bool)) Tryz.prog 5 Tryz.f5 Rows.snapFreshSpec Rows.snapFreshRow = true := by kernel_rfl
theorem snapFresh_fact23 : (fun (P : Program) (f : FuncId) (fn : Func) (s : ChangeSpec) (c : OpenClaim) => ((c.shortTexts.isNone) : Bool)) Tryz.prog 5 Tryz.f5 Rows.snapFreshSpec Rows.snapFreshRow = true := by kernel_rfl
theorem snapFresh_fact24 : (fun (P : Program) (f : FuncId) (fn : Func) (s : ChangeSpec) (c : OpenClaim) => ((P.stopsHeard) : Bool)) Tryz.prog 5 Tryz.f5 Rows.snapFreshSpec Rows.snapFreshRow = true := by kernel_rfl
theorem snapFresh_fact25 : (fun (P : Program) (f : FuncId) (fn : Func) (s : ChangeSpec) (c : OpenClaim) => ((P.mayEnter) : Bool)) Tryz.prog 5 Tryz.f5 Rows.snapFreshSpec Rows.snapFreshRow = true := by kernel_rfl
theorem snapFresh_fact26 : (fun (P : Program) (f : FuncId) (fn : Func) (s : ChangeSpec) (c : OpenClaim) => (((c.lifted == P.liftsFinal)) : Bool)) Tryz.prog 5 Tryz.f5 Rows.snapFreshSpec Rows.snapFreshRow = true := by kernel_rfl
theorem snapFresh_fact27 : (fun (P : Program) (f : FuncId) (fn : Func) (s : ChangeSpec) (c : OpenClaim) => (((P.make == some c.make)) : Bool)) Tryz.prog 5 Tryz.f5 Rows.snapFreshSpec Rows.snapFreshRow = true := by kernel_rfl
theorem snapFresh_fact28 : (fun (P : Program) (f : FuncId) (fn : Func) (s : ChangeSpec) (c : OpenClaim) => (((c.kinds == (if c.domain.isEmpty then [] else fn.params.toList.map fun t => match P.underlying t with | some (.int k) => some k | _ => none))) : Bool)) Tryz.prog 5 Tryz.f5 Rows.snapFreshSpec Rows.snapFreshRow = true := by kernel_rfl
theorem snapFresh_fact29 : (fun (P : Program) (f : FuncId) (fn : Func) (s : ChangeSpec) (c : OpenClaim) => (((c.pinned == c.pinnedBy)) : Bool)) Tryz.prog 5 Tryz.f5 Rows.snapFreshSpec Rows.snapFreshRow = true := by kernel_rfl
theorem snapFresh_fact30 : (fun (P : Program) (f : FuncId) (fn : Func) (s : ChangeSpec) (c : OpenClaim) => (((c.veiled == (fn.params.toList ++ s.plain.varTypes P ++ fn.resultTypes.toList).any (P.veiledRec ·))) : Bool)) Tryz.prog 5 Tryz.f5 Rows.snapFreshSpec Rows.snapFreshRow = true := by kernel_rfl
theorem snapFresh_fact31 : (fun (P : Program) (f : FuncId) (fn : Func) (s : ChangeSpec) (c : OpenClaim) => ((c.veiledFits P fn.params.toList (fn.params.toList ++ s.plain.varTypes P ++ fn.resultTypes.toList)) : Bool)) Tryz.prog 5 Tryz.f5 Rows.snapFreshSpec Rows.snapFreshRow = true := by kernel_rfl
theorem snapFresh_closed : joinedFacts Tryz.pinned.checked.prog 5 Tryz.f5 Rows.snapFreshSpec Rows.snapFreshRow = true :=
  (snapFresh_and (snapFresh_and (snapFresh_and (snapFresh_and (snapFresh_and (snapFresh_and (snapFresh_and (snapFresh_and (snapFresh_and (snapFresh_and (snapFresh_and (snapFresh_and (snapFresh_and (snapFresh_and (snapFresh_and (snapFresh_and (snapFresh_and (snapFresh_and (snapFresh_and (snapFresh_and (snapFresh_and (snapFresh_and (snapFresh_and (snapFresh_and (snapFresh_and (snapFresh_and (snapFresh_and (snapFresh_and (snapFresh_and (snapFresh_and (snapFresh_and snapFresh_fact0 snapFresh_fact1) snapFresh_fact2) snapFresh_fact3) snapFresh_fact4) snapFresh_fact5) snapFresh_fact6) snapFresh_fact7) snapFresh_fact8) snapFresh_fact9) snapFresh_fact10) snapFresh_fact11) snapFresh_fact12) snapFresh_fact13) snapFresh_fact14) snapFresh_fact15) snapFresh_fact16) snapFresh_fact17) snapFresh_fact18) snapFresh_fact19) snapFresh_fact20) snapFresh_fact21) snapFresh_fact22) snapFresh_fact23) snapFresh_fact24) snapFresh_fact25) snapFresh_fact26) snapFresh_fact27) snapFresh_fact28) snapFresh_fact29) snapFresh_fact30) snapFresh_fact31)

theorem snapFresh_holds : Rows.SnapFreshSaid :=
  OpenClaim.holds_of_wide 5 Tryz.f5 rfl rfl rfl rfl rfl rfl rfl ⟨rfl, rfl, rfl, rfl, rfl⟩ rfl rfl rfl rfl rfl (by kernel_rfl) Tryz.func5 snapFresh_closed
    (of_decide_eq_true (by kernel_rfl)) (by unfold Func.isWrapper; first | (rw [if_neg (by decide +kernel)]; exact ⟨rfl, rfl⟩) | (rw [if_pos (by decide +kernel)]; kernel_rfl))
    (fun os started H enc _ => snapFresh_lifted os started H enc)

/-- The tied card. -/
theorem snapFresh_card : Rows.SnapFreshCardSaid :=
  Claim7.holds_tied_plain_at .later [] [.data, .data, .data, .data, .data] true (true, "e20ae59ffef6e816d6c9951caf13e36f37f889ced839c6d6c125d92846ee3373") false
    snapFresh_holds (fun _ h => by cases h) (by kernel_rfl) (fun _ h => by cases h) snapFresh_row_tie rfl ⟨rfl, rfl⟩ (by kernel_rfl) rfl
    (fun f fn hf hfn => by
      obtain rfl : f = 5 := Option.some.inj ((show Tryz.prog.funcNamed "becket/becketlaw36.SnapFresh" = some 5 by kernel_rfl).symm.trans hf) |>.symm
      obtain rfl : fn = Tryz.f5 := (Option.some.inj (Tryz.func5.symm.trans hfn)).symm
      exact ⟨by kernel_rfl, fun j t ht => by
        rw [Tryz.params5] at ht
        rcases j with _ | j
        · rw [show t = 27 by simpa using ht.symm]
          exact (show Tryz.prog.wantsStandIn 27 = false by kernel_rfl)
        simp at ht⟩)
    (by kernel_rfl)
end Go.Proofs.YtlcomipbinfooaaGreatDoor

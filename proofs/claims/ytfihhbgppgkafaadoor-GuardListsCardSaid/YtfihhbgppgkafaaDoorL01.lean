/- Handles, plainly. -/
import Derived.Test.YtfihhbgppgkafaaDoorZ01
import Derived.Test.YtfihhbgppgkafaaDoorDig
import Derived.Laws.RangeAny
import Derived.Lib.IndexLaws
import Derived.KernelRfl
set_option maxRecDepth 100000
set_option linter.unusedVariables false
set_option linter.unusedSimpArgs false
namespace Go.Proofs.YtfihhbgppgkafaaDoor.K
open Go

theorem alive01 : law01_alive.u = some true := by kernel_rfl

/-- The handle of a slot and a generation. -/
def mkH (s g : Int) : Int × Int := if 0 ≤ s ∧ s ≤ 4095 ∧ 1 ≤ g ∧ g ≤ 65535 then (g * 4096 + s, 0) else (0, 8)
theorem within_t (n a b : Int) : handle_within.t n a b = decide (a ≤ n ∧ n ≤ b) := by
  unfold handle_within.t
  by_cases h : n ≥ a
  · simp [h]
  · simp [h, show ¬ a ≤ n by omega]
theorem make_t (s g : Int) : handle_Make.t s g = mkH s g := by
  unfold handle_Make.t mkH
  rw [within_t, within_t]
  by_cases h1 : 0 ≤ s ∧ s ≤ 4095
  · by_cases h2 : 1 ≤ g ∧ g ≤ 65535
    · have e1 : IntKind.wrap .i64 (g * 4096) = g * 4096 := wrapN ⟨by omega, by omega⟩
      have e2 : IntKind.wrap .i64 (g * 4096 + s) = g * 4096 + s := wrapN ⟨by omega, by omega⟩
      rw [e1, e2, decide_eq_true h1, decide_eq_true h2, if_pos ⟨h1.1, h1.2, h2.1, h2.2⟩]
      rfl
    · rw [decide_eq_true h1, decide_eq_false h2, if_neg (fun h => h2 h.2.2)]
      rfl
  · rw [decide_eq_false h1, if_neg (fun h => h1 ⟨h.1, h.2.1⟩)]
    rfl
theorem refmake_t (s g : Int) : ref01_Make.t s g = mkH s g := by
  unfold ref01_Make.t mkH
  by_cases h1 : s < 0
  · rw [decide_eq_true h1, if_neg (by omega)]; rfl
  by_cases h2 : s > 4095
  · rw [decide_eq_false h1, decide_eq_true h2, if_neg (by omega)]; rfl
  by_cases h3 : g < 1
  · rw [decide_eq_false h1, decide_eq_false h2, decide_eq_true h3, if_neg (by omega)]; rfl
  by_cases h4 : g > 65535
  · rw [decide_eq_false h1, decide_eq_false h2, decide_eq_false h3, decide_eq_true h4, if_neg (by omega)]; rfl
  have e1 : IntKind.wrap .i64 (4096 * g) = 4096 * g := wrapN ⟨by omega, by omega⟩
  have e2 : IntKind.wrap .i64 (4096 * g + s) = 4096 * g + s := wrapN ⟨by omega, by omega⟩
  rw [e1, e2, decide_eq_false h1, decide_eq_false h2, decide_eq_false h3, decide_eq_false h4, if_pos (by omega)]
  simp only [cond_false]
  rw [Int.mul_comm]

theorem law_HandleMakes (s g : Int) : law01_HandleMakes.u s g = some true := by
  unfold law01_HandleMakes.u law01_HandleMakes.s
  simp only [make_t, refmake_t, beq_self_eq_true, cond_true, alive01, Option.bind_some]

/-- Is a number a handle? -/
def fineH (h : Int) : Bool := decide (4096 ≤ h ∧ h ≤ 268435455)
theorem fineH_iff {h : Int} : fineH h = true ↔ 4096 ≤ h ∧ h ≤ 268435455 := by unfold fineH; simp
theorem hfine_t (h : Int) : handle_Fine.t h = fineH h := by unfold handle_Fine.t fineH; rw [within_t]
theorem rfine_t (h : Int) : ref01_Fine.t h = fineH h := by
  unfold ref01_Fine.t fineH
  by_cases h1 : h ≥ 4096
  · simp [h1]
  · simp [h1, show ¬ 4096 ≤ h by omega]
theorem hslot_t (h : Int) : handle_Slot.t h = bif fineH h then h % 4096 else -1 := by
  unfold handle_Slot.t
  rw [hfine_t]
  cases hf : fineH h with
  | false => rfl
  | true =>
    have := fineH_iff.1 hf
    simp only [Bool.not_true, cond_false, cond_true]
    exact Int.tmod_eq_emod_of_nonneg (by omega)
theorem hgen_t (h : Int) : handle_Gen.t h = bif fineH h then h / 4096 else 0 := by
  unfold handle_Gen.t
  rw [hfine_t]
  cases hf : fineH h with
  | false => rfl
  | true =>
    have := fineH_iff.1 hf
    simp only [Bool.not_true, cond_false, cond_true]
    rw [Int.tdiv_eq_ediv_of_nonneg (by omega), wrapN ⟨by omega, by omega⟩]
theorem rgen_t (h : Int) : ref01_Gen.t h = bif fineH h then h / 4096 else 0 := by
  unfold ref01_Gen.t
  rw [rfine_t]
  cases hf : fineH h with
  | false => rfl
  | true =>
    have := fineH_iff.1 hf
    simp only [Bool.not_true, cond_false, cond_true]
    rw [Int.tdiv_eq_ediv_of_nonneg (by omega), wrapN ⟨by omega, by omega⟩]
theorem rslot_t (h : Int) : ref01_Slot.t h = bif fineH h then h % 4096 else -1 := by
  unfold ref01_Slot.t
  rw [rfine_t]
  cases hf : fineH h with
  | false => rfl
  | true =>
    have := fineH_iff.1 hf
    simp only [Bool.not_true, cond_false, cond_true]
    rw [Int.tdiv_eq_ediv_of_nonneg (by omega), wrapN (x := h / 4096) ⟨by omega, by omega⟩, wrapN (x := 4096 * (h / 4096)) ⟨by omega, by omega⟩, wrapN ⟨by omega, by omega⟩]
    omega
/-- The handle of the next generation. -/
def nextH (h : Int) : Int × Int := bif fineH h then (bif h / 4096 == 65535 then (0, 14) else (h + 4096, 0)) else (0, 8)
theorem hnext_t (h : Int) : handle_Next.t h = nextH h := by
  unfold handle_Next.t nextH
  rw [hfine_t, hgen_t]
  cases hf : fineH h with
  | false => rfl
  | true =>
    have := fineH_iff.1 hf
    simp only [Bool.not_true, cond_false, cond_true]
    rw [wrapN (x := h + 4096) ⟨by omega, by omega⟩]
theorem rnext_t (h : Int) : ref01_Next.t h = nextH h := by
  unfold ref01_Next.t nextH
  rw [rfine_t, rgen_t, rslot_t]
  cases hf : fineH h with
  | false => rfl
  | true =>
    have := fineH_iff.1 hf
    simp only [Bool.not_true, cond_false, cond_true]
    cases hg : (h / 4096 == 65535) with
    | true => rfl
    | false =>
      have hne : h / 4096 ≠ 65535 := by simpa using hg
      simp only [cond_false]
      rw [wrapN (x := h / 4096 + 1) ⟨by omega, by omega⟩, refmake_t]
      unfold mkH
      rw [if_pos (by omega)]
      simp only [Prod.mk.injEq, and_true]
      omega

theorem txt_nn {n : Int} (h : 0 ≤ n) : (txt n).data.toList = Lib.decDigits n.toNat := by
  rw [txt_list]; unfold Lib.itoa; rw [if_neg (by omega)]
theorem txt_bs {n : Int} (h : 0 ≤ n) : bs (Lib.decDigits n.toNat) = txt n := ba_ext (by rw [bs_list, txt_nn h])
theorem itoa_u {n : Int} (h0 : 0 ≤ n) (h1 : n ≤ 1099511627776) : strconv_Itoa.u n = some (txt n) := by
  unfold strconv_Itoa.u
  rw [decide_eq_true (show -9223372036854775808 ≤ n by omega), decide_eq_true (show n ≤ 9223372036854775807 by omega)]
  rfl
theorem digits_txt {n : Int} (h0 : 0 ≤ n) (h1 : n ≤ 1099511627776) : ref01_Digits.u n = some (txt n) := by
  rw [digits_u h0 h1, txt_bs h0]
theorem txt_short {n : Int} (h0 : 0 ≤ n) (h1 : n ≤ 2147483648) : (txt n).size ≤ 10 := by
  rw [size_list, txt_nn h0]; exact dd_short (by omega)
/-- A handle's text. -/
def textH (h : Int) : ByteArray × Int := bif fineH h then ((txt (h % 4096) ++ bs [46]) ++ txt (h / 4096), 0) else (bs [], 8)
theorem htext_u (h : Int) : handle_Text.u h = some (textH h) := by
  unfold handle_Text.u handle_Text.s textH
  rw [hfine_t, hslot_t, hgen_t]
  cases hf : fineH h with
  | false => rfl
  | true =>
    have := fineH_iff.1 hf
    simp only [Bool.not_true, cond_false, cond_true]
    have z1 := txt_short (n := h % 4096) (by omega) (by omega)
    have z2 := txt_short (n := h / 4096) (by omega) (by omega)
    have z3 : (bs [46]).size = 1 := rfl
    have c1 : decide ((txt (h % 4096)).size + (bs [46]).size ≤ catMax) = true := by unfold catMax; exact decide_eq_true (by omega)
    have c2 : decide ((txt (h % 4096) ++ bs [46]).size + (txt (h / 4096)).size ≤ catMax) = true := by rw [ByteArray.size_append]; unfold catMax; exact decide_eq_true (by omega)
    simp only [itoa_u (n := h % 4096) (by omega) (by omega), itoa_u (n := h / 4096) (by omega) (by omega), Option.bind_some, c1, c2, cond_true]
theorem rtext_u (h : Int) : ref01_Text.u h = some (textH h) := by
  unfold ref01_Text.u ref01_Text.s textH
  rw [rfine_t, rslot_t, rgen_t]
  cases hf : fineH h with
  | false => rfl
  | true =>
    have := fineH_iff.1 hf
    simp only [Bool.not_true, cond_false, cond_true]
    have z1 := txt_short (n := h % 4096) (by omega) (by omega)
    have z2 := txt_short (n := h / 4096) (by omega) (by omega)
    have z3 : (bs [46]).size = 1 := rfl
    have c1 : decide ((txt (h % 4096)).size + (bs [46]).size ≤ catMax) = true := by unfold catMax; exact decide_eq_true (by omega)
    have c2 : decide ((txt (h % 4096) ++ bs [46]).size + (txt (h / 4096)).size ≤ catMax) = true := by rw [ByteArray.size_append]; unfold catMax; exact decide_eq_true (by omega)
    simp only [digits_txt (n := h % 4096) (by omega) (by omega), digits_txt (n := h / 4096) (by omega) (by omega), Option.bind_some, c1, c2, cond_true]

theorem law_HandleParts (h : Int) : law01_HandleParts.u h = some true := by
  unfold law01_HandleParts.u law01_HandleParts.s
  simp only [hnext_t, rnext_t, htext_u, rtext_u, hfine_t, rfine_t, hslot_t, rslot_t, hgen_t, rgen_t, Option.bind_some, beq_self_eq_true, eqI, cond_true, alive01]
theorem row_HandleMakes (xs : Args [.int .i64, .int .i64]) (h : fitsA _ xs) : law01_HandleMakes.u xs.1 xs.2.1 = some true := law_HandleMakes _ _
theorem row_HandleParts (xs : Args [.int .i64]) (h : fitsA _ xs) : law01_HandleParts.u xs.1 = some true := law_HandleParts _
end Go.Proofs.YtfihhbgppgkafaaDoor.K

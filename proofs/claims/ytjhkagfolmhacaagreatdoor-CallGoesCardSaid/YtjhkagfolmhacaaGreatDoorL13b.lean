/- Frames, plainly: what is got, set and gone to. -/
import Derived.Test.YtjhkagfolmhacaaGreatDoorL13
set_option maxRecDepth 100000
set_option linter.unusedVariables false
set_option linter.unusedSimpArgs false
namespace Go.Proofs.YtjhkagfolmhacaaGreatDoor.K
open Go

def atF (f : Fr) (i n x : Int) : Int := bif !(FrFine f) then 1 else bif (decide (i < 0) || decide (i ≥ n)) || !(word_Fine.t x) then 8 else 0
theorem frame_at_u {f : Fr} (h : FrOK f) (i n x : Int) : frame_at.u f i n x = some (atF f i n x) := by
  unfold frame_at.u frame_at.s atF
  rw [frame_fine h]
  simp only [Option.bind_some]
  cases FrFine f <;> cases decide (i < 0) <;> cases decide (i ≥ n) <;> cases word_Fine.t x <;> rfl
theorem atF_zero {f : Fr} {i n x : Int} (h : atF f i n x = 0) : FrFine f = true ∧ 0 ≤ i ∧ i < n ∧ word_Fine.t x = true := by
  unfold atF at h
  cases h1 : FrFine f with
  | false => rw [h1] at h; cases h
  | true =>
    rw [h1] at h
    by_cases h2 : i < 0
    · simp [h2] at h
    by_cases h3 : i ≥ n
    · simp [h3] at h
    cases h4 : word_Fine.t x with
    | false => simp [h4] at h
    | true => exact ⟨rfl, by omega, by omega, rfl⟩
theorem atF_cases (f : Fr) (i n x : Int) : atF f i n x = 0 ∨ atF f i n x = 1 ∨ atF f i n x = 8 := by
  unfold atF
  cases FrFine f <;> cases decide (i < 0) <;> cases decide (i ≥ n) <;> cases word_Fine.t x <;> simp


theorem frame_load {f : Fr} (h : FrOK f) (i : Int) : ∃ v, frame_Load.u f i = some v ∧ ref13_Load.u f i = some v := by
  unfold frame_Load.u frame_Load.s ref13_Load.u ref13_Load.s
  rw [frame_at_u h, ref_fine h]
  simp only [Option.bind_some, atF, fine0]
  cases FrFine f with
  | false => exact ⟨_, rfl, rfl⟩
  | true =>
    by_cases h2 : i < 0
    · simp [h2]
    by_cases h3 : i ≥ 16
    · simp [h2, h3, show i > 15 by omega]
    · have hi : idxOK i 16 = true := idxOK_of (by omega) (by omega)
      simp [h2, h3, show ¬ (i > 15) by omega, hi]
theorem frame_set {f : Fr} (h : FrOK f) (i x : Int) : ∃ v, frame_Set.u f i x = some v ∧ ref13_Set.u f i x = some v := by
  unfold frame_Set.u frame_Set.s ref13_Set.u ref13_Set.s ref13_Get.u ref13_Get.s
  rw [frame_at_u h, ref_fine h]
  simp only [Option.bind_some, atF, fine_eq]
  cases FrFine f with
  | false => exact ⟨_, rfl, rfl⟩
  | true =>
    by_cases h2 : i < 0
    · simp [h2]
    by_cases h3 : i ≥ 8
    · simp [h2, h3, show i > 7 by omega]
    · have hi : idxOK i 8 = true := idxOK_of (by omega) (by omega)
      simp only [h2, h3, show ¬ (i > 7) by omega, hi]
      cases word_Fine.t x <;> simp
theorem frame_store {f : Fr} (h : FrOK f) (i x : Int) : ∃ v, frame_Store.u f i x = some v ∧ ref13_Store.u f i x = some v := by
  unfold frame_Store.u frame_Store.s ref13_Store.u ref13_Store.s ref13_Load.u ref13_Load.s
  rw [frame_at_u h, ref_fine h]
  simp only [Option.bind_some, atF, fine_eq]
  cases FrFine f with
  | false => exact ⟨_, rfl, rfl⟩
  | true =>
    by_cases h2 : i < 0
    · simp [h2]
    by_cases h3 : i ≥ 16
    · simp [h2, h3, show i > 15 by omega]
    · have hi : idxOK i 16 = true := idxOK_of (by omega) (by omega)
      simp only [h2, h3, show ¬ (i > 15) by omega, hi]
      cases word_Fine.t x <;> simp

theorem FrFine_parts {f : Fr} (h : FrFine f = true) : frame_place.t f.1 = true ∧ 0 ≤ f.2.2.2.2.1 ∧ f.2.2.2.2.1 ≤ 8 := by
  unfold FrFine at h
  simp only [Bool.and_eq_true, decide_eq_true_eq] at h
  exact ⟨h.1.1.1, h.1.1.2.1, h.1.1.2.2⟩
theorem place_range {n : Int} : frame_place.t n = true ↔ 0 ≤ n ∧ n ≤ 64 := by
  unfold frame_place.t
  by_cases h : n ≥ 0
  · simp [h]
  · simp [h]
theorem frame_go {f : Fr} (h : FrOK f) (i : Int) : ∃ v, frame_Go.u f i = some v ∧ ref13_Go.u f i = some v := by
  unfold frame_Go.u frame_Go.s ref13_Go.u ref13_Go.s
  rw [frame_fine h, ref_fine h]
  simp only [Option.bind_some, place_eq]
  cases FrFine f <;> cases frame_place.t i <;> exact ⟨_, rfl, rfl⟩
theorem frame_call {f : Fr} (h : FrOK f) (i : Int) : ∃ v, frame_Call.u f i = some v ∧ ref13_Call.u f i = some v := by
  unfold frame_Call.u frame_Call.s ref13_Call.u ref13_Call.s
  rw [frame_fine h, ref_fine h]
  simp only [Option.bind_some, place_eq]
  cases hf : FrFine f with
  | false => exact ⟨_, rfl, rfl⟩
  | true =>
    obtain ⟨p1, p2, p3⟩ := FrFine_parts hf
    have p1' := place_range.1 p1
    have hw : IntKind.wrap .i64 (f.1 + 1) = f.1 + 1 := wrapN ⟨by omega, by omega⟩
    have hw2 : IntKind.wrap .i64 (f.2.2.2.2.1 + 1) = f.2.2.2.2.1 + 1 := wrapN ⟨by omega, by omega⟩
    simp only [Bool.not_true, cond_false]
    by_cases h8 : f.2.2.2.2.1 = 8
    · simp [h8]
    · have hi : idxOK f.2.2.2.2.1 8 = true := idxOK_of (by omega) (by omega)
      have hpc : frame_place.t (f.1 + 1) = !(f.1 == 64) := by
        by_cases h64 : f.1 = 64
        · rw [h64]; decide
        · have : frame_place.t (f.1 + 1) = true := place_range.2 ⟨by omega, by omega⟩
          rw [this]
          simp [h64]
      simp only [beq_eq_false_iff_ne.2 h8, cond_false, hw, hi, cond_true, hpc]
      cases frame_place.t i with
      | false => exact ⟨_, rfl, rfl⟩
      | true =>
        cases (f.1 == 64) with
        | true => exact ⟨_, rfl, rfl⟩
        | false => exact ⟨_, rfl, rfl⟩
theorem frame_ret {f : Fr} (h : FrOK f) : ∃ v, frame_Ret.u f = some v ∧ ref13_Ret.u f = some v := by
  unfold frame_Ret.u frame_Ret.s ref13_Ret.u ref13_Ret.s
  rw [frame_fine h, ref_fine h]
  simp only [Option.bind_some]
  cases hf : FrFine f with
  | false => exact ⟨_, rfl, rfl⟩
  | true =>
    obtain ⟨p1, p2, p3⟩ := FrFine_parts hf
    have hw : IntKind.wrap .i64 (f.2.2.2.2.1 - 1) = f.2.2.2.2.1 - 1 := wrapN ⟨by omega, by omega⟩
    simp only [Bool.not_true, cond_false]
    by_cases h0 : f.2.2.2.2.1 = 0
    · simp [h0]
    · have hi : idxOK (f.2.2.2.2.1 - 1) 8 = true := idxOK_of (by omega) (by omega)
      simp only [beq_eq_false_iff_ne.2 h0, cond_false, hw, hi, cond_true]
      exact ⟨_, rfl, rfl⟩
end Go.Proofs.YtjhkagfolmhacaaGreatDoor.K

/- Frames, plainly: the law Stays. -/
import Derived.Test.YtjhkagfolmhacaaGreatDoorL13c
set_option maxRecDepth 100000
set_option linter.unusedVariables false
set_option linter.unusedSimpArgs false
namespace Go.Proofs.YtjhkagfolmhacaaGreatDoor.K
open Go

theorem all_set {α : Type} (p : α → Bool) {l : List α} {i : Nat} {x : α} (h : l.all p = true) (hx : p x = true) : (l.set i x).all p = true := by
  rw [List.all_eq_true] at h ⊢
  intro y hy
  rcases List.mem_or_eq_of_mem_set hy with h1 | rfl
  · exact h y h1
  · exact hx

theorem set_ok {f : Fr} (h : FrOK f) (i : Nat) (x : Int) : FrOK (f.1, (f.2.1, ((List.set f.2.2.1 i x), f.2.2.2))) := ⟨by simpa using h.r, h.m, h.s⟩
theorem store_ok {f : Fr} (h : FrOK f) (i : Nat) (x : Int) : FrOK (f.1, (f.2.1, (f.2.2.1, ((List.set f.2.2.2.1 i x), f.2.2.2.2)))) := ⟨h.r, by simpa using h.m, h.s⟩
theorem set_fine {f : Fr} (h : FrFine f = true) (i : Nat) {x : Int} (hx : word_Fine.t x = true) : FrFine (f.1, (f.2.1, ((List.set f.2.2.1 i x), f.2.2.2))) = true := by
  unfold FrFine at h ⊢
  simp only [Bool.and_eq_true] at h ⊢
  exact ⟨⟨h.1.1, all_set _ h.1.2.1 hx, h.1.2.2⟩, h.2⟩
theorem store_fine {f : Fr} (h : FrFine f = true) (i : Nat) {x : Int} (hx : word_Fine.t x = true) : FrFine (f.1, (f.2.1, (f.2.2.1, ((List.set f.2.2.2.1 i x), f.2.2.2.2)))) = true := by
  unfold FrFine at h ⊢
  simp only [Bool.and_eq_true] at h ⊢
  exact ⟨⟨h.1.1, h.1.2.1, all_set _ h.1.2.2 hx⟩, h.2⟩

theorem load_u {f : Fr} (h : FrOK f) (hf : FrFine f = true) {i : Int} (h0 : 0 ≤ i) (h1 : i < 16) : frame_Load.u f i = some (List.getD f.2.2.2.1 i.toNat 0, 0) := by
  unfold frame_Load.u frame_Load.s
  rw [frame_at_u h]
  simp [atF, hf, fine0, show ¬ i < 0 by omega, show ¬ (i ≥ 16) by omega, idxOK_of h0 h1]
theorem set_u {f : Fr} (h : FrOK f) (hf : FrFine f = true) {i x : Int} (h0 : 0 ≤ i) (h1 : i < 8) (hx : word_Fine.t x = true) : frame_Set.u f i x = some ((f.1, (f.2.1, ((List.set f.2.2.1 i.toNat x), f.2.2.2))), 0) := by
  unfold frame_Set.u frame_Set.s
  rw [frame_at_u h]
  simp [atF, hf, hx, show ¬ i < 0 by omega, show ¬ (i ≥ 8) by omega, idxOK_of h0 h1]
theorem store_u {f : Fr} (h : FrOK f) (hf : FrFine f = true) {i x : Int} (h0 : 0 ≤ i) (h1 : i < 16) (hx : word_Fine.t x = true) : frame_Store.u f i x = some ((f.1, (f.2.1, (f.2.2.1, ((List.set f.2.2.2.1 i.toNat x), f.2.2.2.2)))), 0) := by
  unfold frame_Store.u frame_Store.s
  rw [frame_at_u h]
  simp [atF, hf, hx, show ¬ i < 0 by omega, show ¬ (i ≥ 16) by omega, idxOK_of h0 h1]

theorem set_getD_self {l : List Int} {i : Nat} : l.set i (l.getD i 0) = l := by
  apply List.ext_getElem?
  intro j
  rw [List.getElem?_set]
  by_cases h : i = j
  · subst h
    rw [if_pos rfl]
    by_cases hl : i < l.length
    · rw [if_pos hl, List.getD_eq_getElem?_getD, List.getElem?_eq_getElem hl]; rfl
    · rw [if_neg hl, List.getElem?_eq_none (by omega)]
  · rw [if_neg h]
theorem set_set_self {l : List Int} {i : Nat} {x : Int} : (l.set i x).set i (l.getD i 0) = l := by
  rw [List.set_set]; exact set_getD_self

theorem eqI_bool (x y : Bool) : eqI .bool x y = (x == y) := rfl
theorem all_range {p : Nat → Bool} {n : Nat} : (List.range n).all p = true ↔ ∀ j, j < n → p j = true := by simp [List.all_eq_true]
theorem getD_set {l : List Int} {i j : Nat} {x : Int} (h : i < l.length) : (l.set i x).getD j 0 = if i = j then x else l.getD j 0 := by
  simp only [List.getD_eq_getElem?_getD, List.getElem?_set]
  by_cases e : i = j
  · subst e; simp [h]
  · simp [e]

/-- The frame within a call. -/
def callF (f : Fr) (w : Int) : Fr := (w, (f.2.1, (f.2.2.1, (f.2.2.2.1, (f.2.2.2.2.1 + 1, ((List.set f.2.2.2.2.2.1 f.2.2.2.2.1.toNat (f.1 + 1)), f.2.2.2.2.2.2))))))
theorem call_ok {f : Fr} (h : FrOK f) (w : Int) : FrOK (callF f w) := ⟨h.r, h.m, by simpa [callF] using h.s⟩
theorem stack_zero {f : Fr} (h : FrOK f) (hf : FrFine f = true) {j : Nat} (h1 : f.2.2.2.2.1.toNat ≤ j) (h2 : j < 8) : f.2.2.2.2.2.1.getD j 0 = 0 := by
  unfold FrFine at hf
  simp only [Bool.and_eq_true] at hf
  have hz := hf.2.2
  rw [all_drop (fun x => x == 0) 0, h.s] at hz
  have := all_range.1 hz j h2
  simp only [show ¬ (j < f.2.2.2.2.1.toNat) by omega, decide_false, Bool.false_or, beq_iff_eq] at this
  exact this
theorem call_fine {f : Fr} (h : FrOK f) (hf : FrFine f = true) {w : Int} (hw : frame_place.t w = true) (h8 : f.2.2.2.2.1 ≠ 8) (h64 : f.1 ≠ 64) : FrFine (callF f w) = true := by
  obtain ⟨p1, p2, p3⟩ := FrFine_parts hf
  have p1' := place_range.1 p1
  have pp : frame_place.t (f.1 + 1) = true := place_range.2 ⟨by omega, by omega⟩
  have hz := fun (j : Nat) => @stack_zero f h hf j
  unfold FrFine at hf ⊢
  simp only [Bool.and_eq_true] at hf ⊢
  have ht := hf.2.1
  rw [all_take frame_place.t 0, h.s] at ht
  have hd : f.2.2.2.2.1.toNat < f.2.2.2.2.2.1.length := by rw [h.s]; omega
  refine ⟨⟨⟨hw, decide_eq_true (show 0 ≤ f.2.2.2.2.1 + 1 by omega), decide_eq_true (show f.2.2.2.2.1 + 1 ≤ 8 by omega)⟩, hf.1.2⟩, ?_, ?_⟩
  · simp only [callF]
    rw [all_take frame_place.t 0, List.length_set, h.s]
    refine all_range.2 fun j hj => ?_
    rw [getD_set hd]
    have := all_range.1 ht j hj
    by_cases e : f.2.2.2.2.1.toNat = j
    · rw [if_pos e, pp]; simp
    · rw [if_neg e]
      by_cases hlt : j < f.2.2.2.2.1.toNat
      · simp only [hlt, decide_true, Bool.not_true, Bool.false_or] at this
        rw [this]; simp
      · simp [show ¬ (j < (f.2.2.2.2.1 + 1).toNat) by omega]
  · simp only [callF]
    rw [all_drop (fun x => x == 0) 0, List.length_set, h.s]
    refine all_range.2 fun j hj => ?_
    by_cases hlt : j < (f.2.2.2.2.1 + 1).toNat
    · simp [hlt]
    · rw [getD_set hd, if_neg (by omega), hz j (by omega) hj]; simp
theorem call_u {f : Fr} (h : FrOK f) (hf : FrFine f = true) {w : Int} (hw : frame_place.t w = true) (h8 : f.2.2.2.2.1 ≠ 8) (h64 : f.1 ≠ 64) : frame_Call.u f w = some (callF f w, 0) := by
  obtain ⟨p1, p2, p3⟩ := FrFine_parts hf
  have p1' := place_range.1 p1
  have pp : frame_place.t (f.1 + 1) = true := place_range.2 ⟨by omega, by omega⟩
  have e1 : IntKind.wrap .i64 (f.1 + 1) = f.1 + 1 := wrapN ⟨by omega, by omega⟩
  have e2 : IntKind.wrap .i64 (f.2.2.2.2.1 + 1) = f.2.2.2.2.1 + 1 := wrapN ⟨by omega, by omega⟩
  unfold frame_Call.u frame_Call.s
  rw [frame_fine h, hf]
  simp only [Option.bind_some, Bool.not_true, cond_false, beq_eq_false_iff_ne.2 h8, hw, e1, e2, pp, idxOK_of p2 (show f.2.2.2.2.1 < ((8 : Nat) : Int) by omega), cond_true]
  rfl
theorem ret_u {f : Fr} (h : FrOK f) (hf : FrFine f = true) {w : Int} (hw : frame_place.t w = true) (h8 : f.2.2.2.2.1 ≠ 8) (h64 : f.1 ≠ 64) : frame_Ret.u (callF f w) = some ((f.1 + 1, f.2), 0) := by
  obtain ⟨p1, p2, p3⟩ := FrFine_parts hf
  unfold frame_Ret.u frame_Ret.s
  rw [frame_fine (call_ok h w), call_fine h hf hw h8 h64]
  have hd : f.2.2.2.2.1.toNat < f.2.2.2.2.2.1.length := by rw [h.s]; omega
  have e3 : IntKind.wrap .i64 (f.2.2.2.2.1 + 1 - 1) = f.2.2.2.2.1 := by rw [wrapN ⟨by omega, by omega⟩]; omega
  have e4 : (List.set f.2.2.2.2.2.1 f.2.2.2.2.1.toNat (f.1 + 1)).set f.2.2.2.2.1.toNat 0 = f.2.2.2.2.2.1 := by
    rw [List.set_set]
    have := set_getD_self (l := f.2.2.2.2.2.1) (i := f.2.2.2.2.1.toNat)
    rwa [stack_zero h hf (Nat.le_refl _) (by rw [h.s] at hd; exact hd)] at this
  simp only [Option.bind_some, Bool.not_true, cond_false, callF, beq_eq_false_iff_ne.2 (show f.2.2.2.2.1 + 1 ≠ 0 by omega), e3, idxOK_of p2 (show f.2.2.2.2.1 < ((8 : Nat) : Int) by omega), cond_true, getD_set hd, if_true, e4]

theorem go_u {f : Fr} (h : FrOK f) (hf : FrFine f = true) {w : Int} (hw : frame_place.t w = true) : frame_Go.u f w = some ((w, f.2), 0) := by
  unfold frame_Go.u frame_Go.s
  rw [frame_fine h, hf]
  simp only [Option.bind_some, Bool.not_true, cond_false, hw]

end Go.Proofs.YtjhkagfolmhacaaGreatDoor.K

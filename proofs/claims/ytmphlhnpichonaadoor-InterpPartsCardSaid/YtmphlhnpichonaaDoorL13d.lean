/- Frames, plainly: the law Stays. -/
import Derived.Test.YtmphlhnpichonaaDoorL13c
set_option maxRecDepth 100000
set_option linter.unusedVariables false
set_option linter.unusedSimpArgs false
namespace Go.Proofs.YtmphlhnpichonaaDoor.K
open Go

theorem all_set {α : Type} (p : α → Bool) {l : List α} {i : Nat} {x : α} (h : l.all p = true) (hx : p x = true) : (l.set i x).all p = true := by
  rw [List.all_eq_true] at h ⊢
  intro y hy
  rcases List.mem_or_eq_of_mem_set hy with h1 | rfl
  · exact h y h1
  · exact hx

theorem set_ok {f : Fr} (h : FrOK f) (i : Nat) (x : Int) : FrOK (f.1, (f.2.1, ((List.set f.2.2.1 i x), f.2.2.2))) := ⟨by simpa using h.r, h.m, h.s⟩
theorem store_ok {f : Fr} (h : FrOK f) (i : Nat) (x : Int) : FrOK (f.1, (f.2.1, (f.2.2.1, ((List.set f.2.2.2.1 i x), f.2.2.2.2)))) := ⟨h.r, by simpa using h.m, h.s⟩
theorem set_fine {f : Fr} (h : FrFine f = true) (i : Nat) {x : Int} (hx : word_Fine.t x = true) : FrFine (f.1, (f.2.1, ((List.set f.2.2.1 i x), f.2.2.2))) = true := by
  unfold FrFine at h ⊢
  simp only [Bool.and_eq_true] at h ⊢
  exact ⟨⟨h.1.1, all_set _ h.1.2.1 hx, h.1.2.2⟩, h.2⟩
theorem store_fine {f : Fr} (h : FrFine f = true) (i : Nat) {x : Int} (hx : word_Fine.t x = true) : FrFine (f.1, (f.2.1, (f.2.2.1, ((List.set f.2.2.2.1 i x), f.2.2.2.2)))) = true := by
  unfold FrFine at h ⊢
  simp only [Bool.and_eq_true] at h ⊢
  exact ⟨⟨h.1.1, h.1.2.1, all_set _ h.1.2.2 hx⟩, h.2⟩

theorem get_u {f : Fr} (h : FrOK f) (hf : FrFine f = true) {i : Int} (h0 : 0 ≤ i) (h1 : i < 8) : frame_Get.u f i = some (List.getD f.2.2.1 i.toNat 0, 0) := by
  unfold frame_Get.u frame_Get.s
  rw [frame_at_u h]
  simp [atF, hf, fine0, show ¬ i < 0 by omega, show ¬ (i ≥ 8) by omega, idxOK_of h0 h1]
theorem load_u {f : Fr} (h : FrOK f) (hf : FrFine f = true) {i : Int} (h0 : 0 ≤ i) (h1 : i < 16) : frame_Load.u f i = some (List.getD f.2.2.2.1 i.toNat 0, 0) := by
  unfold frame_Load.u frame_Load.s
  rw [frame_at_u h]
  simp [atF, hf, fine0, show ¬ i < 0 by omega, show ¬ (i ≥ 16) by omega, idxOK_of h0 h1]
theorem set_u {f : Fr} (h : FrOK f) (hf : FrFine f = true) {i x : Int} (h0 : 0 ≤ i) (h1 : i < 8) (hx : word_Fine.t x = true) : frame_Set.u f i x = some ((f.1, (f.2.1, ((List.set f.2.2.1 i.toNat x), f.2.2.2))), 0) := by
  unfold frame_Set.u frame_Set.s
  rw [frame_at_u h]
  simp [atF, hf, hx, show ¬ i < 0 by omega, show ¬ (i ≥ 8) by omega, idxOK_of h0 h1]
theorem store_u {f : Fr} (h : FrOK f) (hf : FrFine f = true) {i x : Int} (h0 : 0 ≤ i) (h1 : i < 16) (hx : word_Fine.t x = true) : frame_Store.u f i x = some ((f.1, (f.2.1, (f.2.2.1, ((List.set f.2.2.2.1 i.toNat x), f.2.2.2.2)))), 0) := by
  unfold frame_Store.u frame_Store.s
  rw [frame_at_u h]
  simp [atF, hf, hx, show ¬ i < 0 by omega, show ¬ (i ≥ 16) by omega, idxOK_of h0 h1]

theorem set_getD_self {l : List Int} {i : Nat} : l.set i (l.getD i 0) = l := by
  apply List.ext_getElem?
  intro j
  rw [List.getElem?_set]
  by_cases h : i = j
  · subst h
    rw [if_pos rfl]
    by_cases hl : i < l.length
    · rw [if_pos hl, List.getD_eq_getElem?_getD, List.getElem?_eq_getElem hl]; rfl
    · rw [if_neg hl, List.getElem?_eq_none (by omega)]
  · rw [if_neg h]
theorem set_set_self {l : List Int} {i : Nat} {x : Int} : (l.set i x).set i (l.getD i 0) = l := by
  rw [List.set_set]; exact set_getD_self

theorem eqI_bool (x y : Bool) : eqI .bool x y = (x == y) := rfl
theorem all_range {p : Nat → Bool} {n : Nat} : (List.range n).all p = true ↔ ∀ j, j < n → p j = true := by simp [List.all_eq_true]
theorem getD_set {l : List Int} {i j : Nat} {x : Int} (h : i < l.length) : (l.set i x).getD j 0 = if i = j then x else l.getD j 0 := by
  simp only [List.getD_eq_getElem?_getD, List.getElem?_set]
  by_cases e : i = j
  · subst e; simp [h]
  · simp [e]

/-- The frame within a call. -/
def callF (f : Fr) (w : Int) : Fr := (w, (f.2.1, (f.2.2.1, (f.2.2.2.1, (f.2.2.2.2.1 + 1, ((List.set f.2.2.2.2.2.1 f.2.2.2.2.1.toNat (f.1 + 1)), f.2.2.2.2.2.2))))))
theorem call_ok {f : Fr} (h : FrOK f) (w : Int) : FrOK (callF f w) := ⟨h.r, h.m, by simpa [callF] using h.s⟩
theorem stack_zero {f : Fr} (h : FrOK f) (hf : FrFine f = true) {j : Nat} (h1 : f.2.2.2.2.1.toNat ≤ j) (h2 : j < 8) : f.2.2.2.2.2.1.getD j 0 = 0 := by
  unfold FrFine at hf
  simp only [Bool.and_eq_true] at hf
  have hz := hf.2.2
  rw [all_drop (fun x => x == 0) 0, h.s] at hz
  have := all_range.1 hz j h2
  simp only [show ¬ (j < f.2.2.2.2.1.toNat) by omega, decide_false, Bool.false_or, beq_iff_eq] at this
  exact this
theorem call_fine {f : Fr} (h : FrOK f) (hf : FrFine f = true) {w : Int} (hw : frame_place.t w = true) (h8 : f.2.2.2.2.1 ≠ 8) (h64 : f.1 ≠ 64) : FrFine (callF f w) = true := by
  obtain ⟨p1, p2, p3⟩ := FrFine_parts hf
  have p1' := place_range.1 p1
  have pp : frame_place.t (f.1 + 1) = true := place_range.2 ⟨by omega, by omega⟩
  have hz := fun (j : Nat) => @stack_zero f h hf j
  unfold FrFine at hf ⊢
  simp only [Bool.and_eq_true] at hf ⊢
  have ht := hf.2.1
  rw [all_take frame_place.t 0, h.s] at ht
  have hd : f.2.2.2.2.1.toNat < f.2.2.2.2.2.1.length := by rw [h.s]; omega
  refine ⟨⟨⟨hw, decide_eq_true (show 0 ≤ f.2.2.2.2.1 + 1 by omega), decide_eq_true (show f.2.2.2.2.1 + 1 ≤ 8 by omega)⟩, hf.1.2⟩, ?_, ?_⟩
  · simp only [callF]
    rw [all_take frame_place.t 0, List.length_set, h.s]
    refine all_range.2 fun j hj => ?_
    rw [getD_set hd]
    have := all_range.1 ht j hj
    by_cases e : f.2.2.2.2.1.toNat = j
    · rw [if_pos e, pp]; simp
    · rw [if_neg e]
      by_cases hlt : j < f.2.2.2.2.1.toNat
      · simp only [hlt, decide_true, Bool.not_true, Bool.false_or] at this
        rw [this]; simp
      · simp [show ¬ (j < (f.2.2.2.2.1 + 1).toNat) by omega]
  · simp only [callF]
    rw [all_drop (fun x => x == 0) 0, List.length_set, h.s]
    refine all_range.2 fun j hj => ?_
    by_cases hlt : j < (f.2.2.2.2.1 + 1).toNat
    · simp [hlt]
    · rw [getD_set hd, if_neg (by omega), hz j (by omega) hj]; simp
theorem call_u {f : Fr} (h : FrOK f) (hf : FrFine f = true) {w : Int} (hw : frame_place.t w = true) (h8 : f.2.2.2.2.1 ≠ 8) (h64 : f.1 ≠ 64) : frame_Call.u f w = some (callF f w, 0) := by
  obtain ⟨p1, p2, p3⟩ := FrFine_parts hf
  have p1' := place_range.1 p1
  have pp : frame_place.t (f.1 + 1) = true := place_range.2 ⟨by omega, by omega⟩
  have e1 : IntKind.wrap .i64 (f.1 + 1) = f.1 + 1 := wrapN ⟨by omega, by omega⟩
  have e2 : IntKind.wrap .i64 (f.2.2.2.2.1 + 1) = f.2.2.2.2.1 + 1 := wrapN ⟨by omega, by omega⟩
  unfold frame_Call.u frame_Call.s
  rw [frame_fine h, hf]
  simp only [Option.bind_some, Bool.not_true, cond_false, beq_eq_false_iff_ne.2 h8, hw, e1, e2, pp, idxOK_of p2 (show f.2.2.2.2.1 < ((8 : Nat) : Int) by omega), cond_true]
  rfl
theorem ret_u {f : Fr} (h : FrOK f) (hf : FrFine f = true) {w : Int} (hw : frame_place.t w = true) (h8 : f.2.2.2.2.1 ≠ 8) (h64 : f.1 ≠ 64) : frame_Ret.u (callF f w) = some ((f.1 + 1, f.2), 0) := by
  obtain ⟨p1, p2, p3⟩ := FrFine_parts hf
  unfold frame_Ret.u frame_Ret.s
  rw [frame_fine (call_ok h w), call_fine h hf hw h8 h64]
  have hd : f.2.2.2.2.1.toNat < f.2.2.2.2.2.1.length := by rw [h.s]; omega
  have e3 : IntKind.wrap .i64 (f.2.2.2.2.1 + 1 - 1) = f.2.2.2.2.1 := by rw [wrapN ⟨by omega, by omega⟩]; omega
  have e4 : (List.set f.2.2.2.2.2.1 f.2.2.2.2.1.toNat (f.1 + 1)).set f.2.2.2.2.1.toNat 0 = f.2.2.2.2.2.1 := by
    rw [List.set_set]
    have := set_getD_self (l := f.2.2.2.2.2.1) (i := f.2.2.2.2.1.toNat)
    rwa [stack_zero h hf (Nat.le_refl _) (by rw [h.s] at hd; exact hd)] at this
  simp only [Option.bind_some, Bool.not_true, cond_false, callF, beq_eq_false_iff_ne.2 (show f.2.2.2.2.1 + 1 ≠ 0 by omega), e3, idxOK_of p2 (show f.2.2.2.2.1 < ((8 : Nat) : Int) by omega), cond_true, getD_set hd, if_true, e4]

theorem go_u {f : Fr} (h : FrOK f) (hf : FrFine f = true) {w : Int} (hw : frame_place.t w = true) : frame_Go.u f w = some ((w, f.2), 0) := by
  unfold frame_Go.u frame_Go.s
  rw [frame_fine h, hf]
  simp only [Option.bind_some, Bool.not_true, cond_false, hw]

theorem law_stays {f : Fr} (h : FrOK f) {a x : Int} (ha : 0 ≤ a) (ha2 : a ≤ 255) (hx : -2147483648 ≤ x) (hx2 : x ≤ 2147483647) : law13_FrameStays.u f a x = some true := by
  unfold law13_FrameStays.u law13_FrameStays.s
  rw [frame_fine h]
  have wx : IntKind.wrap .i64 x = x := wrapN ⟨by omega, by omega⟩
  have m8 : 0 ≤ Int.tmod a 8 ∧ Int.tmod a 8 < 8 := by
    rw [Int.tmod_eq_emod_of_nonneg ha]; omega
  have m16 : 0 ≤ Int.tmod a 16 ∧ Int.tmod a 16 < 16 := by
    rw [Int.tmod_eq_emod_of_nonneg ha]; omega
  have w8' : IntKind.wrap .i64 (Int.tmod a 8) = Int.tmod a 8 := wrapN ⟨by omega, by omega⟩
  have w16 : IntKind.wrap .i64 (Int.tmod a 16) = Int.tmod a 16 := wrapN ⟨by omega, by omega⟩
  have fx : word_Fine.t x = true := by unfold word_Fine.t; simp [hx, hx2]
  simp only [Option.bind_some, wx, w8', w16]
  generalize Int.tmod a 8 = r at m8
  generalize Int.tmod a 16 = w at m16
  cases hf : FrFine f with
  | false =>
    simp only [Bool.not_false, cond_true]
    unfold frame_Set.u frame_Set.s
    rw [frame_at_u h]
    simp [atF, hf, alive13]
  | true =>
    have ok1 := set_ok h r.toNat x
    have f1 := set_fine hf r.toNat fx
    have ok2 := store_ok ok1 w.toNat x
    have f2 := store_fine f1 w.toNat fx
    simp only [Bool.not_true, cond_false, set_u h hf m8.1 m8.2 fx, Option.bind_some, store_u ok1 f1 m16.1 m16.2 fx]
    simp only [get_u ok2 f2 m8.1 m8.2, load_u ok2 f2 m16.1 m16.2, Option.bind_some, frame_fine ok2, f2]
    have g1 : List.getD (List.set f.2.2.1 r.toNat x) r.toNat 0 = x := by
      rw [List.getD_eq_getElem?_getD, List.getElem?_set_self (by rw [h.r]; omega)]; rfl
    have g2 : List.getD (List.set f.2.2.2.1 w.toNat x) w.toNat 0 = x := by
      rw [List.getD_eq_getElem?_getD, List.getElem?_set_self (by rw [h.m]; omega)]; rfl
    simp only [g1, g2, bne_self_eq_false, cond_false, Bool.not_true, idxOK_of m8.1 m8.2, idxOK_of m16.1 m16.2, cond_true, set_set_self]
    have e1 : ((f.1, (f.2.1, (f.2.2.1, (f.2.2.2.1, f.2.2.2.2)))) : Fr) = f := rfl
    simp only [e1, eqFr, Bool.not_true, cond_false]
    obtain ⟨p1, p2, p3⟩ := FrFine_parts hf
    have p1' := place_range.1 p1
    have pw : frame_place.t w = true := place_range.2 ⟨by omega, by omega⟩
    have hw : IntKind.wrap .i64 (f.1 + 1) = f.1 + 1 := wrapN ⟨by omega, by omega⟩
    by_cases h8 : f.2.2.2.2.1 = 8
    · have hc : frame_Call.u f w = some (f, 19) := by
        unfold frame_Call.u frame_Call.s
        rw [frame_fine h, hf]
        simp [h8]
      simp [hc, h8, eqFr, alive13, eqI_bool]
    by_cases h64 : f.1 = 64
    · have hc : frame_Call.u f w = some (f, 8) := by
        unfold frame_Call.u frame_Call.s
        rw [frame_fine h, hf]
        have : frame_place.t (f.1 + 1) = false := by rw [h64]; decide
        have e1 : IntKind.wrap .i64 (f.1 + 1) = f.1 + 1 := wrapN ⟨by omega, by omega⟩
        simp [beq_eq_false_iff_ne.2 h8, pw, this, e1]
      simp [hc, beq_eq_false_iff_ne.2 h8, eqFr, alive13, eqI_bool]
    have pp : frame_place.t (f.1 + 1) = true := place_range.2 ⟨by omega, by omega⟩
    simp only [call_u h hf pw h8 h64, Option.bind_some, ret_u h hf pw h8 h64, hw, go_u h hf pp, frame_fine (call_ok h w), call_fine h hf pw h8 h64, cond_true]
    simp [callF, eqFr, alive13]
theorem row_FrameStays (xs : Args [tyFr, .int .u8, .int .i32]) (h : fitsA _ xs) : law13_FrameStays.u xs.1 xs.2.1 xs.2.2.1 = some true := by
  have h1 := bounds_u8 (show (Lit.int .u8 xs.2.1).wf = true from h.2.1)
  have h2 := bounds_i32 (show (Lit.int .i32 xs.2.2.1).wf = true from h.2.2.1)
  exact law_stays (frOK_of h.1) h1.1 h1.2 h2.1 h2.2
end Go.Proofs.YtmphlhnpichonaaDoor.K

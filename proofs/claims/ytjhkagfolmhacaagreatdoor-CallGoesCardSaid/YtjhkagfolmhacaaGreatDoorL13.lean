/- Frames, plainly: the program's are the document's. -/
import Derived.Test.YtjhkagfolmhacaaGreatDoorZ13
import Derived.Test.YtjhkagfolmhacaaGreatDoorL08a
set_option maxRecDepth 100000
set_option linter.unusedVariables false
set_option linter.unusedSimpArgs false
namespace Go.Proofs.YtjhkagfolmhacaaGreatDoor.K
open Go

abbrev Fr := Int × (Bool × ((List Int) × ((List Int) × (Int × ((List Int) × Unit)))))
/-- As many words as there are to be. -/
structure FrOK (f : Fr) : Prop where
  r : f.2.2.1.length = 8
  m : f.2.2.2.1.length = 16
  s : f.2.2.2.2.2.1.length = 8

theorem place_eq : ref13_Place.t = frame_place.t := rfl

theorem all_word (l : List Int) (h : l.length ≤ 4611686018427387904) : frame_all__word_Fine.u l = some (l.all word_Fine.t) := by
  obtain ⟨j, e1, e2⟩ := find_list (fun x => frame_all_1__word_Fine.t x) (fun xs i => slices_IndexFunc_int_int__frame_all_1_word_Fine.g0 l some xs i) some (fun i => rfl) (fun x xs i => rfl) l 0 (by omega)
  unfold frame_all__word_Fine.u frame_all__word_Fine.s slices_ContainsFunc_int_int__frame_all_1_word_Fine.u slices_ContainsFunc_int_int__frame_all_1_word_Fine.s slices_IndexFunc_int_int__frame_all_1_word_Fine.u slices_IndexFunc_int_int__frame_all_1_word_Fine.w
  rw [dec_len h (Nat.le_refl _), cond_true, e1]
  simp only [Option.bind_some, e2]
  congr 1
  exact bnot_any _ l
theorem all_place (l : List Int) (h : l.length ≤ 4611686018427387904) : frame_all__frame_place.u l = some (l.all frame_place.t) := by
  obtain ⟨j, e1, e2⟩ := find_list (fun x => frame_all_1__frame_place.t x) (fun xs i => slices_IndexFunc_int_int__frame_all_1_frame_place.g0 l some xs i) some (fun i => rfl) (fun x xs i => rfl) l 0 (by omega)
  unfold frame_all__frame_place.u frame_all__frame_place.s slices_ContainsFunc_int_int__frame_all_1_frame_place.u slices_ContainsFunc_int_int__frame_all_1_frame_place.s slices_IndexFunc_int_int__frame_all_1_frame_place.u slices_IndexFunc_int_int__frame_all_1_frame_place.w
  rw [dec_len h (Nat.le_refl _), cond_true, e1]
  simp only [Option.bind_some, e2]
  congr 1
  exact bnot_any _ l
theorem all_zero (l : List Int) (h : l.length ≤ 4611686018427387904) : frame_all__frame_Fine_1.u l = some (l.all fun x => x == 0) := by
  obtain ⟨j, e1, e2⟩ := find_list (fun x => frame_all_1__frame_Fine_1.t x) (fun xs i => slices_IndexFunc_int_int__frame_all_1_frame_Fine_1.g0 l some xs i) some (fun i => rfl) (fun x xs i => rfl) l 0 (by omega)
  unfold frame_all__frame_Fine_1.u frame_all__frame_Fine_1.s slices_ContainsFunc_int_int__frame_all_1_frame_Fine_1.u slices_ContainsFunc_int_int__frame_all_1_frame_Fine_1.s slices_IndexFunc_int_int__frame_all_1_frame_Fine_1.u slices_IndexFunc_int_int__frame_all_1_frame_Fine_1.w
  rw [dec_len h (Nat.le_refl _), cond_true, e1]
  simp only [Option.bind_some, e2]
  congr 1
  exact bnot_any _ l

/-- What a frame is that may be. -/
def FrFine (f : Fr) : Bool :=
  frame_place.t f.1 && (decide (0 ≤ f.2.2.2.2.1) && decide (f.2.2.2.2.1 ≤ 8)) && (f.2.2.1.all word_Fine.t && f.2.2.2.1.all word_Fine.t) &&
    ((f.2.2.2.2.2.1.take f.2.2.2.2.1.toNat).all frame_place.t && (f.2.2.2.2.2.1.drop f.2.2.2.2.1.toNat).all fun x => x == 0)

theorem frame_fine {f : Fr} (h : FrOK f) : frame_Fine.u f = some (FrFine f) := by
  obtain ⟨pc, bad, r, m, d, s, u⟩ := f
  obtain ⟨hr, hm, hs⟩ := h
  simp only at hr hm hs
  unfold frame_Fine.u frame_Fine.s FrFine
  simp only
  cases h1 : frame_place.t pc with
  | false => simp
  | true =>
    simp only [Bool.not_true, cond_false]
    by_cases h2 : d < 0
    · simp [h2, show ¬ (0 ≤ d) by omega]
    by_cases h3 : d > 8
    · simp [h2, h3, show ¬ (d ≤ 8) by omega]
    have e1 : List.take (subHi none 8 - subLo none) (List.drop (subLo none) r) = r := by
      show List.take (8 - 0) (List.drop 0 r) = r
      rw [List.drop_zero, List.take_of_length_le (by omega)]
    have e2 : List.take (subHi none 16 - subLo none) (List.drop (subLo none) m) = m := by
      show List.take (16 - 0) (List.drop 0 m) = m
      rw [List.drop_zero, List.take_of_length_le (by omega)]
    have e3 : List.take (subHi (some d) 8 - subLo none) (List.drop (subLo none) s) = s.take d.toNat := by
      show List.take (d.toNat - 0) (List.drop 0 s) = _
      rw [List.drop_zero, Nat.sub_zero]
    have e4 : List.take (subHi none 8 - subLo (some d)) (List.drop (subLo (some d)) s) = s.drop d.toNat := by
      show List.take (8 - d.toNat) (List.drop d.toNat s) = _
      rw [List.take_of_length_le (by rw [List.length_drop]; omega)]
    have c1 : subC none none 8 = true := rfl
    have c2 : subC none none 16 = true := rfl
    have c3 : subC none (some d) 8 = true := by simp [subC]; omega
    have c4 : subC (some d) none 8 = true := by simp [subC]; omega
    simp only [h2, h3, decide_false, cond_false, c1, c2, c3, c4, cond_true, e1, e2, e3, e4, all_word r (by omega), all_word m (by omega), all_place (s.take d.toNat) (by rw [List.length_take]; omega), all_zero (s.drop d.toNat) (by rw [List.length_drop]; omega), Option.bind_some,
      show (0 ≤ d) from by omega, show (d ≤ 8) from by omega, decide_true, Bool.true_and]
    cases r.all word_Fine.t <;> cases m.all word_Fine.t <;> cases (s.take d.toNat).all frame_place.t <;> simp

theorem ref_fine {f : Fr} (h : FrOK f) : ref13_Fine.u f = some (FrFine f) := by
  obtain ⟨pc, bad, r, m, d, s, u⟩ := f
  obtain ⟨hr, hm, hs⟩ := h
  simp only at hr hm hs
  unfold ref13_Fine.u ref13_Fine.w FrFine
  simp only [place_eq]
  cases h1 : frame_place.t pc with
  | false => simp
  | true =>
    simp only [Bool.not_true, cond_false]
    by_cases h2 : d < 0
    · simp [h2, show ¬ (0 ≤ d) by omega]
    by_cases h3 : d > 8
    · simp [h2, h3, show ¬ (d ≤ 8) by omega]
    simp only [h2, h3, decide_false, cond_false]
    have g0 : ref13_Fine.g0 (pc, bad, r, m, d, s, u) some 16 0 = some (m.all word_Fine.t) := by
      have := count_all (fun n i => ref13_Fine.g0 (pc, bad, r, m, d, s, u) some n i) (fun j => word_Fine.t (m.getD j 0)) (some true) (some false) 16 rfl (fun n i hi => by
        show (bif idxOK (i : Int) 16 then (bif (!(ref08_Fine.t (List.getD m (Int.toNat (i : Int)) 0))) then some false else ref13_Fine.g0 (pc, bad, r, m, d, s, u) some n ((i : Int) + 1)) else none) = _
        rw [idxOK_nat (by omega), cond_true, fine_eq, Int.toNat_natCast]
        cases word_Fine.t (m.getD i 0) <;> rfl) 16 0 rfl
      refine this.trans ?_
      rw [all_getD word_Fine.t 0 m, hm, List.range_eq_range']
      cases (List.range' 0 16).all fun j => word_Fine.t (m.getD j 0) <;> rfl
    have g1 := count_all (fun n i => ref13_Fine.g1 (pc, bad, r, m, d, s, u) some n i) (fun j => word_Fine.t (r.getD j 0) && ((!decide (j < d.toNat) || frame_place.t (s.getD j 0)) && (decide (j < d.toNat) || s.getD j 0 == 0))) (some (m.all word_Fine.t)) (some false) 8 g0 (fun n i hi => by
        show (bif idxOK (i : Int) 8 then _ else none) = _
        have hi8 : idxOK (i : Int) 8 = true := idxOK_nat (by omega)
        simp only [hi8, cond_true, fine_eq, place_eq, Int.toNat_natCast]
        by_cases hj : i < d.toNat
        · have q1 : (i : Int) < d := by omega
          have q2 : ¬ ((i : Int) ≥ d) := by omega
          simp only [hj, q1, q2, decide_true, decide_false, cond_true, cond_false, Bool.not_true, Bool.false_or, Bool.true_or, Bool.and_true]
          cases word_Fine.t (r.getD i 0) <;> cases frame_place.t (s.getD i 0) <;> rfl
        · have q1 : ¬ ((i : Int) < d) := by omega
          have q2 : ((i : Int) ≥ d) := by omega
          simp only [hj, q1, q2, decide_true, decide_false, cond_true, cond_false, Bool.not_false, Bool.true_or, Bool.false_or, Bool.true_and]
          cases word_Fine.t (r.getD i 0) <;> simp [bne]) 8 0 rfl
    refine Eq.trans g1 ?_
    rw [all_getD word_Fine.t 0 r, all_take frame_place.t 0 s, all_drop (fun x => x == 0) 0 s, hr, hs, ← List.range_eq_range']
    rw [all_and, all_and]
    simp only [show (0 ≤ d) from by omega, show (d ≤ 8) from by omega, decide_true, Bool.true_and]
    cases (List.range 8).all fun j => word_Fine.t (r.getD j 0) <;> cases m.all word_Fine.t <;> cases (List.range 8).all fun j => !decide (j < d.toNat) || frame_place.t (s.getD j 0) <;> cases (List.range 8).all fun j => decide (j < d.toNat) || s.getD j 0 == 0 <;> rfl
end Go.Proofs.YtjhkagfolmhacaaGreatDoor.K

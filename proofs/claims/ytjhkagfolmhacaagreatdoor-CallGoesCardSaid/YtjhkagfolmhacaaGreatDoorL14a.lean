/- A program's step, plainly: the interpreter's is the reference's. -/
import Derived.Test.YtjhkagfolmhacaaGreatDoorZ14
import Derived.Test.YtjhkagfolmhacaaGreatDoorL12a
import Derived.Test.YtjhkagfolmhacaaGreatDoorL08c
import Derived.Test.YtjhkagfolmhacaaGreatDoorL13d
set_option maxRecDepth 100000
set_option linter.unusedVariables false
set_option linter.unusedSimpArgs false
namespace Go.Proofs.YtjhkagfolmhacaaGreatDoor.K
open Go

theorem wr_chk {l : List In} {a : Nat} {own : Bool} (h : wrF l a own = 0) : chk (l.getD a noIn) = 0 := by
  unfold wrF at h
  cases hc : (chk (l.getD a noIn) != 0) with
  | true => rw [hc, cond_true] at h; exact h
  | false => simpa using hc
theorem go_chk {l : List In} (h : PrOK l) (hl : l.length ≤ 64) : ∀ (xs : List In) (a : Nat), l.drop a = xs → ∀ v, ref12_Check.g0 l some xs (a : Int) = some v → v.2 = 0 → ∀ j, a ≤ j → j < l.length → chk (l.getD j noIn) = 0
  | [], a, hd, v, _, _, j, h1, h2 => by have := List.drop_eq_nil_iff.1 hd; omega
  | x :: xs, a, hd, v, hv, h0, j, h1, h2 => by
    have ha : a < l.length := by
      rcases Nat.lt_or_ge a l.length with hlt | hge
      · exact hlt
      · rw [List.drop_eq_nil_of_le hge] at hd; cases hd
    have hd' : l.drop (a + 1) = xs := by
      rw [List.drop_eq_getElem_cons ha] at hd
      cases hd; rfl
    simp only [ref12_Check.g0, one_u h hl ha, Option.bind_some] at hv
    cases hw : (wrF l a (ownF l a a) != 0) with
    | true =>
      rw [hw, cond_true] at hv
      cases hv
      simp only at h0
      rw [h0] at hw; cases hw
    | false =>
      rw [hw, cond_false] at hv
      by_cases e : j = a
      · subst e; exact wr_chk (by simpa using hw)
      · exact go_chk h hl xs (a + 1) hd' v (by rw [show ((a + 1 : Nat) : Int) = (a : Int) + 1 by omega]; exact hv) h0 j (by omega) h2
theorem ok_chk {l : List In} (h : PrOK l) (ho : okPr l = true) {a : Nat} (ha : a < l.length) : chk (l.getD a noIn) = 0 := by
  obtain ⟨v, v1, v2⟩ := check_law h
  have hv0 : v.2 = 0 := by unfold okPr at ho; rw [v1] at ho; simpa using ho
  unfold ref12_Check.u ref12_Check.w at v2
  cases h0 : (((List.length l : Nat) : Int) == 0) with
  | true => have := beq_iff_eq.1 h0; omega
  | false =>
    cases h1 : decide (((List.length l : Nat) : Int) > 64) with
    | true =>
      rw [h0, h1] at v2
      cases v2
      cases hv0
    | false =>
      have hl : l.length ≤ 64 := by have := of_decide_eq_false h1; omega
      rw [h0, h1] at v2
      simp only [cond_false, dec_len hl (by decide), cond_true] at v2
      exact go_chk h hl l 0 rfl v v2 hv0 a (by omega) ha

theorem chk_parts {x : In} (h : chk x = 0) : opcode_fine.t x.1 = true ∧ wrongR (bAt (lineOf x.1).2.1 0) x.2.1 = 0 ∧ wrongR (bAt (lineOf x.1).2.1 1) x.2.2.1 = 0 ∧ wrongR (bAt (lineOf x.1).2.1 2) x.2.2.2.1 = 0 := by
  unfold chk at h
  cases hf : opcode_fine.t x.1 with
  | false => rw [hf] at h; cases h
  | true =>
    rw [hf, cond_true] at h
    cases h1 : (wrongR (bAt (lineOf x.1).2.1 0) x.2.1 != 0) with
    | true => rw [h1, cond_true] at h; rw [h] at h1; cases h1
    | false =>
      cases h2 : (wrongR (bAt (lineOf x.1).2.1 1) x.2.2.1 != 0) with
      | true => rw [h1, h2, cond_true, cond_false] at h; rw [h] at h2; cases h2
      | false =>
        rw [h1, h2, cond_false, cond_false] at h
        exact ⟨rfl, by simpa using h1, by simpa using h2, h⟩
theorem reg_idx {n : Int} (h : wrongR 114 n = 0) : idxOK n 8 = true := by
  have e : wrongR 114 n = bif decide (n < 0) then 8 else bif decide (n > 7) then 8 else 0 := rfl
  rw [e] at h
  by_cases h1 : n < 0
  · simp [h1] at h
  · by_cases h2 : n > 7
    · simp [h1, h2] at h
    · exact idxOK_of (by omega) (by omega)

abbrev reg (f : Fr) (b : Int) : Int := List.getD f.2.2.1 (Int.toNat b) 0
def doneR (f : Fr) (r : Option (Fr × Int)) : Option (Fr × Int) := r.bind fun y3 => bif y3.2 != 0 then some (f, y3.2) else (frame_Go.u y3.1 (IntKind.wrap .i64 (f.1 + 1))).bind fun y4 => some (y4.1, y4.2)
def setR (f : Fr) (a : Int) (v : Option (Int × Int)) : Option (Fr × Int) := v.bind fun y => bif y.2 != 0 then some (f, y.2) else (frame_Set.u f (IntKind.wrap .i64 a) y.1).bind fun z => some (z.1, z.2)

theorem set_shape {f : Fr} (h : FrOK f) {i x : Int} {v : Fr × Int} (hv : frame_Set.u f i x = some v) :
    (v.2 = 0 ∧ FrFine f = true ∧ 0 ≤ i ∧ i < 8 ∧ word_Fine.t x = true ∧ v.1 = (f.1, (f.2.1, ((List.set f.2.2.1 (Int.toNat i) x), f.2.2.2)))) ∨ (v.2 ≠ 0 ∧ v.1 = f) := by
  unfold frame_Set.u frame_Set.s at hv
  rw [frame_at_u h, Option.bind_some] at hv
  cases e : (atF f i 8 x == 0) with
  | true =>
    obtain ⟨q1, q2, q3, q4⟩ := atF_zero (beq_iff_eq.1 e)
    rw [e, cond_true, idxOK_of q2 q3, cond_true] at hv
    cases hv
    exact .inl ⟨beq_iff_eq.1 e, q1, q2, q3, q4, rfl⟩
  | false =>
    rw [e, cond_false] at hv
    cases hv
    exact .inr ⟨beq_eq_false_iff_ne.1 e, rfl⟩
theorem store_shape {f : Fr} (h : FrOK f) {i x : Int} {v : Fr × Int} (hv : frame_Store.u f i x = some v) :
    (v.2 = 0 ∧ FrFine f = true ∧ 0 ≤ i ∧ i < 16 ∧ word_Fine.t x = true ∧ v.1 = (f.1, (f.2.1, (f.2.2.1, ((List.set f.2.2.2.1 (Int.toNat i) x), f.2.2.2.2))))) ∨ (v.2 ≠ 0 ∧ v.1 = f) := by
  unfold frame_Store.u frame_Store.s at hv
  rw [frame_at_u h, Option.bind_some] at hv
  cases e : (atF f i 16 x == 0) with
  | true =>
    obtain ⟨q1, q2, q3, q4⟩ := atF_zero (beq_iff_eq.1 e)
    rw [e, cond_true, idxOK_of q2 q3, cond_true] at hv
    cases hv
    exact .inl ⟨beq_iff_eq.1 e, q1, q2, q3, q4, rfl⟩
  | false =>
    rw [e, cond_false] at hv
    cases hv
    exact .inr ⟨beq_eq_false_iff_ne.1 e, rfl⟩
theorem go_shape {f : Fr} (h : FrOK f) {i : Int} {v : Fr × Int} (hv : frame_Go.u f i = some v) :
    (v.2 = 0 ∧ FrFine f = true ∧ frame_place.t i = true ∧ v.1 = (i, f.2)) ∨ (v.2 ≠ 0 ∧ v.1 = f) := by
  unfold frame_Go.u frame_Go.s at hv
  rw [frame_fine h, Option.bind_some] at hv
  cases e : FrFine f with
  | false => rw [e] at hv; cases hv; exact .inr ⟨fun e => (by cases e), rfl⟩
  | true =>
    cases e2 : frame_place.t i with
    | false => rw [e, e2] at hv; cases hv; exact .inr ⟨fun e => (by cases e), rfl⟩
    | true => rw [e, e2] at hv; cases hv; exact .inl ⟨rfl, rfl, rfl, rfl⟩
theorem go_fine {f : Fr} (h : FrFine f = true) {i : Int} (hi : frame_place.t i = true) : FrFine (i, f.2) = true := by
  have hp := (FrFine_parts h).1
  unfold FrFine at h ⊢
  rw [hp] at h
  rw [hi]
  exact h

/-- What a step may change. -/
structure One (f g : Fr) : Prop where
  fine : FrFine g = true
  bad : g.2.1 = f.2.1
  sp : g.2.2.2.2.1 - f.2.2.2.2.1 ≤ 1 ∧ f.2.2.2.2.1 - g.2.2.2.2.1 ≤ 1
  cells : ((∃ i x, g.2.2.1 = f.2.2.1.set i x) ∧ g.2.2.2.1 = f.2.2.2.1) ∨ (g.2.2.1 = f.2.2.1 ∧ ∃ i x, g.2.2.2.1 = f.2.2.2.1.set i x)
/-- What a step comes to. -/
structure StepOK (f : Fr) (w : Fr × Int) : Prop where
  ok : FrOK w.1
  one : w.2 = 0 → One f w.1
theorem One.self {f : Fr} (h : FrFine f = true) : One f f := ⟨h, rfl, by omega, .inl ⟨⟨_, _, (set_getD_self (i := 0)).symm⟩, rfl⟩⟩
theorem go_ok {f g : Fr} (h : FrOK g) (hf : One f g) {i : Int} {v : Fr × Int} (hv : frame_Go.u g i = some v) : StepOK f v := by
  rcases go_shape h hv with ⟨q1, q2, q3, q4⟩ | ⟨q1, q2⟩
  · rw [show v = ((i, g.2), v.2) from by rw [← q4]]
    exact ⟨⟨h.r, h.m, h.s⟩, fun _ => ⟨go_fine q2 q3, hf.bad, hf.sp, hf.cells⟩⟩
  · exact ⟨by rw [q2]; exact h, fun e => absurd e q1⟩

theorem set_law {f : Fr} (h : FrOK f) (hf : FrFine f = true) (a : Int) (v : Int × Int) : ∃ w, doneR f (setR f a (some v)) = some w ∧ ref14_set.u f a v.1 v.2 = some w ∧ StepOK f w := by
  obtain ⟨x, y⟩ := v
  unfold doneR setR ref14_set.u ref14_set.s
  simp only [Option.bind_some]
  cases e : (y != 0) with
  | true =>
    simp only [cond_true, Option.bind_some, e]
    exact ⟨_, rfl, rfl, ⟨h, fun e2 => by simp only at e2; rw [e2] at e; cases e⟩⟩
  | false =>
    obtain ⟨u, u1, u2⟩ := frame_set h (IntKind.wrap .i64 a) x
    have hu := set_shape h u1
    simp only [cond_false, u1, u2, Option.bind_some]
    cases e2 : (u.2 != 0) with
    | true =>
      simp only [cond_true]
      exact ⟨_, rfl, rfl, ⟨h, fun e3 => by simp only at e3; rw [e3] at e2; cases e2⟩⟩
    | false =>
      simp only [cond_false]
      have e0 : u.2 = 0 := by simpa using e2
      rcases hu with ⟨q1, q2, q3, q4, q5, q6⟩ | ⟨q1, _⟩
      · have hg : FrOK u.1 := by rw [q6]; exact set_ok h _ _
        obtain ⟨w, w1, w2⟩ := frame_go hg (IntKind.wrap .i64 (f.1 + 1))
        rw [w1, w2]
        refine ⟨_, rfl, rfl, go_ok hg ?_ w1⟩
        rw [q6]
        exact ⟨set_fine hf _ q5, rfl, by simp only; omega, .inl ⟨⟨_, _, rfl⟩, rfl⟩⟩
      · exact absurd e0 q1
theorem next_law {f : Fr} (h : FrOK f) (hf : FrFine f = true) (i : Int) : ∃ w, frame_Go.u f i = some w ∧ ref13_Go.u f i = some w ∧ StepOK f w := by
  obtain ⟨w, w1, w2⟩ := frame_go h i
  exact ⟨w, w1, w2, go_ok h (One.self hf) w1⟩
theorem store_law {f : Fr} (h : FrOK f) (hf : FrFine f = true) (i x : Int) : ∃ w, doneR f (frame_Store.u f i x) = some w ∧ ((ref13_Store.u f i x).bind fun y13 => bif (y13.2 != 0) then some (f, y13.2) else (ref13_Go.u y13.1 ((IntKind.wrap .i64 (f.1 + 1)))).bind fun y14 => some (y14.1, y14.2)) = some w ∧ StepOK f w := by
  obtain ⟨u, u1, u2⟩ := frame_store h i x
  have hu := store_shape h u1
  unfold doneR
  rw [u1, u2]
  simp only [Option.bind_some]
  cases e2 : (u.2 != 0) with
  | true =>
    simp only [cond_true]
    exact ⟨_, rfl, rfl, ⟨h, fun e3 => by simp only at e3; rw [e3] at e2; cases e2⟩⟩
  | false =>
    simp only [cond_false]
    have e0 : u.2 = 0 := by simpa using e2
    rcases hu with ⟨q1, q2, q3, q4, q5, q6⟩ | ⟨q1, _⟩
    · have hg : FrOK u.1 := by rw [q6]; exact store_ok h _ _
      obtain ⟨w, w1, w2⟩ := frame_go hg (IntKind.wrap .i64 (f.1 + 1))
      rw [w1, w2]
      refine ⟨_, rfl, rfl, go_ok hg ?_ w1⟩
      rw [q6]
      exact ⟨store_fine hf _ q5, rfl, by simp only; omega, .inr ⟨rfl, ⟨_, _, rfl⟩⟩⟩
    · exact absurd e0 q1
theorem jump_law {f : Fr} (h : FrOK f) (hf : FrFine f = true) (c : Bool) (p : Int) : ∃ w, (bif !c then (frame_Go.u f (IntKind.wrap .i64 (f.1 + 1))).bind fun y => some (y.1, y.2) else (frame_Go.u f p).bind fun y => some (y.1, y.2)) = some w ∧ ref14_jump.u f c p = some w ∧ StepOK f w := by
  unfold ref14_jump.u ref14_jump.s
  cases c with
  | true =>
    obtain ⟨w, w1, w2, w3⟩ := next_law h hf p
    exact ⟨w, by rw [w1]; rfl, by rw [w2]; rfl, w3⟩
  | false =>
    obtain ⟨w, w1, w2, w3⟩ := next_law h hf (IntKind.wrap .i64 (f.1 + 1))
    exact ⟨w, by rw [w1]; rfl, by rw [w2]; rfl, w3⟩
theorem call_step {f : Fr} (h : FrOK f) (hf : FrFine f = true) (p : Int) : ∃ w, frame_Call.u f p = some w ∧ ref13_Call.u f p = some w ∧ StepOK f w := by
  obtain ⟨w, w1, w2⟩ := frame_call h p
  refine ⟨w, w1, w2, ?_⟩
  obtain ⟨p1, p2, p3⟩ := FrFine_parts hf
  have p1' := place_range.1 p1
  have hw : IntKind.wrap .i64 (f.1 + 1) = f.1 + 1 := wrapN ⟨by omega, by omega⟩
  by_cases h8 : f.2.2.2.2.1 = 8
  · unfold frame_Call.u frame_Call.s at w1
    rw [frame_fine h, Option.bind_some, hf, Bool.not_true, cond_false, beq_iff_eq.2 h8, cond_true] at w1
    cases w1
    exact ⟨h, fun e => by cases e⟩
  · cases hp : frame_place.t p with
    | false =>
      unfold frame_Call.u frame_Call.s at w1
      rw [frame_fine h, Option.bind_some, hf, Bool.not_true, cond_false, beq_eq_false_iff_ne.2 h8, cond_false, hp, Bool.not_false, cond_true] at w1
      cases w1
      exact ⟨h, fun e => by cases e⟩
    | true =>
      by_cases h64 : f.1 = 64
      · unfold frame_Call.u frame_Call.s at w1
        rw [frame_fine h, Option.bind_some, hf, Bool.not_true, cond_false, beq_eq_false_iff_ne.2 h8, cond_false, hp, Bool.not_true, cond_false, hw, show frame_place.t (f.1 + 1) = false by rw [h64]; decide, Bool.not_false, cond_true] at w1
        cases w1
        exact ⟨h, fun e => by cases e⟩
      · rw [call_u h hf hp h8 h64] at w1
        cases w1
        exact ⟨call_ok h p, fun _ => ⟨call_fine h hf hp h8 h64, rfl, by simp only [callF]; omega, .inl ⟨⟨_, _, (set_getD_self (i := 0)).symm⟩, rfl⟩⟩⟩
end Go.Proofs.YtjhkagfolmhacaaGreatDoor.K

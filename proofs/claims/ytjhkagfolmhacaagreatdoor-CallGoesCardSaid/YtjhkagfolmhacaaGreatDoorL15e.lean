/- What a process has behind an answer: the law. -/
import Derived.Test.YtjhkagfolmhacaaGreatDoorL15d
set_option maxRecDepth 100000
set_option linter.unusedVariables false
set_option linter.unusedSimpArgs false
namespace Go.Proofs.YtjhkagfolmhacaaGreatDoor.K
open Go

def ansB (f : Fr) (n : Int) (y2 : Int) : Option (Fr × Int) :=
  bif (y2 != (-1)) then
    (frame_Set.u f y2 n).bind fun y3 =>
    bif (y3.2 != 0) then some (f, y3.2)
    else (frame_Go.u ((y3.1.1, (false, y3.1.2.2))) ((IntKind.wrap .i64 (f.1 + 1)))).bind fun y4 => some (y4.1, y4.2)
  else (frame_Go.u ((f.1, (false, f.2.2))) ((IntKind.wrap .i64 (f.1 + 1)))).bind fun y5 => some (y5.1, y5.2)
def refAnsB (f : Fr) (n : Int) (r : Int) : Option (Fr × Int) :=
  bif (decide (r ≥ 0)) then
    bif (!(ref08_Fine.t n)) then some (f, 8)
    else
      bif (idxOK r 8) then some (((IntKind.wrap .i64 (f.1 + 1)), (false, ((List.set f.2.2.1 (Int.toNat r) n), f.2.2.2))), 0) else none
  else some (((IntKind.wrap .i64 (f.1 + 1)), (false, f.2.2)), 0)
theorem gets_27 (a b c : Int) : call_gets.u (27, (a, (b, (c, ())))) = bif idxOK a 8 then some (-1) else none := by kernel_rfl
theorem gets_28 (a b c : Int) : call_gets.u (28, (a, (b, (c, ())))) = some (IntKind.wrap .i64 a) := by kernel_rfl
theorem gets_29 (a b c : Int) : call_gets.u (29, (a, (b, (c, ())))) = some (IntKind.wrap .i64 a) := by kernel_rfl
theorem gets_30 (a b c : Int) : call_gets.u (30, (a, (b, (c, ())))) = bif idxOK c 8 then some (IntKind.wrap .i64 a) else none := by kernel_rfl
theorem gets_35 (a b c : Int) : call_gets.u (35, (a, (b, (c, ())))) = bif idxOK b 8 then some (-1) else none := by kernel_rfl
theorem gets_36 (a b c : Int) : call_gets.u (36, (a, (b, (c, ())))) = some (-1) := by kernel_rfl
theorem gets_37 (a b c : Int) : call_gets.u (37, (a, (b, (c, ())))) = some (-1) := by kernel_rfl
theorem gets_39 (a b c : Int) : call_gets.u (39, (a, (b, (c, ())))) = some (-1) := by kernel_rfl
theorem gets_40 (a b c : Int) : call_gets.u (40, (a, (b, (c, ())))) = some (IntKind.wrap .i64 a) := by kernel_rfl
theorem gets_46 (a b c : Int) : call_gets.u (46, (a, (b, (c, ())))) = some (IntKind.wrap .i64 a) := by kernel_rfl
theorem gets_47 (a b c : Int) : call_gets.u (47, (a, (b, (c, ())))) = some (IntKind.wrap .i64 a) := by kernel_rfl
theorem bad_ok {f : Fr} (h : FrOK f) : FrOK (f.1, (false, f.2.2)) := ⟨h.r, h.m, h.s⟩
theorem bad_fine {f : Fr} (h : FrFine f = true) : FrFine (f.1, (false, f.2.2)) = true := h
theorem ans_eq {f : Fr} (hF : FrOK f) (hf : FrFine f = true) (hp : frame_place.t (f.1 + 1) = true) (n : Int) {r : Int} (hr : r = -1 ∨ idxOK r 8 = true) : ∃ v, ansB f n r = some v ∧ refAnsB f n r = some v := by
  have hw : IntKind.wrap .i64 (f.1 + 1) = f.1 + 1 := wrapN (by have := place_range.1 hp; exact ⟨by omega, by omega⟩)
  unfold ansB refAnsB
  rw [hw]
  rcases hr with rfl | hr
  · rw [show ((-1 : Int) != -1) = false from rfl, show decide ((-1 : Int) ≥ 0) = false from rfl]
    simp only [cond_false]
    rw [go_u (bad_ok hF) (bad_fine hf) hp]
    exact ⟨_, rfl, rfl⟩
  · obtain ⟨h0, h1⟩ := idxOK_iff.1 hr
    rw [bne_iff_ne.2 (show r ≠ -1 by omega), decide_eq_true (show r ≥ 0 by omega), hr]
    simp only [cond_true]
    cases hx : word_Fine.t n with
    | true =>
      rw [set_u hF hf h0 (by omega) hx, show ref08_Fine.t n = true from hx]
      simp only [Option.bind_some, bne_self_eq_false, cond_false, Bool.not_true]
      rw [go_u (f := (f.1, (false, ((List.set f.2.2.1 r.toNat n), f.2.2.2)))) (bad_ok (set_ok hF r.toNat n)) (bad_fine (set_fine hf r.toNat hx)) hp]
      exact ⟨_, rfl, rfl⟩
    | false =>
      obtain ⟨v, v1, _⟩ := frame_set hF r n
      rw [show ref08_Fine.t n = false from hx]
      have hat : atF f r 8 n = 8 := by
        rcases atF_cases f r 8 n with e | e | e
        · have := (atF_zero e).2.2.2; rw [hx] at this; cases this
        · exfalso
          unfold atF at e
          rw [hf] at e
          simp only [Bool.not_true, cond_false] at e
          cases hh : (decide (r < 0) || decide (r ≥ 8) || !word_Fine.t n) <;> rw [hh] at e <;> cases e
        · exact e
      unfold frame_Set.u frame_Set.s
      rw [frame_at_u hF, Option.bind_some, hat]
      exact ⟨_, rfl, rfl⟩
theorem answer_b {l : List In} {f : Fr} {n : Int} {x : In} {r : Int} {w : AskT × Int} (v1 : call_asking.u l f = some (x, 0)) (v2 : ref15_at.u l f = some (x, 0)) (hw : call_waits.t x = false) (hq : ∃ y, ref09_Of.u (IntKind.wrap .i64 x.1) = some y ∧ ref15_Waits.t y.1 = false) (hg : call_gets.u x = some r) (ho : ref15_Of.u l f 0 = some w) (hr : w.1.2.1 = r) : call_Answer.u l f n = ansB f n r ∧ ref15_Answer.u l f n = refAnsB f n r := by
  obtain ⟨y, q1, q2⟩ := hq
  subst hr
  constructor
  · unfold call_Answer.u call_Answer.s
    rw [v1]
    simp only [Option.bind_some, bne_self_eq_false, cond_false, hw, hg]
    rfl
  · unfold ref15_Answer.u ref15_Answer.s
    rw [v2]
    simp only [Option.bind_some, bne_self_eq_false, cond_false, q1, q2, ho]
    rfl
theorem fine0now : ref05_Fine.t 0 = true := rfl
theorem answer_law {l : List In} (h : PrOK l) {f : Fr} (hF : FrOK f) (n : Int) : ∃ v : Fr × Int, call_Answer.u l f n = some v ∧ ref15_Answer.u l f n = some v := by
  obtain ⟨v, v1, v2, v3⟩ := asking h hF
  by_cases hz : v.2 = 0
  · obtain ⟨x, e⟩ := v
    simp only at hz
    subst hz
    have hA : Asked l f x := v3 rfl
    have hc : chk x = 0 := by rw [← hA.here]; exact ok_chk h hA.ok hA.hi
    have hi : InOK x := by rw [← hA.here]; exact h.at _
    have hop := asks_ops (chk_parts hc).1 hA.asks
    obtain ⟨hl, _⟩ := ok_wr h hA.ok hA.hi
    have hp : frame_place.t (f.1 + 1) = true := place_range.2 (by have := hA.lo; have := hA.hi; omega)
    obtain ⟨ra, rb, rc⟩ := reg_at hc
    obtain ⟨o, a, b, c, u⟩ := x
    simp only at hop ra rb rc
    have wa : IntKind.wrap .i64 a = a := wrapN ⟨by have := hi.a; simp only at this; omega, by have := hi.a; simp only at this; omega⟩
    have fin : ∀ (r : Int), call_waits.t (o, (a, (b, (c, u)))) = false → (∃ y, ref09_Of.u (IntKind.wrap .i64 o) = some y ∧ ref15_Waits.t y.1 = false) → call_gets.u (o, (a, (b, (c, u)))) = some r → (∃ w, ref15_Of.u l f 0 = some w ∧ w.1.2.1 = r) → (r = -1 ∨ idxOK r 8 = true) → ∃ v : Fr × Int, call_Answer.u l f n = some v ∧ ref15_Answer.u l f n = some v := by
      rintro r q1 q2 q3 ⟨w, q4, q5⟩ q6
      obtain ⟨e1, e2⟩ := answer_b (n := n) v1 v2 q1 q2 q3 q4 q5
      rw [e1, e2]
      exact ans_eq hF hA.fine hp n q6
    have wait : call_waits.t (o, (a, (b, (c, u)))) = true → (∃ y, ref09_Of.u (IntKind.wrap .i64 o) = some y ∧ ref15_Waits.t y.1 = true) → ∃ v : Fr × Int, call_Answer.u l f n = some v ∧ ref15_Answer.u l f n = some v := by
      rintro q1 ⟨y, q2, q3⟩
      unfold call_Answer.u call_Answer.s ref15_Answer.u ref15_Answer.s
      rw [v1, v2]
      simp only [Option.bind_some, bne_self_eq_false, cond_false, q1, q2, q3, cond_true]
      exact ⟨_, rfl, rfl⟩
    rcases hop with rfl | rfl | rfl | rfl | rfl | rfl | rfl | rfl | rfl | rfl | rfl | rfl | rfl | rfl | rfl | rfl | rfl
    · exact fin (-1) rfl ⟨lineOf 27, by kernel_rfl, by kernel_rfl⟩ (by rw [gets_27, ra rfl]; rfl) (by have e := refof_u fine0now v2; rw [ref_27, ra rfl] at e; exact ⟨_, e, rfl⟩) (.inl rfl)
    · exact fin (IntKind.wrap .i64 a) rfl ⟨lineOf 28, by kernel_rfl, by kernel_rfl⟩ (gets_28 a b c) (by have e := refof_u fine0now v2; rw [ref_28] at e; exact ⟨_, e, rfl⟩) (.inr (by rw [wa]; exact ra rfl))
    · exact fin (IntKind.wrap .i64 a) rfl ⟨lineOf 29, by kernel_rfl, by kernel_rfl⟩ (gets_29 a b c) (by have e := refof_u fine0now v2; rw [ref_29] at e; exact ⟨_, e, rfl⟩) (.inr (by rw [wa]; exact ra rfl))
    · exact fin (IntKind.wrap .i64 a) rfl ⟨lineOf 30, by kernel_rfl, by kernel_rfl⟩ (by rw [gets_30, rc rfl]; rfl) (by have e := refof_u fine0now v2; rw [ref_30, rc rfl] at e; exact ⟨_, e, rfl⟩) (.inr (by rw [wa]; exact ra rfl))
    · exact wait rfl ⟨lineOf 31, by kernel_rfl, by kernel_rfl⟩
    · exact wait rfl ⟨lineOf 32, by kernel_rfl, by kernel_rfl⟩
    · exact wait rfl ⟨lineOf 33, by kernel_rfl, by kernel_rfl⟩
    · exact wait rfl ⟨lineOf 34, by kernel_rfl, by kernel_rfl⟩
    · exact fin (-1) rfl ⟨lineOf 35, by kernel_rfl, by kernel_rfl⟩ (by rw [gets_35, rb rfl]; rfl) (by have e := refof_u fine0now v2; rw [ref_35, rb rfl] at e; exact ⟨_, e, rfl⟩) (.inl rfl)
    · exact fin (-1) rfl ⟨lineOf 36, by kernel_rfl, by kernel_rfl⟩ (gets_36 a b c) (by have e := refof_u fine0now v2; rw [ref_36] at e; exact ⟨_, e, rfl⟩) (.inl rfl)
    · exact fin (-1) rfl ⟨lineOf 37, by kernel_rfl, by kernel_rfl⟩ (gets_37 a b c) (by have e := refof_u fine0now v2; rw [ref_37] at e; exact ⟨_, e, rfl⟩) (.inl rfl)
    · exact wait rfl ⟨lineOf 38, by kernel_rfl, by kernel_rfl⟩
    · exact fin (-1) rfl ⟨lineOf 39, by kernel_rfl, by kernel_rfl⟩ (gets_39 a b c) (by have e := refof_u fine0now v2; rw [ref_39] at e; exact ⟨_, e, rfl⟩) (.inl rfl)
    · exact fin (IntKind.wrap .i64 a) rfl ⟨lineOf 40, by kernel_rfl, by kernel_rfl⟩ (gets_40 a b c) (by have e := refof_u fine0now v2; rw [ref_40] at e; exact ⟨_, e, rfl⟩) (.inr (by rw [wa]; exact ra rfl))
    · exact wait rfl ⟨lineOf 41, by kernel_rfl, by kernel_rfl⟩
    · exact fin (IntKind.wrap .i64 a) rfl ⟨lineOf 46, by kernel_rfl, by kernel_rfl⟩ (gets_46 a b c) (by have e := refof_u fine0now v2; rw [ref_46] at e; exact ⟨_, e, rfl⟩) (.inr (by rw [wa]; exact ra rfl))
    · exact fin (IntKind.wrap .i64 a) rfl ⟨lineOf 47, by kernel_rfl, by kernel_rfl⟩ (gets_47 a b c) (by have e := refof_u fine0now v2; rw [ref_47] at e; exact ⟨_, e, rfl⟩) (.inr (by rw [wa]; exact ra rfl))
  · have hb := bne_iff_ne.2 hz
    unfold call_Answer.u call_Answer.s ref15_Answer.u ref15_Answer.s
    rw [v1, v2]
    simp only [Option.bind_some, hb, cond_true]
    exact ⟨_, rfl, rfl⟩
theorem law_answers {l : List In} (h : PrOK l) {f : Fr} (hF : FrOK f) (n : Int) : law15_CallAnswers.u l f n = some true := by
  unfold law15_CallAnswers.u law15_CallAnswers.s
  rw [alive15]
  obtain ⟨v, v1, v2⟩ := answer_law h hF n
  cases decide (((List.length l : Nat) : Int) > 70) with
  | true => rfl
  | false =>
    simp only [cond_false, v1, v2, Option.bind_some]
    rw [show eqI tyFr v.1 v.1 = true from eqFr v.1]
    simp only [cond_true, beq_self_eq_true]
theorem row_CallAnswers (xs : Args [.slice tyIn, tyFr, .int .i64]) (h : fitsA _ xs) : law15_CallAnswers.u xs.1 xs.2.1 xs.2.2.1 = some true := law_answers (prOK15 h.1) (frOK_of h.2.1) _
end Go.Proofs.YtjhkagfolmhacaaGreatDoor.K

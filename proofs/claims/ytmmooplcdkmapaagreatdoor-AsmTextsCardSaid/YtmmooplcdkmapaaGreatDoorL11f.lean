/- Assembly, plainly: a line is read, both ways: the same. -/
import Derived.Test.YtmmooplcdkmapaaGreatDoorL11e
set_option maxRecDepth 100000
set_option linter.unusedVariables false
set_option linter.unusedSimpArgs false
namespace Go.Proofs.YtmmooplcdkmapaaGreatDoor.K
open Go

def oneR (c : Int) (i : Nat) (w : ByteArray) (r : List ByteArray) (v : List Int) : Int × List ByteArray × List Int :=
  bif c == 105 then
    (bif (parseW w.data.toList).2 != 0 then ((parseW w.data.toList).2, [], []) else bif decide ((parseW w.data.toList).1 < -32768) then (8, [], []) else bif decide ((parseW w.data.toList).1 > 32767) then (8, [], []) else
      (0, r, (v.set i (hiW (parseW w.data.toList).1)).set (i + 1) (loW (parseW w.data.toList).1)))
  else bif (rvalW c w.data.toList).2 != 0 then ((rvalW c w.data.toList).2, [], []) else bif decide ((rvalW c w.data.toList).1 < (ref11_ends.t c).1) then (8, [], []) else bif decide ((rvalW c w.data.toList).1 > (ref11_ends.t c).2) then (8, [], []) else (0, r, v.set i (rvalW c w.data.toList).1)
def stepR (c : Int) (i : Nat) (v : List Int) (rem : List ByteArray) : Int × List ByteArray × List Int :=
  bif c == 45 then (0, rem, v) else bif c == 106 then (0, rem, v) else match rem with
  | [] => bif c == 103 then (0, [], v.set i 8) else (4, [], [])
  | w :: r => bif c == 103 then (bif !(w.data.toList == [105, 102]) then (3, [], []) else match r with
      | [] => (4, [], [])
      | w2 :: r2 => oneR c i w2 r2 v) else oneR c i w r v

theorem val_cases {c : Int} (hc : c = 114 ∨ c = 116 ∨ c = 99 ∨ c = 98 ∨ c = 112 ∨ c = 107 ∨ c = 109 ∨ c = 110 ∨ c = 103 ∨ c = 115) (l : List UInt8) :
    ((valW c l).2 = 3 ∧ (rvalW c l).2 = 3) ∨ ((valW c l).2 = 8 ∧ (rvalW c l).2 = 0 ∧ 255 < (rvalW c l).1) ∨ ((valW c l).2 = 0 ∧ (rvalW c l).2 = 0 ∧ (valW c l).1 = (rvalW c l).1 ∧ 0 ≤ (rvalW c l).1 ∧ (rvalW c l).1 ≤ 255) := by
  have key : ∀ m : List UInt8, ((plainW m l).2 = 3 ∧ (markW m l).2 = 3) ∨ ((plainW m l).2 = 8 ∧ (markW m l).2 = 0 ∧ 255 < (markW m l).1) ∨ ((plainW m l).2 = 0 ∧ (markW m l).2 = 0 ∧ (plainW m l).1 = (markW m l).1 ∧ 0 ≤ (markW m l).1 ∧ (markW m l).1 ≤ 255) := by
    intro m
    unfold plainW markW
    cases m.isPrefixOf l with
    | false => exact .inl ⟨rfl, rfl⟩
    | true =>
      cases plainF (l.drop m.length) with
      | false => exact .inl ⟨rfl, rfl⟩
      | true =>
        simp only [cond_true]
        by_cases h : valN 0 (l.drop m.length) ≤ 255
        · refine .inr (.inr ⟨by rw [if_pos h], trivial, ?_, ?_, ?_⟩)
          · rw [if_pos h]; unfold held; rw [if_neg (by omega)]
          · unfold held; split <;> omega
          · unfold held; split <;> omega
        · refine .inr (.inl ⟨by rw [if_neg h], trivial, ?_⟩)
          unfold held; split <;> omega
  unfold valW rvalW
  cases c == 109 with
  | false => exact key _
  | true =>
    simp only [cond_true]
    unfold wayW
    cases ([112, 114, 105] == l) <;> cases ([102, 97, 105, 114] == l) <;> cases ([97, 110, 121] == l) <;> simp
theorem ends_same {c : Int} (hc : c = 114 ∨ c = 116 ∨ c = 99 ∨ c = 98 ∨ c = 112 ∨ c = 107 ∨ c = 109 ∨ c = 110 ∨ c = 115) : ref11_ends.t c = ref10_ends.t c ∧ (ref11_ends.t c).2 ≤ 255 ∧ (c == 45) = false ∧ (c == 106) = false ∧ (c == 103) = false ∧ (c == 105) = false := by
  rcases hc with rfl | rfl | rfl | rfl | rfl | rfl | rfl | rfl | rfl <;> exact ⟨rfl, by decide, rfl, rfl, rfl, rfl⟩
theorem set_get {v : List Int} {i : Nat} (hv : v.length = 3) (hi : i < 3) (n : Int) : (v.set i n).getD i 0 = n := by
  rw [List.getD_eq_getElem?_getD, List.getElem?_set_self (by omega)]; rfl
theorem wr_ends {c n : Int} (h45 : (c == 45) = false) : wrongR c n = bif decide (n < (ref10_ends.t c).1) then 8 else bif decide (n > (ref10_ends.t c).2) then 8 else 0 := by
  unfold wrongR; rw [h45]; rfl
/-- A word's outcome, at a letter that has but a word. -/
theorem one_same {c : Int} (hc : c = 114 ∨ c = 116 ∨ c = 99 ∨ c = 98 ∨ c = 112 ∨ c = 107 ∨ c = 109 ∨ c = 110 ∨ c = 115) {i : Nat} (hi : i < 3) {v : List Int} (hv : v.length = 3) (rem : List ByteArray) : stepA c i v rem = stepR c i v rem := by
  obtain ⟨e1, e2, e3, e4, e5, e6⟩ := ends_same hc
  unfold stepA stepR
  rw [e3, e4, cond_false, cond_false, cond_false, cond_false]
  cases rem with
  | nil => unfold oneF; rw [e5]; rfl
  | cons w r =>
    unfold oneF doneF
    simp only [e5, cond_false, Bool.false_and]
    unfold oneV oneR
    simp only [e6, cond_false]
    rcases val_cases (c := c) (by rcases hc with h | h | h | h | h | h | h | h | h <;> simp [h]) w.data.toList with ⟨h1, h2⟩ | ⟨h1, h2, h3⟩ | ⟨h1, h2, h3, h4, h5⟩
    · rw [h1, h2]; rfl
    · rw [h1, h2, decide_eq_true (show (rvalW c w.data.toList).1 > (ref11_ends.t c).2 by omega)]
      show (8, [], []) = bif decide _ then (8, [], []) else (8, [], [])
      cases decide ((rvalW c w.data.toList).1 < (ref11_ends.t c).1) <;> rfl
    · rw [h1, h2, h3, set_get hv hi, wr_ends e3, ← e1]
      cases decide ((rvalW c w.data.toList).1 < (ref11_ends.t c).1) <;> cases decide ((rvalW c w.data.toList).1 > (ref11_ends.t c).2) <;> rfl
theorem gin_same {i : Nat} (hi : i < 3) {v : List Int} (hv : v.length = 3) (rem : List ByteArray) : stepA 103 i v rem = stepR 103 i v rem := by
  unfold stepA stepR
  simp only [Int.reduceBEq, cond_false]
  cases rem with
  | nil =>
    unfold oneF doneF
    simp only [Int.reduceBEq, cond_true, set_get hv hi]
    rfl
  | cons w r =>
    unfold oneF
    simp only [Int.reduceBEq, cond_true]
    rcases Bool.eq_false_or_eq_true (w.data.toList == [105, 102]) with hw | hw
    rotate_left
    · simp only [hw]; rfl
    · cases r with
      | nil => simp only [hw]; rfl
      | cons w2 r2 =>
        simp only [hw, Bool.not_true, cond_false]
        unfold oneV oneR
        simp only [Int.reduceBEq, cond_false, List.isEmpty_cons, Bool.not_false, Bool.true_and]
        have en : ref11_ends.t 103 = (0, 7) := rfl
        rw [en]
        rcases val_cases (c := 103) (by simp) w2.data.toList with ⟨h1, h2⟩ | ⟨h1, h2, h3⟩ | ⟨h1, h2, h3, h4, h5⟩
        · rw [h1, h2]; rfl
        · rw [h1, h2, decide_eq_true (show (rvalW 103 w2.data.toList).1 > 7 by omega), decide_eq_false (show ¬ (rvalW 103 w2.data.toList).1 < 0 by omega)]; rfl
        · have hl0 : ((rvalW 103 w2.data.toList).1 < 0) = False := eq_false (by omega)
          by_cases h8 : (rvalW 103 w2.data.toList).1 ≥ 8
          · have hg : ((rvalW 103 w2.data.toList).1 > 7) = True := eq_true (by omega)
            have h8' := eq_true h8
            simp only [h1, h2, h3, set_get hv hi, hl0, hg, h8', decide_true, decide_false, cond_true, cond_false, show ((0 : Int) != 0) = false from rfl]
          · have hg : ((rvalW 103 w2.data.toList).1 > 7) = False := eq_false (by omega)
            have h8' := eq_false h8
            have d0 : doneF 103 r2 (rvalW 103 w2.data.toList).1 = 0 := by
              unfold doneF
              rw [beq_eq_false_iff_ne.2 (show (rvalW 103 w2.data.toList).1 ≠ 8 by omega), Bool.and_false, Bool.and_false, cond_false]
              exact (wr_lo rfl).2 ⟨h4, by show _ ≤ (8 : Int); omega⟩
            simp only [h1, h2, h3, set_get hv hi, hl0, hg, h8', d0, decide_true, decide_false, cond_true, cond_false, show ((0 : Int) != 0) = false from rfl]
theorem hiW_in {n : Int} (h : -32768 ≤ n ∧ n ≤ 32767) : 0 ≤ hiW n ∧ hiW n ≤ 255 := by unfold hiW; split <;> omega
theorem loW_in (n : Int) : 0 ≤ loW n ∧ loW n ≤ 255 := by unfold loW; split <;> omega
theorem pair_same {i : Nat} (hi : i < 2) {v : List Int} (hv : v.length = 3) (rem : List ByteArray) : stepA 105 i v rem = stepR 105 i v rem := by
  unfold stepA stepR
  simp only [Int.reduceBEq, cond_false]
  cases rem with
  | nil => unfold oneF; rfl
  | cons w r =>
    unfold oneF oneV oneR doneF
    simp only [Int.reduceBEq, cond_true, cond_false, Bool.false_and]
    cases h : ((parseW w.data.toList).2 != 0) with
    | true => simp only [cond_true, h]
    | false =>
      simp only [cond_false]
      by_cases h1 : (parseW w.data.toList).1 < -32768
      · rw [decide_eq_true h1]; rfl
      · by_cases h3 : (parseW w.data.toList).1 > 32767
        · rw [decide_eq_false h1, decide_eq_true h3]; rfl
        · rw [decide_eq_false h1, decide_eq_false h3]
          have hg : ((v.set i (hiW (parseW w.data.toList).1)).set (i + 1) (loW (parseW w.data.toList).1)).getD i 0 = hiW (parseW w.data.toList).1 := by
            rw [List.getD_eq_getElem?_getD, List.getElem?_set_ne (by omega), List.getElem?_set_self (by omega)]; rfl
          have hh := hiW_in (n := (parseW w.data.toList).1) ⟨by omega, by omega⟩
          simp only [cond_false, hg]
          rw [(wr_lo (c := 105) rfl).2 ⟨hh.1, hh.2⟩]; rfl
theorem step_same {c : Int} (hc : c = 45 ∨ c = 114 ∨ c = 116 ∨ c = 99 ∨ c = 98 ∨ c = 112 ∨ c = 107 ∨ c = 109 ∨ c = 110 ∨ c = 103 ∨ c = 115 ∨ c = 105 ∨ c = 106) {i : Nat} (hi : i < 3) (h5 : c = 105 → i < 2) {v : List Int} (hv : v.length = 3) (rem : List ByteArray) : stepA c i v rem = stepR c i v rem := by
  rcases hc with rfl | h | h | h | h | h | h | h | h | rfl | h | rfl | rfl
  · rfl
  case inr.inr.inr.inr.inr.inr.inr.inr.inr.inl => exact gin_same hi hv rem
  case inr.inr.inr.inr.inr.inr.inr.inr.inr.inr.inr.inl => exact pair_same (h5 rfl) hv rem
  case inr.inr.inr.inr.inr.inr.inr.inr.inr.inr.inr.inr => rfl
  all_goals exact one_same (by simp [h]) hi hv rem
end Go.Proofs.YtmmooplcdkmapaaGreatDoor.K

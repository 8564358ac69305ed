/- Events, plainly: a text that is read. -/
import Derived.Test.YtmmooplcdkmapaaGreatDoorL01c
import Derived.Test.YtmmooplcdkmapaaGreatDoorL08b
import Derived.KernelRfl
set_option maxRecDepth 100000
set_option linter.unusedVariables false
set_option linter.unusedSimpArgs false
namespace Go.Proofs.YtmmooplcdkmapaaGreatDoor.K
open Go

theorem bytesI_list (s : ByteArray) : bytesI s = s.data.toList.map fun b => (b.toNat : Int) := rfl
theorem whole_go (s : ByteArray) (e : List Int) : ∀ l : List UInt8, word_whole.g0 s e some (l.map fun b => (b.toNat : Int)) = bif l.all digB then word_whole.g0 s e some [] else some false
  | [] => rfl
  | b :: l => by
    have hlt := b.toNat_lt
    rw [List.map_cons]
    simp only [word_whole.g0, List.all_cons]
    by_cases h1 : (b.toNat : Int) < 48
    · have : digB b = false := by unfold digB; rw [decide_eq_false (show ¬ 48 ≤ b.toNat by omega)]; rfl
      rw [decide_eq_true h1, this]; rfl
    · by_cases h2 : (b.toNat : Int) > 57
      · have : digB b = false := by unfold digB; rw [decide_eq_false (show ¬ b.toNat ≤ 57 by omega), Bool.and_false]
        rw [decide_eq_false h1, decide_eq_true h2, this]; rfl
      · have hd : digB b = true := by unfold digB; rw [decide_eq_true (show 48 ≤ b.toNat by omega), decide_eq_true (show b.toNat ≤ 57 by omega)]; rfl
        rw [decide_eq_false h1, decide_eq_false h2, hd]
        exact whole_go s e l
theorem whole_u {s : ByteArray} (hs : s.size ≤ 1000000) : word_whole.u s = some (plainF s.data.toList) := by
  unfold word_whole.u word_whole.w
  have hl : (bytesI s).length = s.size := bytesI_len s
  rw [dec_len (show (bytesI s).length ≤ 1000000 by omega) (by decide), cond_true]
  rw [show word_whole.g0 s (bytesI s) some (bytesI s) = word_whole.g0 s (bytesI s) some (s.data.toList.map fun b => (b.toNat : Int)) from rfl, whole_go]
  unfold plainF
  cases ha : s.data.toList.all digB with
  | false => rfl
  | true =>
    simp only [cond_true, word_whole.g0, bs_list, Bool.true_and]
    cases hl : s.data.toList with
    | nil => rfl
    | cons b r =>
      have hz : idxOK 0 s.size = true := idxOK_of (by omega) (by rw [size_list, hl]; simp)
      rw [hz, bAt0 hl, toNat48]
      have hne : ((b :: r) == ([] : List UInt8)) = false := rfl
      rw [hne]
      cases ((b :: r) == [48]) <;> rfl
theorem plain_all {l : List UInt8} (h : plainF l = true) : l.all digB = true := by
  unfold plainF at h
  rw [Bool.and_eq_true] at h
  exact h.1
theorem plain_ne {l : List UInt8} (h : plainF l = true) : l ≠ [] := by
  intro e; subst e; revert h; decide
theorem atoi_plain {s : ByteArray} (h : plainF s.data.toList = true) (hs : s.size ≤ 18) : strconv_Atoi.u s = some ((valN 0 s.data.toList : Int), .nilIface) := by
  unfold strconv_Atoi.u
  rw [decide_eq_true hs, cond_true]
  have ha := plain_all h
  have hn := plain_ne h
  generalize s.data.toList = l at *
  cases l with
  | nil => exact absurd rfl hn
  | cons b r =>
    have hb := ha
    rw [List.all_cons, Bool.and_eq_true] at hb
    have hb1 := hb.1
    simp only [digB, Bool.and_eq_true, decide_eq_true_eq] at hb1
    have n45 : (b == 45) = false := by rw [beq_eq_false_iff_ne]; intro e; subst e; revert hb1; decide
    have n43 : (b == 43) = false := by rw [beq_eq_false_iff_ne]; intro e; subst e; revert hb1; decide
    have hd : Lib.decNat (b :: r) = some (valN 0 (b :: r)) := by
      show Lib.decFrom 0 (b :: r) = _
      exact decFrom_val _ _ ha
    simp only [Lib.atoi, n45, n43, Bool.false_eq_true, if_false, hd, Option.map_some]
theorem pow10_le {k n : Nat} (h : k ≤ n) : 10 ^ k ≤ 10 ^ n := Nat.pow_le_pow_right (by decide) h
/-- More than ten digits: at least ten thousand millions. -/
theorem val_long {l : List UInt8} (h : plainF l = true) (hl : 10 < l.length) : 10000000000 ≤ valN 0 l := by
  cases l with
  | nil => simp at hl
  | cons b r =>
    have ha := plain_all h
    rw [List.all_cons, Bool.and_eq_true] at ha
    have hb := ha.1
    simp only [digB, Bool.and_eq_true, decide_eq_true_eq] at hb
    have h0 : b ≠ 48 := by
      intro e; subst e
      unfold plainF at h
      rw [Bool.and_eq_true] at h
      have h2 := h.2
      cases r with
      | nil => simp at hl
      | cons c r =>
        revert h2
        simp
    have h1 : 1 ≤ b.toNat - 48 := by
      have : b.toNat ≠ 48 := fun e => h0 (UInt8.toNat_inj.1 e)
      omega
    have := valN_lo r (0 * 10 + (b.toNat - 48))
    show 10000000000 ≤ valN (0 * 10 + (b.toNat - 48)) r
    refine Nat.le_trans ?_ this
    rw [List.length_cons] at hl
    have hp : 10 ^ 10 ≤ 10 ^ r.length := pow10_le (by omega)
    have : 1 * 10 ^ 10 ≤ (0 * 10 + (b.toNat - 48)) * 10 ^ r.length := Nat.mul_le_mul (by omega) hp
    exact Nat.le_trans (by decide) this
theorem val_short {l : List UInt8} (h : plainF l = true) (hl : l.length ≤ 10) : valN 0 l < 10000000000 := by
  have := valN_hi l 0 (plain_all h)
  have hp : 10 ^ l.length ≤ 10 ^ 10 := pow10_le hl
  omega

/-- A word of a text. -/
def wordOf (neg : Bool) (d : List UInt8) : Int × Int :=
  bif plainF d then bif neg && (d == [48]) then (0, 3) else
    bif word_Fine.t (if neg = true then -(valN 0 d : Int) else (valN 0 d : Int)) then (if neg = true then -(valN 0 d : Int) else (valN 0 d : Int), 0) else (0, 8)
  else (0, 3)
def parseW (l : List UInt8) : Int × Int := bif l.take 1 == [45] then wordOf true (l.drop 1) else wordOf false l
theorem fine_out {x : Int} (h : x < -2147483648 ∨ 2147483647 < x) : word_Fine.t x = false := by
  cases e : word_Fine.t x with
  | false => rfl
  | true => have := fine_iff.1 e; omega
theorem wparse_u {s : ByteArray} (hs : s.size ≤ 1000000) : word_Parse.u s = some (parseW s.data.toList) := by
  unfold word_Parse.u word_Parse.s
  rw [cut_u]
  unfold parseW
  have f1 : word_Fine.t 2147483649 = false := by decide
  have f2 : word_Fine.t (-2147483649) = false := by decide
  have key : ∀ (y : ByteArray) (neg : Bool), y.size ≤ 1000000 → ((word_whole.u y).bind fun y2 =>
      bif (!y2) then some ((0, 3) : Int × Int)
      else
        bif neg then
          bif ((y).data.toList == ((bs [48])).data.toList) then some (0, 3)
          else
            bif (decide (((y).size : Int) ≤ 10)) then
              (strconv_Atoi.u y).bind fun y3 =>
              bif neg then
                bif (!(word_Fine.t ((IntKind.wrap .i64 (0 - y3.1))))) then some (0, 8)
                else some ((IntKind.wrap .i64 (0 - y3.1)), 0)
              else
                bif (!(word_Fine.t y3.1)) then some (0, 8) else some (y3.1, 0)
            else
              bif neg then
                bif (!(word_Fine.t (-2147483649))) then some (0, 8) else some ((-2147483649), 0)
              else
                bif (!(word_Fine.t 2147483649)) then some (0, 8) else some (2147483649, 0)
        else
          bif (decide (((y).size : Int) ≤ 10)) then
            (strconv_Atoi.u y).bind fun y4 =>
            bif neg then
              bif (!(word_Fine.t ((IntKind.wrap .i64 (0 - y4.1))))) then some (0, 8)
              else some ((IntKind.wrap .i64 (0 - y4.1)), 0)
            else
              bif (!(word_Fine.t y4.1)) then some (0, 8) else some (y4.1, 0)
          else
            bif neg then
              bif (!(word_Fine.t (-2147483649))) then some (0, 8) else some ((-2147483649), 0)
            else
              bif (!(word_Fine.t 2147483649)) then some (0, 8) else some (2147483649, 0)) = some (wordOf neg y.data.toList) := by
    intro y neg hy
    rw [whole_u hy, Option.bind_some]
    unfold wordOf
    cases hp : plainF y.data.toList with
    | false => rfl
    | true =>
      simp only [Bool.not_true, cond_false, cond_true, bs_list, f1, f2, Bool.not_false]
      by_cases hl : y.size ≤ 10
      · have hv := val_short hp (by rw [← size_list]; exact hl)
        have ha := atoi_plain hp (by omega)
        have hd : decide ((y.size : Int) ≤ 10) = true := decide_eq_true (by omega)
        rw [hd, ha]
        simp only [cond_true, Option.bind_some]
        have hw : IntKind.wrap .i64 (0 - (valN 0 y.data.toList : Int)) = -(valN 0 y.data.toList : Int) := by rw [wrapN ⟨by omega, by omega⟩]; omega
        rw [hw]
        cases neg with
        | true =>
          simp only [cond_true, Bool.true_and, if_true]
          cases (y.data.toList == [48])
          · simp only [cond_false]
            cases word_Fine.t (-(valN 0 y.data.toList : Int)) <;> rfl
          · rfl
        | false =>
          simp only [cond_false, Bool.false_and, Bool.false_eq_true, if_false]
          cases word_Fine.t (valN 0 y.data.toList : Int) <;> rfl
      · have hv := val_long hp (by rw [← size_list]; omega)
        have hd : decide ((y.size : Int) ≤ 10) = false := decide_eq_false (by omega)
        rw [hd]
        simp only [cond_false]
        cases neg with
        | true =>
          simp only [cond_true, Bool.true_and, if_true]
          rw [fine_out (x := -(valN 0 y.data.toList : Int)) (by omega)]
          cases (y.data.toList == [48]) <;> rfl
        | false =>
          simp only [cond_false, Bool.false_and, Bool.false_eq_true, if_false]
          rw [fine_out (x := (valN 0 y.data.toList : Int)) (by omega)]
          rfl
  cases hc : (s.data.toList.take 1 == [45]) with
  | true =>
    have hz : (subS (some 1) none s).size ≤ 1000000 := Nat.le_trans (sub_size_from s 1) hs
    have := key (subS (some 1) none s) true hz
    rw [← sub1_list]
    exact this
  | false => exact key s false hs

/-- A number from 0 on, of a text. -/
def wholeF (l : List UInt8) : Int × Int := bif l.take 1 == [45] then (0, 3) else bif plainF l then (bif decide (valN 0 l ≤ 2147483647) then ((valN 0 l : Int), 0) else (0, 8)) else (0, 3)
theorem prefix_u (s : ByteArray) (c : UInt8) : internal_stringslite_HasPrefix.u s (bs [c]) = some (s.data.toList.take 1 == [c]) := by
  unfold internal_stringslite_HasPrefix.u internal_stringslite_HasPrefix.s
  have hs1 : ((bs [c]).size : Int) = 1 := rfl
  simp only [hs1]
  by_cases hz : (s.size : Int) ≥ 1
  · have c1 : subC none (some 1) s.size = true := by simp [subC]; omega
    simp only [hz, decide_true, cond_true, c1, bs_list, sub_none1]
  · have h0 : s.data.toList = [] := by
      have := size_list s
      exact List.eq_nil_of_length_eq_zero (by omega)
    rw [decide_eq_false hz, h0]
    rfl
theorem cutp_u (s : ByteArray) (c : UInt8) : strings_CutPrefix.u s (bs [c]) = some (bif s.data.toList.take 1 == [c] then (subS (some 1) none s, true) else (s, false)) := by
  unfold strings_CutPrefix.u strings_CutPrefix.s internal_stringslite_CutPrefix.u internal_stringslite_CutPrefix.s
  rw [prefix_u, Option.bind_some]
  have hs1 : ((bs [c]).size : Int) = 1 := rfl
  simp only [hs1]
  cases h : (s.data.toList.take 1 == [c]) with
  | false => rfl
  | true =>
    have hz : 1 ≤ s.size := by
      rw [size_list]
      cases hl : s.data.toList with
      | nil => rw [hl] at h; exact absurd h (by simp)
      | cons b r => simp
    have c2 : subC (some 1) none s.size = true := by simp [subC]; omega
    rw [c2]
    rfl
theorem parseW_neg {l : List UInt8} (h : (l.take 1 == [45]) = false) : parseW l = bif plainF l then (bif decide (valN 0 l ≤ 2147483647) then ((valN 0 l : Int), 0) else (0, 8)) else (0, 3) := by
  unfold parseW wordOf
  rw [h]
  simp only [cond_false, Bool.false_and, Bool.false_eq_true, if_false]
  cases plainF l with
  | false => rfl
  | true =>
    by_cases hv : valN 0 l ≤ 2147483647
    · rw [decide_eq_true hv, fine_iff.2 ⟨by omega, by omega⟩]
    · rw [decide_eq_false hv, fine_out (by omega)]
end Go.Proofs.YtmmooplcdkmapaaGreatDoor.K

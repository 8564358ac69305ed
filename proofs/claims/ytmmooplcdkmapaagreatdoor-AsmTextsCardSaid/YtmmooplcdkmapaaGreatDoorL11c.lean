/- Assembly, plainly: words that are numbers, by the reference. -/
import Derived.Test.YtmmooplcdkmapaaGreatDoorL11b
set_option maxRecDepth 100000
set_option linter.unusedVariables false
set_option linter.unusedSimpArgs false
namespace Go.Proofs.YtmmooplcdkmapaaGreatDoor.K
open Go

def finW (neg : Bool) (v : Nat) : Int × Int := bif word_Fine.t (if neg = true then -(v : Int) else (v : Int)) then (if neg = true then -(v : Int) else (v : Int), 0) else (0, 8)
theorem fin_end (neg : Bool) {v : Nat} (hv : v < 100000000000) : (bif neg then (bif (!(ref08_Fine.t (IntKind.wrap .i64 (0 - (v : Int))))) then some ((0, 8) : Int × Int) else some (IntKind.wrap .i64 (0 - (v : Int)), 0)) else (bif (!(ref08_Fine.t (v : Int))) then some (0, 8) else some ((v : Int), 0))) = some (finW neg v) := by
  rw [fine_eq, wrapN ⟨by omega, by omega⟩, show (0 : Int) - (v : Int) = -(v : Int) by omega]
  unfold finW
  cases neg with
  | true =>
    simp only [cond_true, if_true]
    cases word_Fine.t (-(v : Int)) <;> rfl
  | false =>
    simp only [cond_false, Bool.false_eq_true, if_false]
    cases word_Fine.t (v : Int) <;> rfl
theorem dig_sub {b : UInt8} (h : digB b = true) : IntKind.wrap .i64 (IntKind.wrap .u8 (((b.toNat : Int)) - 48)) = ((b.toNat - 48 : Nat) : Int) ∧ b.toNat - 48 ≤ 9 := by
  simp only [digB, Bool.and_eq_true, decide_eq_true_eq] at h
  refine ⟨?_, by omega⟩
  rw [w8 (by omega) (by omega), wrapN ⟨by omega, by omega⟩]; omega
theorem r8_go (s : ByteArray) (l : List UInt8) (hl : s.data.toList = l) (neg : Bool) (hall : l.all digB = true) (hlen : l.length ≤ 10) : ∀ (d i a : Nat), i + d = l.length → a < 10 ^ i →
    ref08_Parse.g0 s neg some d (a : Int) (i : Int) = some (finW neg (valN a (l.drop i)))
  | 0, i, a, h, ha => by
    have hp : 10 ^ i ≤ 10 ^ 10 := pow10_le (by omega)
    rw [List.drop_eq_nil_of_le (by omega)]
    exact fin_end neg (by omega)
  | d + 1, i, a, h, ha => by
    have hi : i < l.length := by omega
    have e : l.drop i = l[i] :: l.drop (i + 1) := List.drop_eq_getElem_cons hi
    have hs : s.size = l.length := by rw [size_list, hl]
    have hb : bAt s i = ((l[i]).toNat : Int) := by
      unfold bAt
      rw [hl, List.getD_eq_getElem?_getD, List.getElem?_eq_getElem hi]; rfl
    have hp : 10 ^ i ≤ 10 ^ 10 := pow10_le (by omega)
    have hd : digB l[i] = true := List.all_eq_true.1 hall _ (List.getElem_mem hi)
    obtain ⟨w1, hv⟩ := dig_sub hd
    rw [ref08_Parse.g0, hs, idxOK_nat hi, cond_true, Int.toNat_natCast, hb, w1, wrapN (x := 10 * (a : Int)) ⟨by omega, by omega⟩, wrapN ⟨by omega, by omega⟩]
    have e2 : 10 * (a : Int) + ((((l[i]).toNat - 48 : Nat)) : Int) = ((a * 10 + ((l[i]).toNat - 48) : Nat) : Int) := by omega
    show ref08_Parse.g0 s neg some d (10 * (a : Int) + ((((l[i]).toNat - 48 : Nat)) : Int)) ((i + 1 : Nat) : Int) = _
    rw [e2, r8_go s l hl neg hall hlen d (i + 1) _ (by omega) (by rw [Nat.pow_succ]; omega), e]
    rfl
theorem r8_go1 (s : ByteArray) : ref08_Parse.g1 s some 0 0 0 = some (finW false 0) := rfl
theorem r8_num (y : ByteArray) (neg : Bool) (hp : plainF y.data.toList = true) (h10 : y.size ≤ 10) :
    (bif decide ((y.size : Int) ≤ 4611686018427387904) then ref08_Parse.g0 y neg some (Int.toNat ((y.size : Int) - 0)) 0 0 else none) = some (finW neg (valN 0 y.data.toList)) := by
  rw [decide_eq_true (show (y.size : Int) ≤ 4611686018427387904 by omega), cond_true, show Int.toNat ((y.size : Int) - 0) = y.size by omega]
  have hsz := size_list y
  have := r8_go y _ rfl neg (plain_all hp) (by omega) y.size 0 0 (by omega) (by decide)
  rw [List.drop_zero] at this
  exact this
theorem fin_long {l : List UInt8} (neg : Bool) (h : plainF l = true) (hl : 10 < l.length) : finW neg (valN 0 l) = (0, 8) := by
  have := val_long h hl
  unfold finW
  rw [fine_out (by split <;> omega)]; rfl
theorem wordOf_fin {neg : Bool} {l : List UInt8} (h : plainF l = true) (hz : (neg && (l == [48])) = false) : wordOf neg l = finW neg (valN 0 l) := by
  unfold wordOf finW
  rw [h, hz]; rfl
theorem r8_size (y : ByteArray) (neg : Bool) (hp : plainF y.data.toList = true) : (bif decide ((y.size : Int) > 10) then some ((0, 8) : Int × Int) else (bif decide ((y.size : Int) ≤ 4611686018427387904) then ref08_Parse.g0 y neg some (Int.toNat ((y.size : Int) - 0)) 0 0 else none)) = some (finW neg (valN 0 y.data.toList)) := by
  have hsz := size_list y
  by_cases h10 : y.size ≤ 10
  · rw [decide_eq_false (show ¬ (y.size : Int) > 10 by omega), cond_false, r8_num y neg hp h10]
  · rw [decide_eq_true (show (y.size : Int) > 10 by omega), cond_true, fin_long neg hp (by omega)]
theorem rparse08_u {s : ByteArray} (hs : s.size ≤ 1000000) : ref08_Parse.u s = some (parseW s.data.toList) := by
  unfold ref08_Parse.u ref08_Parse.w
  cases hl : s.data.toList with
  | nil =>
    have h0 : s.size = 0 := by rw [size_list, hl]; rfl
    rw [decide_eq_false (show ¬ (s.size : Int) > 0 by omega), cond_false, rplain_u hs, hl]
    rfl
  | cons b r =>
    have h0 : s.size = r.length + 1 := by rw [size_list, hl]; rfl
    have hb : bAt s 0 = (b.toNat : Int) := bAt0 hl
    rw [decide_eq_true (show (s.size : Int) > 0 by omega), cond_true, idxOK_of (Int.le_refl 0) (show (0 : Int) < (s.size : Int) by omega), cond_true, hb]
    by_cases h45 : b = 45
    · have e1 : ((b.toNat : Int) == 45) = true := by rw [h45]; rfl
      have sc : subC (some 1) none s.size = true := by simp [subC]; omega
      have hsub := sub1_list s
      rw [hl] at hsub
      have hr : (subS (some 1) none s).data.toList = r := hsub
      have hsz : (subS (some 1) none s).size = r.length := by rw [size_list, hr]
      rw [e1, cond_true, cond_true, sc, cond_true, rplain_u (by omega), hr]
      have hpw : parseW (b :: r) = wordOf true r := by unfold parseW; rw [h45]; rfl
      rw [hpw]
      cases hp : plainF r with
      | false => unfold wordOf; rw [hp]; rfl
      | true =>
        simp only [cond_true, Option.bind_some, Bool.not_true, cond_false]
        rw [bs_list]
        by_cases hz : r = [48]
        · rw [hz, beq_self_eq_true, cond_true]; rfl
        · have hz' : (r == [48]) = false := beq_eq_false_iff_ne.2 hz
          rw [hz', cond_false]
          have := r8_size (subS (some 1) none s) true (by rw [hr]; exact hp)
          rw [hr] at this
          rw [this, wordOf_fin hp (by rw [hz']; rfl)]
    · have e1 : ((b.toNat : Int) == 45) = false := by
        rw [beq_eq_false_iff_ne]; intro e
        exact h45 (UInt8.toNat_inj.1 (by show b.toNat = 45; omega))
      have hpw : parseW (b :: r) = wordOf false (b :: r) := by
        unfold parseW
        rw [show ((b :: r).take 1 == [45]) = false from beq_eq_false_iff_ne.2 (fun e => h45 (by simpa using e))]; rfl
      rw [e1, cond_false, cond_false, rplain_u hs, hl, hpw]
      cases hp : plainF (b :: r) with
      | false => unfold wordOf; rw [hp]; rfl
      | true =>
        simp only [cond_true, Option.bind_some, Bool.not_true, cond_false]
        have := r8_size s false (by rw [hl]; exact hp)
        rw [hl] at this
        rw [this, wordOf_fin hp rfl]

/-- A number behind a mark. -/
def markW (m l : List UInt8) : Int × Int := bif m.isPrefixOf l then (bif plainF (l.drop m.length) then (held (valN 0 (l.drop m.length)), 0) else (0, 3)) else (0, 3)
theorem take_prefix : ∀ (m l : List UInt8), m.isPrefixOf l = (l.take m.length == m)
  | [], l => by simp
  | a :: m, [] => by simp
  | a :: m, b :: l => by
    show ((a == b) && m.isPrefixOf l) = (b :: l.take m.length == a :: m)
    rw [take_prefix m l]
    show _ = ((b == a) && (l.take m.length == m))
    rw [show (a == b) = (b == a) from BEq.comm]
theorem marked_u {s : ByteArray} (hs : s.size ≤ 1000000) (m : List UInt8) : ref11_marked.u s (bs m) = some (markW m s.data.toList) := by
  unfold ref11_marked.u ref11_marked.s markW
  have hz := size_list s
  rw [bs_size, bs_list, take_prefix]
  by_cases h : s.size < m.length
  · rw [decide_eq_true (show (s.size : Int) < (m.length : Int) by omega), cond_true]
    have : (s.data.toList.take m.length == m) = false := beq_eq_false_iff_ne.2 fun e => by
      have := congrArg List.length e; rw [List.length_take] at this; omega
    rw [this]; rfl
  · have s1 : subC none (some (m.length : Int)) s.size = true := by simp [subC]; omega
    have s2 : subC (some (m.length : Int)) none s.size = true := by simp [subC]; omega
    rw [decide_eq_false (show ¬ (s.size : Int) < (m.length : Int) by omega), cond_false, s1, cond_true, sub_to_list, s2]
    cases hm : (s.data.toList.take m.length == m) with
    | false => rfl
    | true =>
      have hq : (subS (some (m.length : Int)) none s).size ≤ 1000000 := Nat.le_trans (sub_size_from s m.length) hs
      simp only [Bool.not_true, cond_false, cond_true]
      rw [rplain_u hq, sub_from_list]
      cases plainF (s.data.toList.drop m.length) <;> rfl
/-- The same, as asm has it. -/
def plainW (m l : List UInt8) : Int × Int := bif m.isPrefixOf l then (bif plainF (l.drop m.length) then (if valN 0 (l.drop m.length) ≤ 255 then ((valN 0 (l.drop m.length) : Int), 0) else (0, 8)) else (0, 3)) else (0, 3)
theorem cutm_u {s : ByteArray} (m : List UInt8) : strings_CutPrefix.u s (bs m) = some (bif m.isPrefixOf s.data.toList then (subS (some (m.length : Int)) none s, true) else (s, false)) := by
  unfold strings_CutPrefix.u strings_CutPrefix.s internal_stringslite_CutPrefix.u internal_stringslite_CutPrefix.s internal_stringslite_HasPrefix.u internal_stringslite_HasPrefix.s
  have hz := size_list s
  rw [bs_size, bs_list, take_prefix]
  by_cases h : s.size < m.length
  · rw [decide_eq_false (show ¬ (s.size : Int) ≥ (m.length : Int) by omega), cond_false]
    have : (s.data.toList.take m.length == m) = false := beq_eq_false_iff_ne.2 fun e => by
      have := congrArg List.length e; rw [List.length_take] at this; omega
    rw [this]; rfl
  · have s1 : subC none (some (m.length : Int)) s.size = true := by simp [subC]; omega
    have s2 : subC (some (m.length : Int)) none s.size = true := by simp [subC]; omega
    rw [decide_eq_true (show (s.size : Int) ≥ (m.length : Int) by omega), cond_true, s1, cond_true, sub_to_list, s2]
    cases (s.data.toList.take m.length == m) <;> rfl
theorem minus_plain {l : List UInt8} (h : (l.take 1 == [45]) = true) : plainF l = false := by
  cases l with
  | nil => rfl
  | cons a r =>
    have ha : a = 45 := by simpa using h
    rw [ha]; unfold plainF; rw [List.all_cons, show digB 45 = false by decide]; rfl
theorem plain_u11 {s : ByteArray} (hs : s.size ≤ 1000000) (m : List UInt8) : asm_plain.u s (bs m) = some (plainW m s.data.toList) := by
  unfold asm_plain.u asm_plain.s plainW
  rw [cutm_u, Option.bind_some]
  cases hm : m.isPrefixOf s.data.toList with
  | false => rfl
  | true =>
    have hq : (subS (some (m.length : Int)) none s).size ≤ 1000000 := Nat.le_trans (sub_size_from s m.length) hs
    simp only [cond_true, Bool.not_true, cond_false]
    rw [show strings_HasPrefix.u (subS (some (m.length : Int)) none s) (bs [45]) = some ((subS (some (m.length : Int)) none s).data.toList.take 1 == [45]) from by
      unfold strings_HasPrefix.u strings_HasPrefix.s; rw [prefix_u]; rfl, Option.bind_some, wparse_u hq, sub_from_list]
    cases h45 : ((s.data.toList.drop m.length).take 1 == [45]) with
    | true => rw [minus_plain h45]; rfl
    | false =>
      rw [parseW_neg h45, cond_false, Option.bind_some]
      cases plainF (s.data.toList.drop m.length) with
      | false => rfl
      | true =>
        simp only [cond_true]
        by_cases h1 : valN 0 (s.data.toList.drop m.length) ≤ 2147483647
        · rw [decide_eq_true h1, cond_true]
          simp only [show ((0 : Int) != 0) = false from rfl, cond_false]
          by_cases h2 : valN 0 (s.data.toList.drop m.length) ≤ 255
          · rw [if_pos h2, decide_eq_false (by omega)]; rfl
          · rw [if_neg h2, decide_eq_true (by omega)]; rfl
        · rw [decide_eq_false h1, if_neg (by omega)]; rfl
end Go.Proofs.YtmmooplcdkmapaaGreatDoor.K

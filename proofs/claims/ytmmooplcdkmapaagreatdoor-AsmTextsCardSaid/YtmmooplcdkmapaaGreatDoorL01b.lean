/- Handles, plainly: a text that is read. -/
import Derived.Test.YtmmooplcdkmapaaGreatDoorL01
set_option maxRecDepth 100000
set_option linter.unusedVariables false
set_option linter.unusedSimpArgs false
namespace Go.Proofs.YtmmooplcdkmapaaGreatDoor.K
open Go

/-- The decimal value of digits behind a number. -/
def valN (acc : Nat) : List UInt8 → Nat
  | [] => acc
  | b :: r => valN (acc * 10 + (b.toNat - 48)) r
theorem dv_dig {b : UInt8} (h : digB b = true) : Lib.digitVal b = some (b.toNat - 48) := by
  simp only [digB, Bool.and_eq_true, decide_eq_true_eq] at h
  unfold Lib.digitVal
  rw [if_pos h]
theorem decFrom_val : ∀ (l : List UInt8) (acc : Nat), l.all digB = true → Lib.decFrom acc l = some (valN acc l)
  | [], acc, _ => rfl
  | b :: r, acc, h => by
    simp only [List.all_cons, Bool.and_eq_true] at h
    unfold Lib.decFrom
    rw [dv_dig h.1]
    exact decFrom_val r _ h.2
theorem valN_lo : ∀ (l : List UInt8) (acc : Nat), acc * 10 ^ l.length ≤ valN acc l
  | [], acc => Nat.le_of_eq (Nat.mul_one acc)
  | b :: r, acc => by
    have := valN_lo r (acc * 10 + (b.toNat - 48))
    unfold valN
    refine Nat.le_trans ?_ this
    rw [List.length_cons, Nat.pow_succ, Nat.mul_comm (10 ^ r.length) 10, ← Nat.mul_assoc]
    exact Nat.mul_le_mul_right _ (Nat.le_add_right _ _)
theorem valN_hi : ∀ (l : List UInt8) (acc : Nat), l.all digB = true → valN acc l < (acc + 1) * 10 ^ l.length
  | [], acc, _ => by
    show acc < (acc + 1) * 1
    omega
  | b :: r, acc, h => by
    simp only [List.all_cons, Bool.and_eq_true, digB, decide_eq_true_eq] at h
    have := valN_hi r (acc * 10 + (b.toNat - 48)) h.2
    unfold valN
    refine Nat.lt_of_lt_of_le this ?_
    rw [List.length_cons, Nat.pow_succ, Nat.mul_comm (10 ^ r.length) 10, ← Nat.mul_assoc]
    exact Nat.mul_le_mul_right _ (by omega)

/-- Digits, without noughts ahead. -/
def plainF (l : List UInt8) : Bool := l.all digB && (l == [48] || (!(l == []) && (l.headD 0 != 48)))
theorem get_toList (s : ByteArray) (i : Nat) (h : i < s.size) : s.data.toList[i]? = some (s[i]'h) := by
  rw [Array.getElem?_toList, Array.getElem?_eq_getElem (show i < s.data.size from h)]; rfl
theorem bAt0 {s : ByteArray} {b : UInt8} {r : List UInt8} (h : s.data.toList = b :: r) : bAt s 0 = (b.toNat : Int) := by unfold bAt; rw [h]; rfl
theorem toNat48 (b : UInt8) : ((b.toNat : Int) != 48) = (b != 48) := by
  rw [Bool.eq_iff_iff]
  simp only [bne_iff_ne, ne_eq]
  constructor
  · intro h e; subst e; exact h rfl
  · intro h e; apply h; apply UInt8.toNat_inj.1; have h48 : (48 : UInt8).toNat = 48 := rfl; omega
/-- A value, held at a thousand millions. -/
def held (n : Nat) : Int := if (n : Int) > 1000000000 then 1000000000 else (n : Int)
theorem plain_go (s : ByteArray) (l : List UInt8) (hl : s.data.toList = l) (k : Int × Bool → Option (Int × Bool)) : ∀ (d i a : Nat), i + d = l.length →
    ref01_Plain.g0 s k d (held a) (i : Int) = bif (l.drop i).all digB then k (held (valN a (l.drop i)), true) else k (0, false)
  | 0, i, a, h => by
    have hn : l.drop i = [] := by rw [List.drop_eq_nil_of_le (by omega)]
    rw [hn]; rfl
  | d + 1, i, a, h => by
    have hi : i < l.length := by omega
    have e : l.drop i = l[i] :: l.drop (i + 1) := List.drop_eq_getElem_cons hi
    have hs : s.size = l.length := by rw [size_list, hl]
    have hb : bAt s i = ((l[i]).toNat : Int) := by
      unfold bAt
      rw [hl, List.getD_eq_getElem?_getD, List.getElem?_eq_getElem hi]; rfl
    have hlt := (l[i]).toNat_lt
    simp only [ref01_Plain.g0, hs, idxOK_nat hi, cond_true, Int.toNat_natCast, hb]
    rw [e, List.all_cons]
    by_cases h1 : ((l[i]).toNat : Int) < 48
    · have : digB l[i] = false := by unfold digB; rw [decide_eq_false (show ¬ 48 ≤ (l[i]).toNat by omega)]; rfl
      rw [decide_eq_true h1, this]; rfl
    · by_cases h2 : ((l[i]).toNat : Int) > 57
      · have : digB l[i] = false := by unfold digB; rw [decide_eq_false (show ¬ (l[i]).toNat ≤ 57 by omega), Bool.and_false]
        rw [decide_eq_false h1, decide_eq_true h2, this]; rfl
      · have hd : digB l[i] = true := by unfold digB; rw [decide_eq_true (show 48 ≤ (l[i]).toNat by omega), decide_eq_true (show (l[i]).toNat ≤ 57 by omega)]; rfl
        rw [decide_eq_false h1, decide_eq_false h2, hd]
        simp only [cond_false, Bool.true_and]
        have ha : 0 ≤ held a ∧ held a ≤ 1000000000 := by unfold held; split <;> omega
        have w1 : IntKind.wrap .u8 (((l[i]).toNat : Int) - 48) = ((l[i]).toNat : Int) - 48 := w8 (by omega) (by omega)
        rw [w1, wrapN (x := ((l[i]).toNat : Int) - 48) ⟨by omega, by omega⟩, wrapN (x := 10 * held a) ⟨by omega, by omega⟩, wrapN (x := 10 * held a + (((l[i]).toNat : Int) - 48)) ⟨by omega, by omega⟩]
        have hh : (if (1000000000 : Int) < 10 * held a + (((l[i]).toNat : Int) - 48) then 1000000000 else 10 * held a + (((l[i]).toNat : Int) - 48)) = held (a * 10 + ((l[i]).toNat - 48)) := by
          unfold held
          split <;> split <;> split <;> omega
        rw [hh]
        have ih := plain_go s l hl k d (i + 1) (a * 10 + ((l[i]).toNat - 48)) (by omega)
        rw [show ((i + 1 : Nat) : Int) = (i : Int) + 1 by omega] at ih
        rw [ih]
        rfl
theorem rplain_u {s : ByteArray} (hs : s.size ≤ 1000000) : ref01_Plain.u s = some (bif plainF s.data.toList then (held (valN 0 s.data.toList), true) else (0, false)) := by
  unfold ref01_Plain.u ref01_Plain.w plainF
  have hsz := size_list s
  generalize hl : s.data.toList = l at *
  cases l with
  | nil => rfl
  | cons b r =>
    have hgo := plain_go s (b :: r) hl some (b :: r).length 0 0 (by omega)
    have h0 : held 0 = 0 := rfl
    rw [h0, List.drop_zero] at hgo
    have i0 : idxOK 0 s.size = true := idxOK_of (by omega) (by rw [hsz, List.length_cons]; omega)
    have hd : decide ((s.size : Int) ≤ 4611686018427387904) = true := decide_eq_true (by omega)
    have hn : Int.toNat ((s.size : Int) - 0) = (b :: r).length := by rw [← hsz]; omega
    have hz : ((0 : Nat) : Int) = 0 := rfl
    rw [hz] at hgo
    simp only [bs_list, show ((b :: r) == ([] : List UInt8)) = false from rfl, cond_false, i0, cond_true, bAt0 hl, hd, hn, hgo]
    have hbq : ((b.toNat : Int) == 48) = (b == 48) := by
      have := toNat48 b
      simp only [bne] at this
      cases h1 : ((b.toNat : Int) == 48) <;> cases h2 : (b == 48) <;> simp_all
    rw [hbq]
    cases h48 : (b == 48) with
    | false =>
      have hne : ((b :: r) == [48]) = false := by
        rw [beq_eq_false_iff_ne]
        intro e
        cases e
        cases h48
      simp only [cond_false, hne, Bool.not_false, List.headD_cons, Bool.false_or, Bool.true_and, bne, h48, Bool.and_true]
      cases (b :: r).all digB <;> rfl
    | true =>
      have e48 : b = 48 := by simpa using h48
      subst e48
      simp only [cond_true]
      cases r with
      | nil =>
        have hle : decide ((s.size : Int) > 1) = false := decide_eq_false (by rw [hsz]; simp)
        simp only [hle, cond_false]
        rfl
      | cons c r =>
        have hle : decide ((s.size : Int) > 1) = true := decide_eq_true (by rw [hsz]; simp only [List.length_cons]; omega)
        simp only [hle, cond_true]
        have hne : ((48 :: c :: r : List UInt8) == [48]) = false := by
          rw [beq_eq_false_iff_ne]
          intro e
          cases e
        rw [hne]
        simp
theorem mkH_same {v w v' w' : Int} (h : v = w ∨ (v = -1 ∧ w = 1000000000)) (h' : v' = w' ∨ (v' = -1 ∧ w' = 1000000000)) : mkH v v' = mkH w w' := by
  unfold mkH
  rcases h with rfl | ⟨rfl, rfl⟩
  · rcases h' with rfl | ⟨rfl, rfl⟩
    · rfl
    · rw [if_neg (by omega), if_neg (by omega)]
  · rw [if_neg (by omega), if_neg (by omega)]
end Go.Proofs.YtmmooplcdkmapaaGreatDoor.K

/- Digits, plainly: texts of numbers, read again. -/
import Derived.Test.YtmmooplcdkmapaaGreatDoorS
import Derived.Test.YtmmooplcdkmapaaGreatDoorBas
import Derived.Test.YtmmooplcdkmapaaGreatDoorL08a
import Derived.Lib.Atoi
set_option maxRecDepth 100000
set_option linter.unusedVariables false
set_option linter.unusedSimpArgs false
namespace Go.Proofs.YtmmooplcdkmapaaGreatDoor.K
open Go

/-! ### A text is read again -/
def digB (b : UInt8) : Bool := decide (48 ≤ b.toNat) && decide (b.toNat ≤ 57)
theorem dig_ofNat {d : Nat} (h : d < 10) : (UInt8.ofNat (48 + d)).toNat = 48 + d := by
  rw [UInt8.toNat_ofNat']
  omega
theorem dd_all : ∀ (n u : Nat), u ≤ n → (Lib.decDigits u).all digB = true
  | n, u, h => by
    rw [Lib.decDigits]
    split
    · rename_i hu
      simp only [List.all_cons, List.all_nil, Bool.and_true, digB]
      rw [dig_ofNat hu]; simp; omega
    · rename_i hu
      match n, h with
      | 0, h => omega
      | n + 1, h =>
        rw [List.all_append, dd_all n (u / 10) (by omega)]
        simp only [List.all_cons, List.all_nil, Bool.and_true, Bool.true_and, digB]
        rw [dig_ofNat (by omega)]; simp; omega
theorem decFrom_append : ∀ (l r : List UInt8) (acc m : Nat), Lib.decFrom acc l = some m → Lib.decFrom acc (l ++ r) = Lib.decFrom m r
  | [], r, acc, m, h => by cases h; rfl
  | b :: l, r, acc, m, h => by
    simp only [List.cons_append, Lib.decFrom] at h ⊢
    cases hd : Lib.digitVal b with
    | none => rw [hd] at h; cases h
    | some d =>
      rw [hd] at h
      simp only at h ⊢
      exact decFrom_append l r _ m h
theorem decFrom_dd : ∀ (n u : Nat), u ≤ n → Lib.decFrom 0 (Lib.decDigits u) = some u
  | n, u, h => by
    rw [Lib.decDigits]
    have dv : ∀ d, d < 10 → Lib.digitVal (UInt8.ofNat (48 + d)) = some d := by
      intro d hd
      unfold Lib.digitVal
      rw [dig_ofNat hd, if_pos (by omega)]
      congr 1; omega
    split
    · rename_i hu
      unfold Lib.decFrom
      rw [dv u hu]
      simp [Lib.decFrom]
    · rename_i hu
      match n, h with
      | 0, h => omega
      | n + 1, h =>
        rw [decFrom_append _ _ _ _ (decFrom_dd n (u / 10) (by omega))]
        unfold Lib.decFrom
        rw [dv (u % 10) (by omega)]
        simp only [Lib.decFrom]
        congr 1; omega
theorem dd_head : ∀ (n u : Nat), u ≤ n → 0 < u → ∃ b r, Lib.decDigits u = b :: r ∧ b ≠ 48 ∧ digB b = true
  | n, u, h, h0 => by
    rw [Lib.decDigits]
    split
    · rename_i hu
      refine ⟨_, [], rfl, ?_, ?_⟩
      · intro e
        have := dig_ofNat hu
        rw [e] at this
        have h48 : (48 : UInt8).toNat = 48 := rfl
        omega
      · unfold digB; rw [dig_ofNat hu]; simp; omega
    · rename_i hu
      match n, h with
      | 0, h => omega
      | n + 1, h =>
        obtain ⟨b, r, e, h1, h2⟩ := dd_head n (u / 10) (by omega) (by omega)
        exact ⟨b, r ++ _, by rw [e]; rfl, h1, h2⟩
theorem dd_zero : Lib.decDigits 0 = [48] := by rw [Lib.decDigits, dif_pos (by omega)]; rfl
theorem dd_short {u : Nat} (h : u ≤ 2147483648) : (Lib.decDigits u).length ≤ 10 := by
  have step : ∀ {u k : Nat}, u < 10 ^ (k + 1) → (Lib.decDigits u).length ≤ k + 1 := by
    intro u k
    induction k generalizing u with
    | zero => intro hu; rw [Lib.decDigits, dif_pos (by omega)]; simp
    | succ k ih =>
      intro hu
      rw [Lib.decDigits]
      split
      · simp
      · have := @ih (u / 10) (by rw [Nat.pow_succ] at hu; omega)
        simp only [List.length_append, List.length_singleton]; omega
  exact step (k := 9) (by omega)

theorem atoi_dd {s : ByteArray} {u : Nat} (h : s.data.toList = Lib.decDigits u) (hs : s.size ≤ 18) : strconv_Atoi.u s = some ((u : Int), .nilIface) := by
  unfold strconv_Atoi.u
  rw [decide_eq_true hs, cond_true, h]
  have ha : Lib.atoi (Lib.decDigits u) = some (u : Int) := by
    have hd : Lib.decNat (Lib.decDigits u) = some u := by
      unfold Lib.decNat
      rcases Nat.eq_zero_or_pos u with rfl | h0
      · rw [dd_zero]; rfl
      · obtain ⟨b, r, e, _⟩ := dd_head u u (Nat.le_refl _) h0
        rw [e]
        have := decFrom_dd u u (Nat.le_refl _)
        rw [e] at this
        simpa using this
    have hall := dd_all u u (Nat.le_refl _)
    cases hl : Lib.decDigits u with
    | nil => rw [hl] at hd; cases hd
    | cons b r =>
      rw [hl] at hd hall
      simp only [List.all_cons, Bool.and_eq_true, digB, decide_eq_true_eq] at hall
      have n45 : (b == 45) = false := by
        rw [beq_eq_false_iff_ne]; rintro rfl; simp at hall
      have n43 : (b == 43) = false := by
        rw [beq_eq_false_iff_ne]; rintro rfl; simp at hall
      unfold Lib.atoi
      simp only [n45, n43, hd, Bool.false_eq_true, if_false, Option.map_some]
  rw [ha]; rfl

theorem sub1_list (s : ByteArray) : (subS (some 1) none s).data.toList = s.data.toList.drop 1 := by
  show (s.extract 1 s.size).data.toList = _
  have e : (s.extract 1 s.size).data.toList = (s.data.toList.drop 1).take (s.size - 1) := by simp
  rw [e, List.take_of_length_le (by rw [List.length_drop, size_list]; exact Nat.le_refl _)]
theorem sub_none1 (s : ByteArray) : (subS none (some 1) s).data.toList = s.data.toList.take 1 := by
  show (s.extract 0 1).data.toList = _
  simp

end Go.Proofs.YtmmooplcdkmapaaGreatDoor.K

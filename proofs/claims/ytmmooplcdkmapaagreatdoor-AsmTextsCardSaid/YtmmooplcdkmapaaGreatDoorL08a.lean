/- Words, plainly: their texts. -/
import Derived.Test.YtmmooplcdkmapaaGreatDoorZ08
import Derived.Test.YtmmooplcdkmapaaGreatDoorBas
import Derived.Lib.ItoaNum
import Derived.IntWalk
set_option maxRecDepth 100000
set_option linter.unusedVariables false
set_option linter.unusedSimpArgs false
namespace Go.Proofs.YtmmooplcdkmapaaGreatDoor.K
open Go

theorem fine_eq : ref08_Fine.t = word_Fine.t := rfl
theorem fine_iff {x : Int} : word_Fine.t x = true ↔ -2147483648 ≤ x ∧ x ≤ 2147483647 := by
  unfold word_Fine.t
  by_cases h : x ≥ -2147483648
  · simp [h]
  · simp [h]
theorem fine0 : word_Fine.t 0 = true := by decide

theorem ba_ext {a b : ByteArray} (h : a.data.toList = b.data.toList) : a = b := by
  cases a; cases b
  congr 1
  exact Array.toList_inj.1 h
theorem bs_list (l : List UInt8) : (bs l).data.toList = l := rfl
theorem bs_size (l : List UInt8) : (bs l).size = l.length := rfl
theorem size_list (s : ByteArray) : s.size = s.data.toList.length := by rw [Array.length_toList]; rfl
theorem of1 (c : Int) : (ofBytes [c]).data.toList = [UInt8.ofNat c.toNat] := rfl
theorem of1_size (c : Int) : (ofBytes [c]).size = 1 := rfl
theorem app_list (a b : ByteArray) : (a ++ b).data.toList = a.data.toList ++ b.data.toList := by simp
theorem w8 {c : Int} (h0 : 0 ≤ c) (h1 : c < 256) : IntKind.wrap .u8 c = c := by
  simp [IntKind.wrap, IntKind.bits, IntKind.signed]
  omega
theorem digit_of {v : Int} (h0 : 0 ≤ v) (h1 : v ≤ 9) : IntKind.wrap .u8 (IntKind.wrap .i64 (48 + v)) = 48 + v := by
  rw [wrap_in (by omega) (by omega), w8 (by omega) (by omega)]

theorem digits_iter {Ω : Type} (k : ByteArray → Option Ω) : ∀ (m : Nat) (v : Int) (acc : ByteArray), 0 ≤ v → v.toNat < m → (acc.size : Int) + v ≤ 2199023255552 →
    iter (ref01_Digits.gb0 k) m (v, acc) = k (bs (Lib.decDigits v.toNat ++ acc.data.toList))
  | 0, v, acc, _, h, _ => by omega
  | m + 1, v, acc, h0, h1, h2 => by
    show ref01_Digits.gb0 k (iter (ref01_Digits.gb0 k) m) (v, acc) = _
    have ih := digits_iter k m
    generalize iter (ref01_Digits.gb0 k) m = R at ih ⊢
    unfold ref01_Digits.gb0
    simp only
    by_cases hgt : v > 9
    · have hcat : decide ((ofBytes [IntKind.wrap .u8 (IntKind.wrap .i64 (48 + Int.tmod v 10))]).size + acc.size ≤ catMax) = true := by
        rw [of1_size]; unfold catMax; exact decide_eq_true (by omega)
      have hd' : Int.tdiv v 10 = v / 10 := Int.tdiv_eq_ediv_of_nonneg h0
      have hm' : Int.tmod v 10 = v % 10 := Int.tmod_eq_emod_of_nonneg h0
      simp only [hgt, decide_true, cond_true, hcat]
      rw [hd', hm', digit_of (by omega) (by omega), wrap_in (by omega) (by omega)]
      rw [ih (v / 10) (ofBytes [48 + v % 10] ++ acc) (by omega) (by omega) (by simp only [ByteArray.size_append, of1_size]; omega)]
      congr 2
      rw [app_list, of1]
      conv => rhs; rw [Lib.decDigits, dif_neg (by omega)]
      rw [List.append_assoc]
      congr 2
      · omega
      · congr 2
        omega
    · have hcat2 : decide ((ofBytes [IntKind.wrap .u8 (IntKind.wrap .i64 (48 + v))]).size + acc.size ≤ catMax) = true := by
        rw [of1_size]; unfold catMax; exact decide_eq_true (by omega)
      simp only [hgt, decide_false, cond_false, hcat2, cond_true]
      congr 1
      apply ba_ext
      rw [app_list, of1, digit_of (by omega) (by omega), bs_list, Lib.decDigits, dif_pos (by omega)]
      congr 3
      omega

theorem digits_u {x : Int} (h0 : 0 ≤ x) (h1 : x ≤ 1099511627776) : ref01_Digits.u x = some (bs (Lib.decDigits x.toNat)) := by
  unfold ref01_Digits.u ref01_Digits.w ref01_Digits.g0
  rw [digits_iter some BIG x (bs []) h0 (by unfold BIG; omega) (by rw [bs_size]; simp; omega)]
  simp [bs_list]

theorem dd_len : ∀ (n u : Nat), u ≤ n → (Lib.decDigits u).length ≤ u + 1
  | 0, u, h => by rw [Lib.decDigits, dif_pos (by omega)]; simp
  | n + 1, u, h => by
    rw [Lib.decDigits]
    split
    · simp
    · have := dd_len n (u / 10) (by omega)
      simp only [List.length_append, List.length_singleton]
      omega

/-- A number's text. -/
def txt (n : Int) : ByteArray := ⟨(Lib.itoa n).toArray⟩
theorem txt_list (n : Int) : (txt n).data.toList = Lib.itoa n := by simp [txt]

theorem itoa_len {n : Int} (h : word_Fine.t n = true) : (Lib.itoa n).length ≤ 4294967296 := by
  have hf := fine_iff.1 h
  unfold Lib.itoa
  split
  · have := dd_len n.natAbs n.natAbs (Nat.le_refl _)
    simp only [List.length_cons]; omega
  · have := dd_len n.toNat n.toNat (Nat.le_refl _)
    omega

def textOf (n : Int) : ByteArray × Int := bif word_Fine.t n then (txt n, 0) else (bs [], 8)
theorem word_text (n : Int) : word_Text.u n = some (textOf n) := by
  unfold word_Text.u word_Text.s textOf
  cases h : word_Fine.t n with
  | false => rfl
  | true =>
    have hf := fine_iff.1 h
    have : strconv_Itoa.u n = some (txt n) := by
      unfold strconv_Itoa.u
      rw [decide_eq_true (show -9223372036854775808 ≤ n by omega), decide_eq_true (show n ≤ 9223372036854775807 by omega)]
      rfl
    rw [this]; rfl
theorem text_fine {n : Int} (h : word_Fine.t n = true) : word_Text.u n = some (txt n, 0) := by
  rw [word_text, textOf, h]; rfl
end Go.Proofs.YtmmooplcdkmapaaGreatDoor.K

/- Words, plainly: sums and their like; a text is read again. -/
import Derived.Test.YtmmooplcdkmapaaGreatDoorL08a
import Derived.Test.YtmmooplcdkmapaaGreatDoorDig
import Derived.Test.YtmmooplcdkmapaaGreatDoorKF
import Derived.KernelRfl
set_option maxRecDepth 100000
set_option linter.unusedVariables false
set_option linter.unusedSimpArgs false
namespace Go.Proofs.YtmmooplcdkmapaaGreatDoor.K
open Go

/-- A number, wrapped to a word. -/
def bm (x : Int) : Int := (x + 2147483648) % 4294967296 - 2147483648
theorem w32 (x : Int) : IntKind.wrap .i32 x = bm x := by
  have : IntKind.wrap .i32 x = if x % 4294967296 < 2147483648 then x % 4294967296 else x % 4294967296 - 4294967296 := by
    simp [IntKind.wrap, IntKind.bits, IntKind.signed, IntKind.min, IntKind.max]
    split <;> split <;> omega
  rw [this]
  unfold bm
  split <;> omega
theorem bm_range (x : Int) : -2147483648 ≤ bm x ∧ bm x ≤ 2147483647 := by unfold bm; omega
theorem bm_fine {x : Int} (h : -2147483648 ≤ x ∧ x ≤ 2147483647) : bm x = x := by unfold bm; omega
theorem w64 (x : Int) : IntKind.wrap .i64 x = (x + 9223372036854775808) % 18446744073709551616 - 9223372036854775808 := by
  have : IntKind.wrap .i64 x = if x % 18446744073709551616 < 9223372036854775808 then x % 18446744073709551616 else x % 18446744073709551616 - 18446744073709551616 := by
    simp [IntKind.wrap, IntKind.bits, IntKind.signed, IntKind.min, IntKind.max]
    split <;> split <;> omega
  rw [this]
  split <;> omega
theorem bm_w64 (x : Int) : bm (IntKind.wrap .i64 x) = bm x := by rw [w64]; unfold bm; omega

theorem whole_dd {s : ByteArray} {u : Nat} (h : s.data.toList = Lib.decDigits u) (hs : s.size ≤ 100) : word_whole.u s = some true := by
  unfold word_whole.u word_whole.w
  have hl : (bytesI s).length = s.size := bytesI_len s
  rw [dec_len (show (bytesI s).length ≤ 100 by omega) (by decide), cond_true]
  have key : ∀ (l : List UInt8), l.all digB = true → word_whole.g0 s (bytesI s) some (l.map fun b => (b.toNat : Int)) = word_whole.g0 s (bytesI s) some [] := by
    intro l
    induction l with
    | nil => intro _; rfl
    | cons b l ih =>
      intro hb
      simp only [List.all_cons, Bool.and_eq_true, digB, decide_eq_true_eq] at hb
      rw [List.map_cons]
      simp only [word_whole.g0]
      rw [decide_eq_false (show ¬ ((b.toNat : Int) < 48) by omega), decide_eq_false (show ¬ ((b.toNat : Int) > 57) by omega)]
      exact ih hb.2
  have hb : bytesI s = (Lib.decDigits u).map fun b => (b.toNat : Int) := by unfold bytesI; rw [h]
  have := key (Lib.decDigits u) (dd_all u u (Nat.le_refl _))
  rw [← hb] at this
  rw [this]
  simp only [word_whole.g0, bs_list, h]
  rcases Nat.eq_zero_or_pos u with rfl | h0
  · rw [dd_zero]; rfl
  · obtain ⟨b, r, e, h1, h2⟩ := dd_head u u (Nat.le_refl _) h0
    have hne : ((b :: r) == [48]) = false := by simp [h1]
    have hz : idxOK 0 s.size = true := idxOK_of (by omega) (by rw [size_list, h, e]; simp)
    have hb0 : bAt s 0 = (b.toNat : Int) := by unfold bAt; rw [h, e]; rfl
    have hb1 : (bAt s 0 != 48) = true := by
      rw [hb0]
      simp only [bne_iff_ne, ne_eq]
      intro e2
      apply h1
      apply UInt8.toNat_inj.1
      have h48 : (48 : UInt8).toNat = 48 := rfl
      omega
    rw [e, hne]
    simp only [cond_false, hz, cond_true, hb1, show ((b :: r) == ([] : List UInt8)) = false from rfl, Bool.not_false]

theorem cut_u (s : ByteArray) : strings_CutPrefix.u s (bs [45]) = some (bif s.data.toList.take 1 == [45] then (subS (some 1) none s, true) else (s, false)) := by
  unfold strings_CutPrefix.u strings_CutPrefix.s internal_stringslite_CutPrefix.u internal_stringslite_CutPrefix.s internal_stringslite_HasPrefix.u internal_stringslite_HasPrefix.s
  have hs1 : ((bs [45]).size : Int) = 1 := rfl
  simp only [hs1]
  by_cases hz : (s.size : Int) ≥ 1
  · have c1 : subC none (some 1) s.size = true := by simp [subC]; omega
    have c2 : subC (some 1) none s.size = true := by simp [subC]; omega
    simp only [hz, decide_true, cond_true, c1, c2, bs_list, sub_none1, Option.bind_some]
    cases (s.data.toList.take 1 == [45]) <;> rfl
  · have h0 : s.data.toList = [] := by
      have := size_list s
      exact List.eq_nil_of_length_eq_zero (by omega)
    simp only [hz, decide_false, cond_false, Option.bind_some, Bool.not_false, cond_true, h0]
    rfl

theorem parse_txt {n : Int} (h : word_Fine.t n = true) : word_Parse.u (txt n) = some (n, 0) := by
  have hf := fine_iff.1 h
  unfold word_Parse.u word_Parse.s
  rw [cut_u, txt_list]
  unfold Lib.itoa
  by_cases hn : n < 0
  · rw [if_pos hn]
    have e1 : ((45 :: Lib.decDigits n.natAbs).take 1 == [45]) = true := by simp
    have e2 : (subS (some 1) none (txt n)).data.toList = Lib.decDigits n.natAbs := by
      rw [sub1_list, txt_list]
      unfold Lib.itoa
      rw [if_pos hn]; rfl
    have e3 : (subS (some 1) none (txt n)).size ≤ 10 := by
      rw [size_list, e2]; exact dd_short (by omega)
    rw [e1]
    simp only [cond_true, Option.bind_some, whole_dd e2 (by omega), Bool.not_true, cond_false, bs_list, e2]
    have hne : (Lib.decDigits n.natAbs == [48]) = false := by
      obtain ⟨b, r, e, h1, _⟩ := dd_head n.natAbs n.natAbs (Nat.le_refl _) (by omega)
      rw [e]; simp [h1]
    have hle : decide (((subS (some 1) none (txt n)).size : Int) ≤ 10) = true := decide_eq_true (by omega)
    simp only [hne, hle, cond_true, cond_false, atoi_dd e2 (by omega), Option.bind_some]
    have hw : IntKind.wrap .i64 (0 - (n.natAbs : Int)) = n := by rw [wrapN ⟨by omega, by omega⟩]; omega
    rw [hw, h]; rfl
  · rw [if_neg hn]
    have e1 : ((Lib.decDigits n.toNat).take 1 == [45]) = false := by
      have hall := dd_all n.toNat n.toNat (Nat.le_refl _)
      cases hl : Lib.decDigits n.toNat with
      | nil => rfl
      | cons b r =>
        rw [hl] at hall
        simp only [List.all_cons, Bool.and_eq_true, digB, decide_eq_true_eq] at hall
        rw [List.take_succ_cons, List.take_zero, beq_eq_false_iff_ne]
        intro e
        cases e
        simp at hall
    have e2 : (txt n).data.toList = Lib.decDigits n.toNat := by
      rw [txt_list]; unfold Lib.itoa; rw [if_neg hn]
    have e3 : (txt n).size ≤ 10 := by rw [size_list, e2]; exact dd_short (by omega)
    rw [e1]
    simp only [cond_false, Option.bind_some, whole_dd e2 (by omega), Bool.not_true]
    have hle : decide (((txt n).size : Int) ≤ 10) = true := decide_eq_true (by omega)
    simp only [hle, cond_true, atoi_dd e2 (by omega), Option.bind_some]
    have hw : ((n.toNat : Nat) : Int) = n := by omega
    rw [hw, h]; rfl

end Go.Proofs.YtmmooplcdkmapaaGreatDoor.K

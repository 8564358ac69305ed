/- Assembly, plainly: a text that was written is read again. -/
import Derived.Test.YtmmooplcdkmapaaGreatDoorL11h
set_option maxRecDepth 100000
set_option linter.unusedVariables false
set_option linter.unusedSimpArgs false
namespace Go.Proofs.YtmmooplcdkmapaaGreatDoor.K
open Go

theorem pieces_ne : ∀ l : List UInt8, pieces l ≠ []
  | [] => by simp [pieces]
  | b :: r => by
    unfold pieces
    split
    · simp
    · split <;> simp
theorem pieces_cat (q : List UInt8) : ∀ p : List UInt8, pieces (p ++ 32 :: q) = pieces p ++ pieces q
  | [] => pieces_app (a := []) q (by simp)
  | b :: r => by
    have ih := pieces_cat q r
    show pieces (b :: (r ++ 32 :: q)) = _
    by_cases hb : b = 32
    · rw [pieces, if_pos hb, ih, pieces, if_pos hb]; rfl
    · rw [pieces, if_neg hb, ih, pieces, if_neg hb]
      cases hp : pieces r with
      | nil => exact absurd hp (pieces_ne r)
      | cons p0 t => rfl
theorem words_cat (p q : List UInt8) : wordsL (p ++ 32 :: q) = wordsL p ++ wordsL q := by
  unfold wordsL; rw [pieces_cat, List.filter_append]
theorem words_pad (a w : ByteArray) : wordsL (a ++ padW w).data.toList = wordsL a.data.toList ++ wordsL w.data.toList := by
  unfold padW
  cases h : (w.data.toList == []) with
  | true =>
    have h' : w.data.toList = [] := by simpa using h
    rw [cond_true, app_nil, h']; show _ = _ ++ []; rw [List.append_nil]
  | false =>
    rw [cond_false, app_list, app_list, bs_list]
    exact words_cat _ _
theorem word_one {l : List UInt8} (h : 32 ∉ l) (hn : l ≠ []) : wordsL l = [l] := by rw [words_none h, if_neg hn]
theorem dig_no {l : List UInt8} (h : l.all digB = true) : 32 ∉ l := fun hm => absurd (List.all_eq_true.1 h 32 hm) (by decide)
theorem dd_no (n : Nat) : 32 ∉ Lib.decDigits n := dig_no (dd_all n n (Nat.le_refl _))
theorem itoa_no32 (n : Int) : 32 ∉ Lib.itoa n := by
  unfold Lib.itoa
  split
  · intro h
    rcases List.mem_cons.1 h with h | h
    · exact absurd h (by decide)
    · exact dd_no _ h
  · exact dd_no _
theorem itoa_ne (n : Int) : Lib.itoa n ≠ [] := by
  unfold Lib.itoa; split
  · simp
  · exact dd_ne _
theorem cons_no {c : UInt8} {l : List UInt8} (hc : c ≠ 32) (h : 32 ∉ l) : 32 ∉ c :: l := fun hm => by
  rcases List.mem_cons.1 hm with e | e
  · exact hc e.symm
  · exact h e
theorem itoa_pos {n : Int} (h : 0 ≤ n) : Lib.itoa n = Lib.decDigits n.toNat := by unfold Lib.itoa; rw [if_neg (by omega)]
theorem parse_itoa {n : Int} (h : -2147483648 ≤ n ∧ n ≤ 2147483647) : parseW (Lib.itoa n) = (n, 0) := by
  unfold Lib.itoa
  by_cases hn : n < 0
  · rw [if_pos hn]
    have hz : (Lib.decDigits n.natAbs == [48]) = false := by
      rw [beq_eq_false_iff_ne]; intro e
      have h1 := val_dd (n := n.natAbs)
      rw [e] at h1
      have : valN 0 [48] = 0 := rfl
      omega
    show wordOf true (Lib.decDigits n.natAbs) = _
    rw [wordOf_fin plain_dd (by rw [hz]; rfl), val_dd]
    unfold finW
    rw [if_pos rfl, show -(n.natAbs : Int) = n by omega, fine_iff.2 h]; rfl
  · rw [if_neg hn]
    have h45 : ((Lib.decDigits n.toNat).take 1 == [45]) = false := by
      cases hq : ((Lib.decDigits n.toNat).take 1 == [45]) with
      | false => rfl
      | true => have := minus_plain hq; rw [plain_dd] at this; cases this
    rw [parseW_neg h45, plain_dd, val_dd, cond_true, decide_eq_true (by omega), cond_true]
    congr 1; omega
theorem mark_dd (m : List UInt8) {n : Int} (h : 0 ≤ n ∧ n ≤ 255) : markW m (m ++ Lib.decDigits n.toNat) = (n, 0) := by
  unfold markW
  have hp : m.isPrefixOf (m ++ Lib.decDigits n.toNat) = true := by rw [take_prefix, List.take_left]; exact beq_self_eq_true _
  rw [hp, List.drop_left, plain_dd, val_dd, cond_true, cond_true]
  congr 1
  unfold held; split <;> omega
theorem ends_in {c n : Int} (h45 : (c == 45) = false) (h : wrongR c n = 0) (he : ref11_ends.t c = ref10_ends.t c) : decide (n < (ref11_ends.t c).1) = false ∧ decide (n > (ref11_ends.t c).2) = false := by
  have := (wr_lo h45).1 h
  rw [he]
  exact ⟨decide_eq_false (by omega), decide_eq_false (by omega)⟩
theorem oneR_ok {c n : Int} (hc : c = 114 ∨ c = 116 ∨ c = 99 ∨ c = 98 ∨ c = 112 ∨ c = 107 ∨ c = 109 ∨ c = 110 ∨ c = 115) (hw : wrongR c n = 0) {w : ByteArray} (hv : rvalW c w.data.toList = (n, 0)) (i : Nat) (r : List ByteArray) (v : List Int) : oneR c i w r v = (0, r, v.set i n) := by
  obtain ⟨e1, e2, e3, e4, e5, e6⟩ := ends_same hc
  obtain ⟨d1, d2⟩ := ends_in e3 hw e1
  unfold oneR
  rw [e6, cond_false, hv]
  simp only [show ((0 : Int) != 0) = false from rfl, cond_false, d1, d2]
theorem rval_word {x : In} {c n : Int} (hn : 0 ≤ n ∧ n ≤ 255) (hw : wrongR c n = 0) (hc : c = 114 ∨ c = 116 ∨ c = 99 ∨ c = 98 ∨ c = 112 ∨ c = 107 ∨ c = 109 ∨ c = 110 ∨ c = 115) : rvalW c (wordI x c n).data.toList = (n, 0) ∧ wordsL (wordI x c n).data.toList = [(wordI x c n).data.toList] := by
  have hm := fun m => mark_dd m hn
  have ht := txt_nn hn.1
  have hd := dd_no n.toNat
  have hne := dd_ne n.toNat
  unfold rvalW wordI
  rcases hc with rfl | rfl | rfl | rfl | rfl | rfl | rfl | rfl | rfl
  case inr.inr.inr.inr.inr.inr.inl =>
    have := wrongR_109 hw
    obtain rfl | rfl | rfl : n = 0 ∨ n = 1 ∨ n = 2 := by omega
    all_goals exact ⟨rfl, rfl⟩
  case inr.inl =>
    simp only [Int.reduceBEq, cond_true, cond_false, app_list, bs_list, ht]
    exact ⟨hm [64], word_one (cons_no (by decide) hd) (by simp)⟩
  case inr.inr.inr.inr.inr.inr.inr.inl =>
    simp only [Int.reduceBEq, cond_true, cond_false, ht]
    exact ⟨hm [], word_one hd hne⟩
  case inr.inr.inr.inr.inr.inr.inr.inr =>
    simp only [Int.reduceBEq, cond_true, cond_false, ht]
    exact ⟨hm [], word_one hd hne⟩
  case inl => simp only [Int.reduceBEq, cond_true, cond_false, app_list, ht]; exact ⟨hm [114], word_one (cons_no (by decide) hd) (by simp [of1])⟩
  case inr.inr.inl => simp only [Int.reduceBEq, cond_true, cond_false, app_list, ht]; exact ⟨hm [99], word_one (cons_no (by decide) hd) (by simp [of1])⟩
  case inr.inr.inr.inl => simp only [Int.reduceBEq, cond_true, cond_false, app_list, ht]; exact ⟨hm [98], word_one (cons_no (by decide) hd) (by simp [of1])⟩
  case inr.inr.inr.inr.inl => simp only [Int.reduceBEq, cond_true, cond_false, app_list, ht]; exact ⟨hm [112], word_one (cons_no (by decide) hd) (by simp [of1])⟩
  case inr.inr.inr.inr.inr.inl => simp only [Int.reduceBEq, cond_true, cond_false, app_list, ht]; exact ⟨hm [107], word_one (cons_no (by decide) hd) (by simp [of1])⟩
/-- A step over what was written. -/
theorem step_word {x : In} {c n : Int} (hn : 0 ≤ n ∧ n ≤ 255) (hw : wrongR c n = 0) (hc : c = 45 ∨ c = 114 ∨ c = 116 ∨ c = 99 ∨ c = 98 ∨ c = 112 ∨ c = 107 ∨ c = 109 ∨ c = 110 ∨ c = 103 ∨ c = 115) {i : Nat} {v : List Int} (h45 : c = 45 → v.set i n = v) {rest : List ByteArray} (h103 : c = 103 → rest = []) :
    stepR c i v ((wordsL (wordI x c n).data.toList).map bs ++ rest) = (0, rest, v.set i n) := by
  have gen : ∀ (hv : c = 114 ∨ c = 116 ∨ c = 99 ∨ c = 98 ∨ c = 112 ∨ c = 107 ∨ c = 109 ∨ c = 110 ∨ c = 115), stepR c i v ((wordsL (wordI x c n).data.toList).map bs ++ rest) = (0, rest, v.set i n) := fun hv => by
    obtain ⟨r1, r2⟩ := rval_word (x := x) hn hw hv
    obtain ⟨e1, e2, e3, e4, e5, e6⟩ := ends_same hv
    rw [r2]
    unfold stepR
    rw [e3, e4, cond_false, cond_false]
    show (bif c == 103 then _ else oneR c i (bs (wordI x c n).data.toList) rest v) = _
    rw [e5, cond_false, oneR_ok hv hw (by rw [bs_list]; exact r1)]
  rcases hc with rfl | h | h | h | h | h | h | h | h | rfl | h
  · rw [h45 rfl]; rfl
  case inr.inr.inr.inr.inr.inr.inr.inr.inr.inl =>
    rw [h103 rfl, List.append_nil]
    by_cases h8 : n = 8
    · subst h8; rfl
    · have hwd : (wordI x 103 n).data.toList = [105, 102] ++ 32 :: ([114] ++ Lib.decDigits n.toNat) := by
        unfold wordI
        simp only [Int.reduceBEq, cond_true, cond_false, beq_eq_false_iff_ne.2 h8, app_list, bs_list, txt_nn hn.1]
        rfl
      have hws : wordsL (wordI x 103 n).data.toList = [[105, 102], [114] ++ Lib.decDigits n.toNat] := by
        rw [hwd, words_cat, word_one (l := [114] ++ Lib.decDigits n.toNat) (cons_no (by decide) (dd_no _)) (by simp)]; rfl
      have hr : rvalW 103 ([114] ++ Lib.decDigits n.toNat) = (n, 0) := mark_dd [114] hn
      have hle := (wr_lo (c := 103) rfl).1 hw
      have hle2 : n ≤ 8 := hle.2
      rw [hws]
      show oneR 103 i (bs ([114] ++ Lib.decDigits n.toNat)) [] v = _
      unfold oneR
      rw [bs_list, hr]
      simp only [Int.reduceBEq, cond_false, show ((0 : Int) != 0) = false from rfl, show ref11_ends.t 103 = (0, 7) from rfl, decide_eq_false (show ¬ n < 0 by omega), decide_eq_false (show ¬ n > 7 by omega)]
  all_goals exact gen (by simp [h])
end Go.Proofs.YtmmooplcdkmapaaGreatDoor.K

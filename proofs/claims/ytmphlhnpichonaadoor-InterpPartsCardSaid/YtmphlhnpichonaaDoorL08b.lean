/- Words, plainly: sums and their like; a text is read again. -/
import Derived.Test.YtmphlhnpichonaaDoorL08a
import Derived.Test.YtmphlhnpichonaaDoorKF
import Derived.KernelRfl
set_option maxRecDepth 100000
set_option linter.unusedVariables false
set_option linter.unusedSimpArgs false
namespace Go.Proofs.YtmphlhnpichonaaDoor.K
open Go

/-- A number, wrapped to a word. -/
def bm (x : Int) : Int := (x + 2147483648) % 4294967296 - 2147483648
theorem w32 (x : Int) : IntKind.wrap .i32 x = bm x := by
  have : IntKind.wrap .i32 x = if x % 4294967296 < 2147483648 then x % 4294967296 else x % 4294967296 - 4294967296 := by
    simp [IntKind.wrap, IntKind.bits, IntKind.signed, IntKind.min, IntKind.max]
    split <;> split <;> omega
  rw [this]
  unfold bm
  split <;> omega
theorem bm_range (x : Int) : -2147483648 ≤ bm x ∧ bm x ≤ 2147483647 := by unfold bm; omega
theorem bm_fine {x : Int} (h : -2147483648 ≤ x ∧ x ≤ 2147483647) : bm x = x := by unfold bm; omega
theorem wrap_t (x : Int) : word_Wrap.t x = bm x := by
  unfold word_Wrap.t
  have := bm_range x
  rw [w32, wrapN ⟨by omega, by omega⟩]
theorem w64 (x : Int) : IntKind.wrap .i64 x = (x + 9223372036854775808) % 18446744073709551616 - 9223372036854775808 := by
  have : IntKind.wrap .i64 x = if x % 18446744073709551616 < 9223372036854775808 then x % 18446744073709551616 else x % 18446744073709551616 - 18446744073709551616 := by
    simp [IntKind.wrap, IntKind.bits, IntKind.signed, IntKind.min, IntKind.max]
    split <;> split <;> omega
  rw [this]
  split <;> omega
theorem bm_w64 (x : Int) : bm (IntKind.wrap .i64 x) = bm x := by rw [w64]; unfold bm; omega

theorem do_add {a b : Int} (ha : word_Fine.t a = true) (hb : word_Fine.t b = true) : word_Do.u 1 a b = some (bm (a + b), 0) := by
  unfold word_Do.u word_Do.s word_reckoned.u word_reckoned.s
  simp [ha, hb, wrap_t, bm_w64]
theorem do_sub {a b : Int} (ha : word_Fine.t a = true) (hb : word_Fine.t b = true) : word_Do.u 2 a b = some (bm (a - b), 0) := by
  unfold word_Do.u word_Do.s word_reckoned.u word_reckoned.s
  simp [ha, hb, wrap_t, bm_w64]
theorem do_mul {a b : Int} (ha : word_Fine.t a = true) (hb : word_Fine.t b = true) : word_Do.u 3 a b = some (bm (a * b), 0) := by
  unfold word_Do.u word_Do.s word_reckoned.u word_reckoned.s
  simp [ha, hb, wrap_t, bm_w64]
theorem do_div {a b : Int} (ha : word_Fine.t a = true) (hb : word_Fine.t b = true) (h0 : b ≠ 0) : word_Do.u 4 a b = some (bm (Int.tdiv a b), 0) := by
  unfold word_Do.u word_Do.s word_reckoned.u word_reckoned.s
  simp [ha, hb, wrap_t, bm_w64, beq_eq_false_iff_ne.2 h0]
theorem do_rem {a b : Int} (ha : word_Fine.t a = true) (hb : word_Fine.t b = true) (h0 : b ≠ 0) : word_Do.u 5 a b = some (bm (Int.tmod a b), 0) := by
  unfold word_Do.u word_Do.s word_reckoned.u word_reckoned.s
  simp [ha, hb, wrap_t, bm_w64, beq_eq_false_iff_ne.2 h0]

theorem alive08 : law08_alive.u = some true := by kernel_rfl

/-! ### A text is read again -/
def digB (b : UInt8) : Bool := decide (48 ≤ b.toNat) && decide (b.toNat ≤ 57)
theorem dig_ofNat {d : Nat} (h : d < 10) : (UInt8.ofNat (48 + d)).toNat = 48 + d := by
  rw [UInt8.toNat_ofNat']
  omega
theorem dd_all : ∀ (n u : Nat), u ≤ n → (Lib.decDigits u).all digB = true
  | n, u, h => by
    rw [Lib.decDigits]
    split
    · rename_i hu
      simp only [List.all_cons, List.all_nil, Bool.and_true, digB]
      rw [dig_ofNat hu]; simp; omega
    · rename_i hu
      match n, h with
      | 0, h => omega
      | n + 1, h =>
        rw [List.all_append, dd_all n (u / 10) (by omega)]
        simp only [List.all_cons, List.all_nil, Bool.and_true, Bool.true_and, digB]
        rw [dig_ofNat (by omega)]; simp; omega
theorem decFrom_append : ∀ (l r : List UInt8) (acc m : Nat), Lib.decFrom acc l = some m → Lib.decFrom acc (l ++ r) = Lib.decFrom m r
  | [], r, acc, m, h => by cases h; rfl
  | b :: l, r, acc, m, h => by
    simp only [List.cons_append, Lib.decFrom] at h ⊢
    cases hd : Lib.digitVal b with
    | none => rw [hd] at h; cases h
    | some d =>
      rw [hd] at h
      simp only at h ⊢
      exact decFrom_append l r _ m h
theorem decFrom_dd : ∀ (n u : Nat), u ≤ n → Lib.decFrom 0 (Lib.decDigits u) = some u
  | n, u, h => by
    rw [Lib.decDigits]
    have dv : ∀ d, d < 10 → Lib.digitVal (UInt8.ofNat (48 + d)) = some d := by
      intro d hd
      unfold Lib.digitVal
      rw [dig_ofNat hd, if_pos (by omega)]
      congr 1; omega
    split
    · rename_i hu
      unfold Lib.decFrom
      rw [dv u hu]
      simp [Lib.decFrom]
    · rename_i hu
      match n, h with
      | 0, h => omega
      | n + 1, h =>
        rw [decFrom_append _ _ _ _ (decFrom_dd n (u / 10) (by omega))]
        unfold Lib.decFrom
        rw [dv (u % 10) (by omega)]
        simp only [Lib.decFrom]
        congr 1; omega
theorem dd_head : ∀ (n u : Nat), u ≤ n → 0 < u → ∃ b r, Lib.decDigits u = b :: r ∧ b ≠ 48 ∧ digB b = true
  | n, u, h, h0 => by
    rw [Lib.decDigits]
    split
    · rename_i hu
      refine ⟨_, [], rfl, ?_, ?_⟩
      · intro e
        have := dig_ofNat hu
        rw [e] at this
        have h48 : (48 : UInt8).toNat = 48 := rfl
        omega
      · unfold digB; rw [dig_ofNat hu]; simp; omega
    · rename_i hu
      match n, h with
      | 0, h => omega
      | n + 1, h =>
        obtain ⟨b, r, e, h1, h2⟩ := dd_head n (u / 10) (by omega) (by omega)
        exact ⟨b, r ++ _, by rw [e]; rfl, h1, h2⟩
theorem dd_zero : Lib.decDigits 0 = [48] := by rw [Lib.decDigits, dif_pos (by omega)]; rfl
theorem dd_short {u : Nat} (h : u ≤ 2147483648) : (Lib.decDigits u).length ≤ 10 := by
  have step : ∀ {u k : Nat}, u < 10 ^ (k + 1) → (Lib.decDigits u).length ≤ k + 1 := by
    intro u k
    induction k generalizing u with
    | zero => intro hu; rw [Lib.decDigits, dif_pos (by omega)]; simp
    | succ k ih =>
      intro hu
      rw [Lib.decDigits]
      split
      · simp
      · have := @ih (u / 10) (by rw [Nat.pow_succ] at hu; omega)
        simp only [List.length_append, List.length_singleton]; omega
  exact step (k := 9) (by omega)

theorem whole_dd {s : ByteArray} {u : Nat} (h : s.data.toList = Lib.decDigits u) (hs : s.size ≤ 100) : word_whole.u s = some true := by
  unfold word_whole.u word_whole.w
  have hl : (bytesI s).length = s.size := bytesI_len s
  rw [dec_len (show (bytesI s).length ≤ 100 by omega) (by decide), cond_true]
  have key : ∀ (l : List UInt8), l.all digB = true → word_whole.g0 s (bytesI s) some (l.map fun b => (b.toNat : Int)) = word_whole.g0 s (bytesI s) some [] := by
    intro l
    induction l with
    | nil => intro _; rfl
    | cons b l ih =>
      intro hb
      simp only [List.all_cons, Bool.and_eq_true, digB, decide_eq_true_eq] at hb
      rw [List.map_cons]
      simp only [word_whole.g0]
      rw [decide_eq_false (show ¬ ((b.toNat : Int) < 48) by omega), decide_eq_false (show ¬ ((b.toNat : Int) > 57) by omega)]
      exact ih hb.2
  have hb : bytesI s = (Lib.decDigits u).map fun b => (b.toNat : Int) := by unfold bytesI; rw [h]
  have := key (Lib.decDigits u) (dd_all u u (Nat.le_refl _))
  rw [← hb] at this
  rw [this]
  simp only [word_whole.g0, bs_list, h]
  rcases Nat.eq_zero_or_pos u with rfl | h0
  · rw [dd_zero]; rfl
  · obtain ⟨b, r, e, h1, h2⟩ := dd_head u u (Nat.le_refl _) h0
    have hne : ((b :: r) == [48]) = false := by simp [h1]
    have hz : idxOK 0 s.size = true := idxOK_of (by omega) (by rw [size_list, h, e]; simp)
    have hb0 : bAt s 0 = (b.toNat : Int) := by unfold bAt; rw [h, e]; rfl
    have hb1 : (bAt s 0 != 48) = true := by
      rw [hb0]
      simp only [bne_iff_ne, ne_eq]
      intro e2
      apply h1
      apply UInt8.toNat_inj.1
      have h48 : (48 : UInt8).toNat = 48 := rfl
      omega
    rw [e, hne]
    simp only [cond_false, hz, cond_true, hb1, show ((b :: r) == ([] : List UInt8)) = false from rfl, Bool.not_false]

theorem atoi_dd {s : ByteArray} {u : Nat} (h : s.data.toList = Lib.decDigits u) (hs : s.size ≤ 18) : strconv_Atoi.u s = some ((u : Int), .nilIface) := by
  unfold strconv_Atoi.u
  rw [decide_eq_true hs, cond_true, h]
  have ha : Lib.atoi (Lib.decDigits u) = some (u : Int) := by
    have hd : Lib.decNat (Lib.decDigits u) = some u := by
      unfold Lib.decNat
      rcases Nat.eq_zero_or_pos u with rfl | h0
      · rw [dd_zero]; rfl
      · obtain ⟨b, r, e, _⟩ := dd_head u u (Nat.le_refl _) h0
        rw [e]
        have := decFrom_dd u u (Nat.le_refl _)
        rw [e] at this
        simpa using this
    have hall := dd_all u u (Nat.le_refl _)
    cases hl : Lib.decDigits u with
    | nil => rw [hl] at hd; cases hd
    | cons b r =>
      rw [hl] at hd hall
      simp only [List.all_cons, Bool.and_eq_true, digB, decide_eq_true_eq] at hall
      have n45 : (b == 45) = false := by
        rw [beq_eq_false_iff_ne]; rintro rfl; simp at hall
      have n43 : (b == 43) = false := by
        rw [beq_eq_false_iff_ne]; rintro rfl; simp at hall
      unfold Lib.atoi
      simp only [n45, n43, hd, Bool.false_eq_true, if_false, Option.map_some]
  rw [ha]; rfl

theorem sub1_list (s : ByteArray) : (subS (some 1) none s).data.toList = s.data.toList.drop 1 := by
  show (s.extract 1 s.size).data.toList = _
  have e : (s.extract 1 s.size).data.toList = (s.data.toList.drop 1).take (s.size - 1) := by simp
  rw [e, List.take_of_length_le (by rw [List.length_drop, size_list]; exact Nat.le_refl _)]
theorem sub_none1 (s : ByteArray) : (subS none (some 1) s).data.toList = s.data.toList.take 1 := by
  show (s.extract 0 1).data.toList = _
  simp

theorem cut_u (s : ByteArray) : strings_CutPrefix.u s (bs [45]) = some (bif s.data.toList.take 1 == [45] then (subS (some 1) none s, true) else (s, false)) := by
  unfold strings_CutPrefix.u strings_CutPrefix.s internal_stringslite_CutPrefix.u internal_stringslite_CutPrefix.s internal_stringslite_HasPrefix.u internal_stringslite_HasPrefix.s
  have hs1 : ((bs [45]).size : Int) = 1 := rfl
  simp only [hs1]
  by_cases hz : (s.size : Int) ≥ 1
  · have c1 : subC none (some 1) s.size = true := by simp [subC]; omega
    have c2 : subC (some 1) none s.size = true := by simp [subC]; omega
    simp only [hz, decide_true, cond_true, c1, c2, bs_list, sub_none1, Option.bind_some]
    cases (s.data.toList.take 1 == [45]) <;> rfl
  · have h0 : s.data.toList = [] := by
      have := size_list s
      exact List.eq_nil_of_length_eq_zero (by omega)
    simp only [hz, decide_false, cond_false, Option.bind_some, Bool.not_false, cond_true, h0]
    rfl

theorem parse_txt {n : Int} (h : word_Fine.t n = true) : word_Parse.u (txt n) = some (n, 0) := by
  have hf := fine_iff.1 h
  unfold word_Parse.u word_Parse.s
  rw [cut_u, txt_list]
  unfold Lib.itoa
  by_cases hn : n < 0
  · rw [if_pos hn]
    have e1 : ((45 :: Lib.decDigits n.natAbs).take 1 == [45]) = true := by simp
    have e2 : (subS (some 1) none (txt n)).data.toList = Lib.decDigits n.natAbs := by
      rw [sub1_list, txt_list]
      unfold Lib.itoa
      rw [if_pos hn]; rfl
    have e3 : (subS (some 1) none (txt n)).size ≤ 10 := by
      rw [size_list, e2]; exact dd_short (by omega)
    rw [e1]
    simp only [cond_true, Option.bind_some, whole_dd e2 (by omega), Bool.not_true, cond_false, bs_list, e2]
    have hne : (Lib.decDigits n.natAbs == [48]) = false := by
      obtain ⟨b, r, e, h1, _⟩ := dd_head n.natAbs n.natAbs (Nat.le_refl _) (by omega)
      rw [e]; simp [h1]
    have hle : decide (((subS (some 1) none (txt n)).size : Int) ≤ 10) = true := decide_eq_true (by omega)
    simp only [hne, hle, cond_true, cond_false, atoi_dd e2 (by omega), Option.bind_some]
    have hw : IntKind.wrap .i64 (0 - (n.natAbs : Int)) = n := by rw [wrapN ⟨by omega, by omega⟩]; omega
    rw [hw, h]; rfl
  · rw [if_neg hn]
    have e1 : ((Lib.decDigits n.toNat).take 1 == [45]) = false := by
      have hall := dd_all n.toNat n.toNat (Nat.le_refl _)
      cases hl : Lib.decDigits n.toNat with
      | nil => rfl
      | cons b r =>
        rw [hl] at hall
        simp only [List.all_cons, Bool.and_eq_true, digB, decide_eq_true_eq] at hall
        rw [List.take_succ_cons, List.take_zero, beq_eq_false_iff_ne]
        intro e
        cases e
        simp at hall
    have e2 : (txt n).data.toList = Lib.decDigits n.toNat := by
      rw [txt_list]; unfold Lib.itoa; rw [if_neg hn]
    have e3 : (txt n).size ≤ 10 := by rw [size_list, e2]; exact dd_short (by omega)
    rw [e1]
    simp only [cond_false, Option.bind_some, whole_dd e2 (by omega), Bool.not_true]
    have hle : decide (((txt n).size : Int) ≤ 10) = true := decide_eq_true (by omega)
    simp only [hle, cond_true, atoi_dd e2 (by omega), Option.bind_some]
    have hw : ((n.toNat : Nat) : Int) = n := by omega
    rw [hw, h]; rfl

theorem law_laws {a b : Int} (ha : word_Fine.t a = true) (hb : word_Fine.t b = true) : law08_WordLaws.u a b = some true := by
  have fa := fine_iff.1 ha
  have fb := fine_iff.1 hb
  have fbm : ∀ x, word_Fine.t (bm x) = true := fun x => fine_iff.2 (bm_range x)
  unfold law08_WordLaws.u law08_WordLaws.s
  have wa : IntKind.wrap .i64 a = a := wrapN ⟨by omega, by omega⟩
  have wb : IntKind.wrap .i64 b = b := wrapN ⟨by omega, by omega⟩
  have s1 : bm (bm (a + b) - b) = a := by unfold bm; omega
  simp only [wa, wb, do_add ha hb, do_add hb ha, do_sub (fbm _) hb, do_mul ha hb, do_mul hb ha, text_fine ha, parse_txt ha, Option.bind_some, bne_self_eq_false, cond_false, Int.add_comm b a, Int.mul_comm b a, s1, alive08]
  by_cases h0 : b = 0
  · simp [h0]
  · have s2 : bm (bm (bm (Int.tdiv a b) * b) + bm (Int.tmod a b)) = a := by
      have e : Int.tdiv a b * b + Int.tmod a b = a := by rw [Int.mul_comm]; exact Int.mul_tdiv_add_tmod a b
      have e1 : bm (bm (bm (Int.tdiv a b) * b) + bm (Int.tmod a b)) = bm (Int.tdiv a b * b + Int.tmod a b) := by
        have q : ∃ k, bm (Int.tdiv a b) = Int.tdiv a b + 4294967296 * k := ⟨(bm (Int.tdiv a b) - Int.tdiv a b) / 4294967296, by unfold bm; omega⟩
        obtain ⟨k, hk⟩ := q
        rw [hk, Int.add_mul]
        generalize Int.tdiv a b * b = X
        generalize Int.tmod a b = Y
        rw [Int.mul_assoc]
        generalize k * b = Z
        unfold bm
        omega
      rw [e1, e, bm_fine fa]
    simp only [beq_eq_false_iff_ne.2 h0, cond_false, do_div ha hb h0, do_rem ha hb h0, do_mul (fbm _) hb, do_add (fbm _) (fbm _), Option.bind_some, beq_self_eq_true, cond_true, s2]
theorem row_WordLaws (xs : Args [.int .i32, .int .i32]) (h : fitsA _ xs) : law08_WordLaws.u xs.1 xs.2.1 = some true := by
  have h1 := bounds_i32 (show (Lit.int .i32 xs.1).wf = true from h.1)
  have h2 := bounds_i32 (show (Lit.int .i32 xs.2.1).wf = true from h.2.1)
  exact law_laws (fine_iff.2 ⟨h1.1, h1.2⟩) (fine_iff.2 ⟨h2.1, h2.2⟩)
end Go.Proofs.YtmphlhnpichonaaDoor.K

/- Handles, plainly: the laws Reads, Back. -/
import Derived.Test.YtmmooplcdkmapaaGreatDoorL01b
set_option maxRecDepth 100000
set_option linter.unusedVariables false
set_option linter.unusedSimpArgs false
namespace Go.Proofs.YtmmooplcdkmapaaGreatDoor.K
open Go

/-- Where a byte stands first. -/
def fstI (c : UInt8) (l : List UInt8) : Nat := l.findIdx (· == c)
theorem ixb (c : UInt8) : ∀ l : List UInt8, Lib.indexByte l c = if fstI c l < l.length then ((fstI c l : Nat) : Int) else -1
  | [] => rfl
  | b :: r => by
    have ih := ixb c r
    unfold Lib.indexByte
    unfold fstI at ih ⊢
    rw [List.findIdx_cons]
    cases hb : (b == c) with
    | true => simp
    | false =>
      simp only [Bool.false_eq_true, if_false, cond_false, List.length_cons, Nat.add_lt_add_iff_right]
      rw [ih]
      split
      · rw [if_neg (by simp)]; omega
      · simp
theorem fstI_at {c : UInt8} {l : List UInt8} (h : fstI c l < l.length) : l[fstI c l]? = some c := by
  unfold fstI at h ⊢
  have := List.findIdx_getElem (w := h)
  rw [List.getElem?_eq_getElem h]
  simp only [beq_iff_eq] at this
  rw [this]
theorem fstI_lt {c : UInt8} {l : List UInt8} {i : Nat} (h : i < fstI c l) : l[i]? ≠ some c := by
  unfold fstI at h
  intro e
  obtain ⟨hl, e⟩ := List.getElem?_eq_some_iff.1 e
  have := List.not_of_lt_findIdx h
  simp only [e, beq_self_eq_true] at this
  exact absurd this (by simp)

theorem index_u (s : ByteArray) (c : UInt8) : internal_stringslite_Index.u s (bs [c]) = some (Lib.indexByte s.data.toList c) := by
  unfold internal_stringslite_Index.u internal_stringslite_Index.s
  have z : ((bs [c]).size : Int) = 1 := rfl
  simp only [z, show ((1 : Int) == 0) = false from rfl, cond_false, bs_list, show ((1 : Int) == 1) = true from rfl, cond_true]
  by_cases h : [c] = s.data.toList
  · rw [← h, beq_self_eq_true, cond_true, ixb]
    simp [fstI]
  · rw [beq_eq_false_iff_ne.2 h, cond_false]
    have i0 : idxOK 0 (bs [c]).size = true := rfl
    rw [i0, cond_true]
    unfold internal_stringslite_IndexByte.t
    have : (bAt (bs [c]) 0).toNat.toUInt8 = c := by
      unfold bAt
      show ((c.toNat : Int)).toNat.toUInt8 = c
      simp
    rw [this]
/-- A text cut at a byte. -/
def cutF (s : ByteArray) (c : UInt8) : ByteArray × ByteArray × Bool :=
  if fstI c s.data.toList < s.size then (subS none (some ((fstI c s.data.toList : Nat) : Int)) s, subS (some (((fstI c s.data.toList + 1 : Nat)) : Int)) none s, true) else (s, bs [], false)
theorem cut1_u {s : ByteArray} (hs : s.size ≤ 1000000) (c : UInt8) : strings_Cut.u s (bs [c]) = some (cutF s c) := by
  unfold strings_Cut.u strings_Cut.s internal_stringslite_Cut.u internal_stringslite_Cut.s cutF
  rw [index_u, ixb, ← size_list]
  have z : ((bs [c]).size : Int) = 1 := rfl
  by_cases h : fstI c s.data.toList < s.size
  · rw [if_pos h, if_pos h]
    have e1 : IntKind.wrap .i64 (((fstI c s.data.toList : Nat) : Int) + 1) = ((fstI c s.data.toList + 1 : Nat) : Int) := by rw [wrapN ⟨by omega, by omega⟩]; omega
    have c1 : subC none (some ((fstI c s.data.toList : Nat) : Int)) s.size = true := by simp [subC]; omega
    have c2 : subC (some ((fstI c s.data.toList + 1 : Nat) : Int)) none s.size = true := by simp [subC]; omega
    simp only [Option.bind_some, z, e1, c1, c2, cond_true, decide_eq_true (show ((fstI c s.data.toList : Nat) : Int) ≥ 0 by omega)]
  · rw [if_neg h, if_neg h]
    rfl

/-- The handle of a text. -/
def parseF (s : ByteArray) : Int × Int :=
  if fstI 46 s.data.toList < s.size then
    bif plainF (subS none (some ((fstI 46 s.data.toList : Nat) : Int)) s).data.toList then
      bif plainF (subS (some (((fstI 46 s.data.toList + 1 : Nat)) : Int)) none s).data.toList then
        mkH (held (valN 0 (subS none (some ((fstI 46 s.data.toList : Nat) : Int)) s).data.toList)) (held (valN 0 (subS (some (((fstI 46 s.data.toList + 1 : Nat)) : Int)) none s).data.toList))
      else (0, 3)
    else (0, 3)
  else (0, 3)
theorem sub_size_to (s : ByteArray) {i : Nat} (h : i ≤ s.size) : (subS none (some (i : Int)) s).size ≤ s.size := by
  show (s.extract 0 _).size ≤ _
  rw [ByteArray.size_extract]
  show min (Int.toNat (i : Int)) s.size - 0 ≤ _
  omega
theorem sub_size_from (s : ByteArray) (i : Nat) : (subS (some (i : Int)) none s).size ≤ s.size := by
  show (s.extract _ s.size).size ≤ _
  rw [ByteArray.size_extract]
  omega
theorem plain_dd {n : Nat} : plainF (Lib.decDigits n) = true := by
  unfold plainF
  rw [dd_all n n (Nat.le_refl _)]
  rcases Nat.eq_zero_or_pos n with rfl | h
  · rw [dd_zero]; rfl
  · obtain ⟨b, r, e, h1, h2⟩ := dd_head n n (Nat.le_refl _) h
    rw [e]
    simp [h1]
theorem val_dd {n : Nat} : valN 0 (Lib.decDigits n) = n := by
  have h1 := decFrom_val (Lib.decDigits n) 0 (dd_all n n (Nat.le_refl _))
  rw [decFrom_dd n n (Nat.le_refl _)] at h1
  exact (Option.some.inj h1).symm
theorem no_dot {l : List UInt8} (h : l.all digB = true) (r : List UInt8) : fstI 46 (l ++ 46 :: r) = l.length := by
  induction l with
  | nil => rfl
  | cons b l ih =>
    simp only [List.all_cons, Bool.and_eq_true] at h
    have hb : (b == 46) = false := by
      rw [beq_eq_false_iff_ne]
      rintro rfl
      exact absurd h.1 (by decide)
    have := ih h.2
    unfold fstI at this ⊢
    rw [List.cons_append, List.findIdx_cons, hb, cond_false, this, List.length_cons]
theorem sub_to_list (s : ByteArray) {i : Nat} : (subS none (some (i : Int)) s).data.toList = s.data.toList.take i := by
  show (s.extract 0 (Int.toNat (i : Int))).data.toList = _
  simp
theorem sub_from_list (s : ByteArray) {i : Nat} : (subS (some (i : Int)) none s).data.toList = s.data.toList.drop i := by
  show (s.extract (Int.toNat (i : Int)) s.size).data.toList = _
  have e : (s.extract (Int.toNat (i : Int)) s.size).data.toList = (s.data.toList.drop i).take (s.size - i) := by simp
  rw [e, List.take_of_length_le (by rw [List.length_drop, size_list]; exact Nat.le_refl _)]
theorem parse_text {a b : Int} (ha : 0 ≤ a ∧ a ≤ 4095) (hb : 1 ≤ b ∧ b ≤ 65535) : parseF ((txt a ++ bs [46]) ++ txt b) = (b * 4096 + a, 0) := by
  have hl : ((txt a ++ bs [46]) ++ txt b).data.toList = Lib.decDigits a.toNat ++ 46 :: Lib.decDigits b.toNat := by
    rw [app_list, app_list, txt_nn ha.1, txt_nn (by omega : 0 ≤ b), bs_list, List.append_assoc]; rfl
  have hi : fstI 46 ((txt a ++ bs [46]) ++ txt b).data.toList = (Lib.decDigits a.toNat).length := by rw [hl]; exact no_dot (dd_all _ _ (Nat.le_refl _)) _
  unfold parseF
  rw [hi, sub_to_list, sub_from_list, size_list, hl]
  have t1 : (Lib.decDigits a.toNat ++ 46 :: Lib.decDigits b.toNat).take (Lib.decDigits a.toNat).length = Lib.decDigits a.toNat := List.take_left
  have t2 : (Lib.decDigits a.toNat ++ 46 :: Lib.decDigits b.toNat).drop ((Lib.decDigits a.toNat).length + 1) = Lib.decDigits b.toNat := by
    rw [← List.drop_drop, List.drop_left]; rfl
  rw [t1, t2, if_pos (by simp), plain_dd, plain_dd, val_dd, val_dd]
  simp only [cond_true]
  have e1 : held a.toNat = a := by unfold held; split <;> omega
  have e2 : held b.toNat = b := by unfold held; split <;> omega
  rw [e1, e2]
  unfold mkH
  rw [if_pos (by omega)]

theorem eqB (x y : Bool) : eqI .bool x y = (x == y) := rfl
theorem u16_of {n : Int} (h : (Lit.int .u16 n).wf = true) : 0 ≤ n ∧ n ≤ 65535 := by
  simp [Lit.wf, IntKind.min, IntKind.max, IntKind.signed, IntKind.bits] at h
  omega
theorem getD_u16 {l : List Int} (h : ∀ x ∈ l, fits (.int .u16) x) (i : Nat) : 0 ≤ List.getD l i 0 ∧ List.getD l i 0 ≤ 65535 := by
  rw [List.getD_eq_getElem?_getD]
  cases hx : l[i]? with
  | none => simp
  | some x => exact u16_of (h x (List.mem_of_getElem? hx))
end Go.Proofs.YtmmooplcdkmapaaGreatDoor.K

/- Handles, plainly: the laws Reads, Back. -/
import Derived.Test.YtfihhbgppgkafaaDoorL01b
set_option maxRecDepth 100000
set_option linter.unusedVariables false
set_option linter.unusedSimpArgs false
namespace Go.Proofs.YtfihhbgppgkafaaDoor.K
open Go

/-- Where a byte stands first. -/
def fstI (c : UInt8) (l : List UInt8) : Nat := l.findIdx (· == c)
theorem ixb (c : UInt8) : ∀ l : List UInt8, Lib.indexByte l c = if fstI c l < l.length then ((fstI c l : Nat) : Int) else -1
  | [] => rfl
  | b :: r => by
    have ih := ixb c r
    unfold Lib.indexByte
    unfold fstI at ih ⊢
    rw [List.findIdx_cons]
    cases hb : (b == c) with
    | true => simp
    | false =>
      simp only [Bool.false_eq_true, if_false, cond_false, List.length_cons, Nat.add_lt_add_iff_right]
      rw [ih]
      split
      · rw [if_neg (by simp)]; omega
      · simp
theorem fstI_at {c : UInt8} {l : List UInt8} (h : fstI c l < l.length) : l[fstI c l]? = some c := by
  unfold fstI at h ⊢
  have := List.findIdx_getElem (w := h)
  rw [List.getElem?_eq_getElem h]
  simp only [beq_iff_eq] at this
  rw [this]
theorem fstI_lt {c : UInt8} {l : List UInt8} {i : Nat} (h : i < fstI c l) : l[i]? ≠ some c := by
  unfold fstI at h
  intro e
  obtain ⟨hl, e⟩ := List.getElem?_eq_some_iff.1 e
  have := List.not_of_lt_findIdx h
  simp only [e, beq_self_eq_true] at this
  exact absurd this (by simp)

theorem index_u (s : ByteArray) (c : UInt8) : internal_stringslite_Index.u s (bs [c]) = some (Lib.indexByte s.data.toList c) := by
  unfold internal_stringslite_Index.u internal_stringslite_Index.s
  have z : ((bs [c]).size : Int) = 1 := rfl
  simp only [z, show ((1 : Int) == 0) = false from rfl, cond_false, bs_list, show ((1 : Int) == 1) = true from rfl, cond_true]
  by_cases h : [c] = s.data.toList
  · rw [← h, beq_self_eq_true, cond_true, ixb]
    simp [fstI]
  · rw [beq_eq_false_iff_ne.2 h, cond_false]
    have i0 : idxOK 0 (bs [c]).size = true := rfl
    rw [i0, cond_true]
    unfold internal_stringslite_IndexByte.t
    have : (bAt (bs [c]) 0).toNat.toUInt8 = c := by
      unfold bAt
      show ((c.toNat : Int)).toNat.toUInt8 = c
      simp
    rw [this]
/-- A text cut at a byte. -/
def cutF (s : ByteArray) (c : UInt8) : ByteArray × ByteArray × Bool :=
  if fstI c s.data.toList < s.size then (subS none (some ((fstI c s.data.toList : Nat) : Int)) s, subS (some (((fstI c s.data.toList + 1 : Nat)) : Int)) none s, true) else (s, bs [], false)
theorem cut1_u {s : ByteArray} (hs : s.size ≤ 1000000) (c : UInt8) : strings_Cut.u s (bs [c]) = some (cutF s c) := by
  unfold strings_Cut.u strings_Cut.s internal_stringslite_Cut.u internal_stringslite_Cut.s cutF
  rw [index_u, ixb, ← size_list]
  have z : ((bs [c]).size : Int) = 1 := rfl
  by_cases h : fstI c s.data.toList < s.size
  · rw [if_pos h, if_pos h]
    have e1 : IntKind.wrap .i64 (((fstI c s.data.toList : Nat) : Int) + 1) = ((fstI c s.data.toList + 1 : Nat) : Int) := by rw [wrapN ⟨by omega, by omega⟩]; omega
    have c1 : subC none (some ((fstI c s.data.toList : Nat) : Int)) s.size = true := by simp [subC]; omega
    have c2 : subC (some ((fstI c s.data.toList + 1 : Nat) : Int)) none s.size = true := by simp [subC]; omega
    simp only [Option.bind_some, z, e1, c1, c2, cond_true, decide_eq_true (show ((fstI c s.data.toList : Nat) : Int) ≥ 0 by omega)]
  · rw [if_neg h, if_neg h]
    rfl

/-- The handle of a text. -/
def parseF (s : ByteArray) : Int × Int :=
  if fstI 46 s.data.toList < s.size then
    bif plainF (subS none (some ((fstI 46 s.data.toList : Nat) : Int)) s).data.toList then
      bif plainF (subS (some (((fstI 46 s.data.toList + 1 : Nat)) : Int)) none s).data.toList then
        mkH (held (valN 0 (subS none (some ((fstI 46 s.data.toList : Nat) : Int)) s).data.toList)) (held (valN 0 (subS (some (((fstI 46 s.data.toList + 1 : Nat)) : Int)) none s).data.toList))
      else (0, 3)
    else (0, 3)
  else (0, 3)
theorem hparse_u {s : ByteArray} (hs : s.size ≤ 1000000) : handle_Parse.u s = some (parseF s) := by
  unfold handle_Parse.u handle_Parse.s parseF
  rw [cut1_u hs]
  unfold cutF
  by_cases h : fstI 46 s.data.toList < s.size
  · rw [if_pos h, if_pos h]
    simp only [Option.bind_some, Bool.not_true, cond_false, hplain_t]
    cases h1 : plainF (subS none (some ((fstI 46 s.data.toList : Nat) : Int)) s).data.toList with
    | false => rfl
    | true =>
      cases h2 : plainF (subS (some (((fstI 46 s.data.toList + 1 : Nat)) : Int)) none s).data.toList with
      | false => rfl
      | true =>
        obtain ⟨v, v1, v2⟩ := number_u h1
        obtain ⟨w, w1, w2⟩ := number_u h2
        simp only [Bool.not_true, cond_false, cond_true, v1, w1, Option.bind_some, make_t, mkH_same v2 w2]
  · rw [if_neg h, if_neg h]
    rfl
theorem sub_size_to (s : ByteArray) {i : Nat} (h : i ≤ s.size) : (subS none (some (i : Int)) s).size ≤ s.size := by
  show (s.extract 0 _).size ≤ _
  rw [ByteArray.size_extract]
  show min (Int.toNat (i : Int)) s.size - 0 ≤ _
  omega
theorem sub_size_from (s : ByteArray) (i : Nat) : (subS (some (i : Int)) none s).size ≤ s.size := by
  show (s.extract _ s.size).size ≤ _
  rw [ByteArray.size_extract]
  omega
theorem rparse_go {s : ByteArray} (hs : s.size ≤ 1000000) : ∀ (d i : Nat), i + d = s.size → i ≤ fstI 46 s.data.toList → ref01_Parse.g0 s some d (i : Int) = some (parseF s)
  | 0, i, h, hi => by
    simp only [ref01_Parse.g0]
    have e : ((i : Int) == (s.size : Int)) = true := by rw [beq_iff_eq]; omega
    have hn : ¬ fstI 46 s.data.toList < s.size := by omega
    rw [e, cond_true]
    unfold parseF
    rw [if_neg hn]
  | d + 1, i, h, hi => by
    have hlt : i < s.size := by omega
    have hl : i < s.data.toList.length := by rw [← size_list]; exact hlt
    simp only [ref01_Parse.g0, idxOK_nat hlt, cond_true, Int.toNat_natCast]
    have hb : bAt s i = ((s.data.toList[i]).toNat : Int) := by
      unfold bAt
      rw [List.getD_eq_getElem?_getD, List.getElem?_eq_getElem hl]; rfl
    by_cases he : i = fstI 46 s.data.toList
    · have hat := fstI_at (c := 46) (l := s.data.toList) (by rw [← he]; exact hl)
      rw [← he, List.getElem?_eq_getElem hl] at hat
      have h46 : s.data.toList[i] = 46 := Option.some.inj hat
      have q : (bAt s i != 46) = false := by rw [hb, h46]; rfl
      have e : ((i : Int) == (s.size : Int)) = false := by rw [beq_eq_false_iff_ne]; omega
      have e1 : IntKind.wrap .i64 ((i : Int) + 1) = ((i + 1 : Nat) : Int) := by rw [wrapN ⟨by omega, by omega⟩]; omega
      have c1 : subC none (some (i : Int)) s.size = true := by simp [subC]; omega
      have c2 : subC (some ((i + 1 : Nat) : Int)) none s.size = true := by simp [subC]; omega
      rw [q, e, e1, c1, c2]
      have z1 := sub_size_to s (i := i) (by omega)
      have z2 := sub_size_from s (i + 1)
      simp only [cond_false, cond_true, rplain_u (Nat.le_trans z1 hs), rplain_u (Nat.le_trans z2 hs), Option.bind_some]
      unfold parseF
      rw [← he, if_pos hlt]
      cases h1 : plainF (subS none (some (i : Int)) s).data.toList with
      | false => rfl
      | true =>
        cases h2 : plainF (subS (some ((i + 1 : Nat) : Int)) none s).data.toList with
        | false => rfl
        | true => simp only [cond_true, Bool.not_true, cond_false, refmake_t]
    · have hne := fstI_lt (c := 46) (l := s.data.toList) (i := i) (by omega)
      rw [List.getElem?_eq_getElem hl] at hne
      have h46 : s.data.toList[i] ≠ 46 := fun e => hne (by rw [e])
      have q : (bAt s i != 46) = true := by
        rw [hb, bne_iff_ne]
        intro e
        apply h46
        apply UInt8.toNat_inj.1
        have : (46 : UInt8).toNat = 46 := rfl
        omega
      rw [q, cond_true]
      have := rparse_go hs d (i + 1) (by omega) (by omega)
      rw [show ((i + 1 : Nat) : Int) = (i : Int) + 1 by omega] at this
      exact this
theorem rparse_u {s : ByteArray} (hs : s.size ≤ 1000000) : ref01_Parse.u s = some (parseF s) := by
  unfold ref01_Parse.u ref01_Parse.w
  rw [decide_eq_true (show (s.size : Int) ≤ 4611686018427387904 by omega), cond_true]
  have := rparse_go hs s.size 0 (by omega) (by omega)
  rw [show ((s.size : Int) - 0).toNat = s.size by omega]
  exact this
theorem law_HandleReads (s : ByteArray) : law01_HandleReads.u s = some true := by
  unfold law01_HandleReads.u law01_HandleReads.s
  by_cases h : (s.size : Int) > 200
  · simp only [h, decide_true, cond_true, alive01, Option.bind_some]
  · simp only [h, decide_false, cond_false, hparse_u (show s.size ≤ 1000000 by omega), rparse_u (show s.size ≤ 1000000 by omega), Option.bind_some, beq_self_eq_true, cond_true, alive01]

/-! ### Back -/
theorem plain_dd {n : Nat} : plainF (Lib.decDigits n) = true := by
  unfold plainF
  rw [dd_all n n (Nat.le_refl _)]
  rcases Nat.eq_zero_or_pos n with rfl | h
  · rw [dd_zero]; rfl
  · obtain ⟨b, r, e, h1, h2⟩ := dd_head n n (Nat.le_refl _) h
    rw [e]
    simp [h1]
theorem val_dd {n : Nat} : valN 0 (Lib.decDigits n) = n := by
  have h1 := decFrom_val (Lib.decDigits n) 0 (dd_all n n (Nat.le_refl _))
  rw [decFrom_dd n n (Nat.le_refl _)] at h1
  exact (Option.some.inj h1).symm
theorem no_dot {l : List UInt8} (h : l.all digB = true) (r : List UInt8) : fstI 46 (l ++ 46 :: r) = l.length := by
  induction l with
  | nil => rfl
  | cons b l ih =>
    simp only [List.all_cons, Bool.and_eq_true] at h
    have hb : (b == 46) = false := by
      rw [beq_eq_false_iff_ne]
      rintro rfl
      exact absurd h.1 (by decide)
    have := ih h.2
    unfold fstI at this ⊢
    rw [List.cons_append, List.findIdx_cons, hb, cond_false, this, List.length_cons]
theorem sub_to_list (s : ByteArray) {i : Nat} : (subS none (some (i : Int)) s).data.toList = s.data.toList.take i := by
  show (s.extract 0 (Int.toNat (i : Int))).data.toList = _
  simp
theorem sub_from_list (s : ByteArray) {i : Nat} : (subS (some (i : Int)) none s).data.toList = s.data.toList.drop i := by
  show (s.extract (Int.toNat (i : Int)) s.size).data.toList = _
  have e : (s.extract (Int.toNat (i : Int)) s.size).data.toList = (s.data.toList.drop i).take (s.size - i) := by simp
  rw [e, List.take_of_length_le (by rw [List.length_drop, size_list]; exact Nat.le_refl _)]
theorem parse_text {a b : Int} (ha : 0 ≤ a ∧ a ≤ 4095) (hb : 1 ≤ b ∧ b ≤ 65535) : parseF ((txt a ++ bs [46]) ++ txt b) = (b * 4096 + a, 0) := by
  have hl : ((txt a ++ bs [46]) ++ txt b).data.toList = Lib.decDigits a.toNat ++ 46 :: Lib.decDigits b.toNat := by
    rw [app_list, app_list, txt_nn ha.1, txt_nn (by omega : 0 ≤ b), bs_list, List.append_assoc]; rfl
  have hi : fstI 46 ((txt a ++ bs [46]) ++ txt b).data.toList = (Lib.decDigits a.toNat).length := by rw [hl]; exact no_dot (dd_all _ _ (Nat.le_refl _)) _
  unfold parseF
  rw [hi, sub_to_list, sub_from_list, size_list, hl]
  have t1 : (Lib.decDigits a.toNat ++ 46 :: Lib.decDigits b.toNat).take (Lib.decDigits a.toNat).length = Lib.decDigits a.toNat := List.take_left
  have t2 : (Lib.decDigits a.toNat ++ 46 :: Lib.decDigits b.toNat).drop ((Lib.decDigits a.toNat).length + 1) = Lib.decDigits b.toNat := by
    rw [← List.drop_drop, List.drop_left]; rfl
  rw [t1, t2, if_pos (by simp), plain_dd, plain_dd, val_dd, val_dd]
  simp only [cond_true]
  have e1 : held a.toNat = a := by unfold held; split <;> omega
  have e2 : held b.toNat = b := by unfold held; split <;> omega
  rw [e1, e2]
  unfold mkH
  rw [if_pos (by omega)]

theorem eqB (x y : Bool) : eqI .bool x y = (x == y) := rfl
theorem law_HandleBack {x y : List Int} (hx : ∀ i, 0 ≤ List.getD x i 0 ∧ List.getD x i 0 ≤ 65535) (hy : ∀ i, 0 ≤ List.getD y i 0 ∧ List.getD y i 0 ≤ 65535) : law01_HandleBack.u x y = some true := by
  unfold law01_HandleBack.u law01_HandleBack.s
  have x0 := hx 0; have x1 := hx 1; have y0 := hy 0; have y1 := hy 1
  generalize List.getD x 0 0 = a0 at *; generalize List.getD x 1 0 = a1 at *; generalize List.getD y 0 0 = b0 at *; generalize List.getD y 1 0 = b1 at *
  have m1 : Int.tmod a0 4096 = a0 % 4096 := Int.tmod_eq_emod_of_nonneg (by omega)
  have m2 : Int.tmod b0 4096 = b0 % 4096 := Int.tmod_eq_emod_of_nonneg (by omega)
  rw [m1, m2, wrapN (x := a1) ⟨by omega, by omega⟩, wrapN (x := b1) ⟨by omega, by omega⟩, wrapN (x := a0 % 4096) ⟨by omega, by omega⟩, wrapN (x := b0 % 4096) ⟨by omega, by omega⟩]
  obtain ⟨s, hs⟩ : ∃ s, s = a0 % 4096 := ⟨_, rfl⟩
  obtain ⟨t, ht⟩ : ∃ t, t = b0 % 4096 := ⟨_, rfl⟩
  rw [← hs, ← ht]
  obtain ⟨g, hg⟩ : ∃ g, g = (if a1 > 1 then a1 else 1) := ⟨_, rfl⟩
  obtain ⟨u, hu⟩ : ∃ u, u = (if b1 > 1 then b1 else 1) := ⟨_, rfl⟩
  rw [← hg, ← hu]
  have g1 : 1 ≤ g ∧ g ≤ 65535 := by rw [hg]; split <;> omega
  have u1 : 1 ≤ u ∧ u ≤ 65535 := by rw [hu]; split <;> omega
  have e1 : mkH s g = (g * 4096 + s, 0) := by unfold mkH; rw [if_pos (by omega)]
  have e2 : mkH t u = (u * 4096 + t, 0) := by unfold mkH; rw [if_pos (by omega)]
  have f1 : fineH (g * 4096 + s) = true := fineH_iff.2 (by omega)
  have f2 : fineH (u * 4096 + t) = true := fineH_iff.2 (by omega)
  have d1 : (g * 4096 + s) % 4096 = s := by omega
  have d2 : (g * 4096 + s) / 4096 = g := by omega
  have d3 : (u * 4096 + t) % 4096 = t := by omega
  have d4 : (u * 4096 + t) / 4096 = u := by omega
  have hT : textH (g * 4096 + s) = ((txt s ++ bs [46]) ++ txt g, 0) := by unfold textH; rw [f1, d1, d2]; rfl
  have hsz : ((txt s ++ bs [46]) ++ txt g).size ≤ 1000000 := by
    have z1 := txt_short (n := s) (by omega) (by omega)
    have z2 := txt_short (n := g) (by omega) (by omega)
    have z3 : (bs [46]).size = 1 := rfl
    rw [ByteArray.size_append, ByteArray.size_append]; omega
  simp only [make_t, e1, e2, htext_u, hT, Option.bind_some, hparse_u hsz, parse_text (a := s) (b := g) (by omega) g1, hslot_t, hgen_t, f1, f2, d1, d2, d3, d4, cond_true, bne_self_eq_false, cond_false, eqB, beq_self_eq_true, alive01]
  by_cases hst : s = t
  · subst hst
    by_cases hgu : g = u
    · subst hgu; simp
    · have : (g * 4096 + s == u * 4096 + s) = false := by rw [beq_eq_false_iff_ne]; omega
      rw [this, beq_eq_false_iff_ne.2 hgu]; simp
  · have : (g * 4096 + s == u * 4096 + t) = false := by rw [beq_eq_false_iff_ne]; omega
    rw [this, beq_eq_false_iff_ne.2 hst]; simp

theorem u16_of {n : Int} (h : (Lit.int .u16 n).wf = true) : 0 ≤ n ∧ n ≤ 65535 := by
  simp [Lit.wf, IntKind.min, IntKind.max, IntKind.signed, IntKind.bits] at h
  omega
theorem getD_u16 {l : List Int} (h : ∀ x ∈ l, fits (.int .u16) x) (i : Nat) : 0 ≤ List.getD l i 0 ∧ List.getD l i 0 ≤ 65535 := by
  rw [List.getD_eq_getElem?_getD]
  cases hx : l[i]? with
  | none => simp
  | some x => exact u16_of (h x (List.mem_of_getElem? hx))
theorem row_HandleReads (xs : Args [.str]) (h : fitsA _ xs) : law01_HandleReads.u xs.1 = some true := law_HandleReads _
theorem row_HandleBack (xs : Args [.arr 2 (.int .u16), .arr 2 (.int .u16)]) (h : fitsA _ xs) : law01_HandleBack.u xs.1 xs.2.1 = some true := law_HandleBack (getD_u16 h.1.2) (getD_u16 h.2.1.2)
end Go.Proofs.YtfihhbgppgkafaaDoor.K

/- Events, plainly: the document's reading; EventReads. -/
import Derived.Test.YtaednhofihnfkaaDoorL28c
import Derived.KernelRfl
set_option maxRecDepth 100000
set_option linter.unusedVariables false
set_option linter.unusedSimpArgs false
namespace Go.Proofs.YtaednhofihnfkaaDoor.K
open Go

theorem bAt_get {s : ByteArray} {i : Nat} (hl : i < s.data.toList.length) : bAt s i = ((s.data.toList[i]).toNat : Int) := by
  unfold bAt
  rw [List.getD_eq_getElem?_getD, List.getElem?_eq_getElem hl]; rfl
theorem bAt_ne {s : ByteArray} {c : UInt8} {i : Nat} (hl : i < s.data.toList.length) (hi : i < fstI c s.data.toList) : (bAt s i != (c.toNat : Int)) = true := by
  have hne := fstI_lt (c := c) (l := s.data.toList) (i := i) hi
  rw [List.getElem?_eq_getElem hl] at hne
  rw [bAt_get hl, bne_iff_ne]
  intro e
  exact hne (by rw [UInt8.toNat_inj.1 (Int.ofNat.inj e)])
theorem bAt_eq {s : ByteArray} {c : UInt8} (hl : fstI c s.data.toList < s.data.toList.length) : (bAt s (fstI c s.data.toList) != (c.toNat : Int)) = false := by
  have hat := fstI_at (c := c) (l := s.data.toList) hl
  rw [List.getElem?_eq_getElem hl] at hat
  rw [bAt_get hl, Option.some.inj hat]
  simp

/-- Names, one behind the other: the last one that it is. -/
def foldK (l : List UInt8) : Nat → Nat → Evn → Evn
  | 0, _, a => a
  | d + 1, i, a => foldK l d (i + 1) (bif l == (List.getD ref28_Names.t i (bs [])).data.toList then (((i + 1 : Nat) : Int), a.2) else a)
theorem foldK_kind (l : List UInt8) : foldK l 8 0 zEv = (kindE l, (0, (0, (0, ())))) := by
  have d : ∀ a b : List UInt8, (a == b) = decide (a = b) := fun a b => by rw [Bool.eq_iff_iff]; simp
  have n0 : (List.getD ref28_Names.t 0 (bs [])).data.toList = [102, 105, 114, 101] := rfl
  have n1 : (List.getD ref28_Names.t 1 (bs [])).data.toList = [112, 97, 115, 115] := rfl
  have n2 : (List.getD ref28_Names.t 2 (bs [])).data.toList = [112, 117, 116] := rfl
  have n3 : (List.getD ref28_Names.t 3 (bs [])).data.toList = [116, 97, 107, 101] := rfl
  have n4 : (List.getD ref28_Names.t 4 (bs [])).data.toList = [98, 97, 110, 101] := rfl
  have n5 : (List.getD ref28_Names.t 5 (bs [])).data.toList = [100, 117, 101] := rfl
  have n6 : (List.getD ref28_Names.t 6 (bs [])).data.toList = [103, 111, 110, 101] := rfl
  have n7 : (List.getD ref28_Names.t 7 (bs [])).data.toList = [102, 114, 101, 101] := rfl
  unfold kindE
  simp only [foldK, Nat.zero_add, Nat.reduceAdd, n0, n1, n2, n3, n4, n5, n6, n7, d]
  by_cases h1 : l = [102, 105, 114, 101]
  · subst h1; rfl
  by_cases h2 : l = [112, 97, 115, 115]
  · subst h2; rfl
  by_cases h3 : l = [112, 117, 116]
  · subst h3; rfl
  by_cases h4 : l = [116, 97, 107, 101]
  · subst h4; rfl
  by_cases h5 : l = [98, 97, 110, 101]
  · subst h5; rfl
  by_cases h6 : l = [100, 117, 101]
  · subst h6; rfl
  by_cases h7 : l = [103, 111, 110, 101]
  · subst h7; rfl
  by_cases h8 : l = [102, 114, 101, 101]
  · subst h8; rfl
  simp only [h1, h2, h3, h4, h5, h6, h7, h8, decide_false, cond_false, if_false]
theorem g1_fold {s : ByteArray} {e : Int} (hc : subC none (some e) s.size = true) (k : Evn × Int → Option (Evn × Int)) {G0 : Evn → Option (Evn × Int)} (hG : ∀ a, ref28_Parse.g1 s e k 0 8 a = G0 a) : ∀ (d i : Nat) (a : Evn), i + d = 8 →
    ref28_Parse.g1 s e k d (i : Int) a = G0 (foldK (subS none (some e) s).data.toList d i a)
  | 0, i, a, h => by
    have : i = 8 := by omega
    subst this; exact hG a
  | d + 1, i, a, h => by
    have hn : (List.length ref28_Names.t) = 8 := rfl
    have hw : IntKind.wrap .i64 ((i : Int) + 1) = ((i + 1 : Nat) : Int) := by rw [wrapN ⟨by omega, by omega⟩]; omega
    simp only [ref28_Parse.g1, hc, cond_true, hn, idxOK_nat (show i < 8 by omega), Int.toNat_natCast, hw]
    have ih := g1_fold hc k hG d (i + 1)
    rw [show ((i : Int) + 1) = ((i + 1 : Nat) : Int) by omega]
    simp only [foldK]
    cases ((subS none (some e) s).data.toList == (List.getD ref28_Names.t i (bs [])).data.toList) with
    | true => exact ih _ (by omega)
    | false => exact ih _ (by omega)

/-- The two numbers. -/
theorem g0_pair {r : ByteArray} (hr : r.size ≤ 1000000) {k : Int} (hk : 5 ≤ k ∧ k ≤ 8) : ∀ (d i : Nat), i + d = r.size → i ≤ fstI 46 r.data.toList → ref28_Parse.g0 r ((k, (0, (0, (0, ())))) : Evn) some d (i : Int) = some (pairF k r.data.toList)
  | 0, i, h, hi => by
    simp only [ref28_Parse.g0]
    have hz := size_list r
    have e : ((i : Int) == (r.size : Int)) = true := by rw [beq_iff_eq]; omega
    rw [e, cond_true]
    unfold pairF
    rw [if_neg (by omega)]
  | d + 1, i, h, hi => by
    have hz := size_list r
    have hlt : i < r.size := by omega
    have hl : i < r.data.toList.length := by omega
    simp only [ref28_Parse.g0, idxOK_nat hlt, cond_true, Int.toNat_natCast]
    by_cases he : i = fstI 46 r.data.toList
    · have q := bAt_eq (s := r) (c := 46) (by rw [← he]; exact hl)
      rw [← he] at q
      have q : (bAt r i != 46) = false := q
      have e : ((i : Int) == (r.size : Int)) = false := by rw [beq_eq_false_iff_ne]; omega
      have e1 : IntKind.wrap .i64 ((i : Int) + 1) = ((i + 1 : Nat) : Int) := by rw [wrapN ⟨by omega, by omega⟩]; omega
      have c1 : subC none (some (i : Int)) r.size = true := by simp [subC]; omega
      have c2 : subC (some ((i + 1 : Nat) : Int)) none r.size = true := by simp [subC]; omega
      rw [q, e, e1, c1, c2]
      have z1 := sub_size_to r (i := i) (by omega)
      have z2 := sub_size_from r (i + 1)
      simp only [cond_false, cond_true, rplain_u (Nat.le_trans z1 hr), rplain_u (Nat.le_trans z2 hr), Option.bind_some, sub_to_list, sub_from_list]
      unfold pairF
      rw [← he, if_pos hl]
      cases h1 : plainF (r.data.toList.take i) with
      | false => rfl
      | true =>
        cases h2 : plainF (r.data.toList.drop (i + 1)) with
        | false => rfl
        | true =>
          simp only [cond_true, Bool.not_true, cond_false, finE, chkE]
          cases (ref28_Check.t (k, (0, (held (valN 0 (r.data.toList.take i)), (held (valN 0 (r.data.toList.drop (i + 1))), ())))) != 0) <;> rfl
    · have q : (bAt r i != 46) = true := bAt_ne (c := 46) hl (by omega)
      rw [q, cond_true, show ((i : Int) + 1) = ((i + 1 : Nat) : Int) by omega]
      exact g0_pair hr hk d (i + 1) (by omega) (by omega)
theorem marks_get {k : Int} (hk : 1 ≤ k ∧ k ≤ 4) : idxOK (IntKind.wrap .i64 (k - 1)) (List.length ref28_Marks.t) = true ∧ (List.getD ref28_Marks.t (Int.toNat (IntKind.wrap .i64 (k - 1))) (bs [])).data.toList = markE k := by
  have : k = 1 ∨ k = 2 ∨ k = 3 ∨ k = 4 := by omega
  rcases this with rfl | rfl | rfl | rfl <;> exact ⟨by kernel_rfl, by kernel_rfl⟩
theorem g2_name {s : ByteArray} (hs : s.size ≤ 1000000) : ref28_Parse.g1 s ((fstI 32 s.data.toList : Nat) : Int) some 8 0 zEv = some (parseE s.data.toList) := by
  have hz := size_list s
  have hfi : fstI 32 s.data.toList ≤ s.data.toList.length := List.findIdx_le_length
  have hc : subC none (some ((fstI 32 s.data.toList : Nat) : Int)) s.size = true := by simp [subC]; omega
  rw [show (0 : Int) = ((0 : Nat) : Int) from rfl, g1_fold hc some (fun _ => rfl) 8 0 zEv (by omega), foldK_kind, sub_to_list]
  unfold parseE
  have hv := kindE_vals (s.data.toList.take (fstI 32 s.data.toList))
  generalize kindE (s.data.toList.take (fstI 32 s.data.toList)) = k at *
  simp only [ref28_Parse.g1]
  cases h0 : (k == 0) with
  | true => rfl
  | false =>
    have h0 : k ≠ 0 := by simpa using h0
    simp only [cond_false]
    by_cases h : fstI 32 s.data.toList < s.data.toList.length
    · have e : (((fstI 32 s.data.toList : Nat) : Int) == (s.size : Int)) = false := by rw [beq_eq_false_iff_ne]; omega
      have e1 : IntKind.wrap .i64 (((fstI 32 s.data.toList : Nat) : Int) + 1) = ((fstI 32 s.data.toList + 1 : Nat) : Int) := by rw [wrapN ⟨by omega, by omega⟩]; omega
      have c2 : subC (some ((fstI 32 s.data.toList + 1 : Nat) : Int)) none s.size = true := by simp [subC]; omega
      rw [e, e1, c2, if_pos h]
      simp only [cond_true, cond_false]
      have z2 := sub_size_from s (fstI 32 s.data.toList + 1)
      rw [← sub_from_list]
      generalize subS (some ((fstI 32 s.data.toList + 1 : Nat) : Int)) none s = r at z2 ⊢
      have hrz : r.size ≤ 1000000 := Nat.le_trans z2 hs
      have hzr := size_list r
      by_cases h4 : k ≤ 4
      · obtain ⟨m1, m2⟩ := marks_get (k := k) (by omega)
        rw [decide_eq_true h4, m1, m2]
        simp only [cond_true]
        unfold objF
        by_cases hr0 : r.size = 0
        · have hn : r.data.toList = [] := List.eq_nil_of_length_eq_zero (by omega)
          rw [decide_eq_true (show (r.size : Int) < 1 by omega), hn]
          unfold markE
          cases (k == 1) <;> rfl
        · have c3 : subC none (some 1) r.size = true := by simp [subC]; omega
          have c4 : subC (some 1) none r.size = true := by simp [subC]; omega
          rw [decide_eq_false (show ¬ (r.size : Int) < 1 by omega), c3, c4, sub_none1]
          simp only [cond_true, cond_false]
          cases hm : (r.data.toList.take 1 == markE k) with
          | false => rfl
          | true =>
            simp only [Bool.not_true, cond_false, cond_true]
            have z3 := sub_size_from r 1
            have e1 : (subS (some 1) none r).size ≤ 1000000 := Nat.le_trans z3 hrz
            rw [rplain_u e1, sub1_list]
            simp only [Option.bind_some]
            cases hp : plainF (r.data.toList.drop 1) with
            | false => rfl
            | true =>
              simp only [cond_true, Bool.not_true, cond_false, finE, chkE]
              cases (ref28_Check.t (k, (held (valN 0 (r.data.toList.drop 1)), (0, (0, ())))) != 0) <;> rfl
      · rw [decide_eq_false h4]
        simp only [cond_false]
        rw [decide_eq_true (show (r.size : Int) ≤ 4611686018427387904 by omega), cond_true]
        have := g0_pair hrz (k := k) (by omega) r.size 0 (by omega) (Nat.zero_le _)
        rw [show Int.toNat ((r.size : Int) - 0) = r.size by omega]
        exact this
    · have e : (((fstI 32 s.data.toList : Nat) : Int) == (s.size : Int)) = true := by rw [beq_iff_eq]; omega
      rw [e, if_neg h]
      rfl
theorem g2_go {s : ByteArray} (hs : s.size ≤ 1000000) : ∀ (d i : Nat), i + d = s.size → i ≤ fstI 32 s.data.toList → ref28_Parse.g2 s some d (i : Int) = some (parseE s.data.toList)
  | 0, i, h, hi => by
    have hz := size_list s
    have hfi : fstI 32 s.data.toList ≤ s.data.toList.length := List.findIdx_le_length
    have he : i = fstI 32 s.data.toList := by omega
    simp only [ref28_Parse.g2]
    rw [he]
    exact g2_name hs
  | d + 1, i, h, hi => by
    have hz := size_list s
    have hlt : i < s.size := by omega
    have hl : i < s.data.toList.length := by omega
    simp only [ref28_Parse.g2, idxOK_nat hlt, cond_true, Int.toNat_natCast]
    by_cases he : i = fstI 32 s.data.toList
    · have q := bAt_eq (s := s) (c := 32) (by rw [← he]; exact hl)
      rw [← he] at q
      have q : (bAt s i != 32) = false := q
      rw [q, cond_false, he]
      exact g2_name hs
    · have q : (bAt s i != 32) = true := bAt_ne (c := 32) hl (by omega)
      rw [q, cond_true, show ((i : Int) + 1) = ((i + 1 : Nat) : Int) by omega]
      exact g2_go hs d (i + 1) (by omega) (by omega)
theorem rparse28_u {s : ByteArray} (hs : s.size ≤ 1000000) : ref28_Parse.u s = some (parseE s.data.toList) := by
  unfold ref28_Parse.u ref28_Parse.w
  rw [decide_eq_true (show (s.size : Int) ≤ 4611686018427387904 by omega), cond_true, show Int.toNat ((s.size : Int) - 0) = s.size by omega]
  exact g2_go hs s.size 0 (by omega) (Nat.zero_le _)
theorem law_EventReads (s : ByteArray) : law28_EventReads.u s = some true := by
  unfold law28_EventReads.u law28_EventReads.s
  by_cases h : (s.size : Int) > 200
  · rw [decide_eq_true h, alive28]; rfl
  · rw [decide_eq_false h, parse_u (by omega), rparse28_u (by omega), alive28]
    simp only [cond_false, Option.bind_some, eqEv, beq_self_eq_true, cond_true]
theorem row_EventReads (xs : Args [.str]) (h : fitsA _ xs) : law28_EventReads.u xs.1 = some true := law_EventReads _
end Go.Proofs.YtaednhofihnfkaaDoor.K

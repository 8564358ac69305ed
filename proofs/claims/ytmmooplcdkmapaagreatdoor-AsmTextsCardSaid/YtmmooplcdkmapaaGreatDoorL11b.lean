/- Assembly, plainly: the words of a line. -/
import Derived.Test.YtmmooplcdkmapaaGreatDoorL11a
import Derived.Test.YtmmooplcdkmapaaGreatDoorL35c
import Derived.Lib.SplitLaws
import Derived.Lib.IndexBytes
set_option maxRecDepth 100000
set_option linter.unusedVariables false
set_option linter.unusedSimpArgs false
namespace Go.Proofs.YtmmooplcdkmapaaGreatDoor.K
open Go

/-- A text, cut at each blank. -/
def pieces : List UInt8 → List (List UInt8)
  | [] => [[]]
  | b :: r => if b = 32 then [] :: pieces r else match pieces r with
    | p :: q => (b :: p) :: q
    | [] => [[b]]
theorem pieces_none : ∀ {l : List UInt8}, 32 ∉ l → pieces l = [l]
  | [], _ => rfl
  | b :: r, h => by
    have h1 : ¬ b = 32 := fun e => h (by rw [e]; exact List.mem_cons_self ..)
    have h2 := pieces_none (l := r) (fun e => h (List.mem_cons_of_mem _ e))
    unfold pieces; rw [if_neg h1, h2]
theorem pieces_app : ∀ {a : List UInt8} (r : List UInt8), 32 ∉ a → pieces (a ++ 32 :: r) = a :: pieces r
  | [], r, _ => by show pieces (32 :: r) = _; rw [pieces, if_pos rfl]
  | b :: a, r, h => by
    have h1 : ¬ b = 32 := fun e => h (by rw [e]; exact List.mem_cons_self ..)
    have h2 := pieces_app (a := a) r (fun e => h (List.mem_cons_of_mem _ e))
    show pieces (b :: (a ++ 32 :: r)) = _
    rw [pieces, if_neg h1, h2]
/-- The words. -/
def wordsL (l : List UInt8) : List (List UInt8) := (pieces l).filter fun p => !(p == [])
theorem words_none {l : List UInt8} (h : 32 ∉ l) : wordsL l = if l = [] then [] else [l] := by
  unfold wordsL; rw [pieces_none h]
  cases l <;> rfl
theorem words_app {a : List UInt8} (r : List UInt8) (h : 32 ∉ a) : wordsL (a ++ 32 :: r) = (if a = [] then [] else [a]) ++ wordsL r := by
  unfold wordsL; rw [pieces_app r h]
  cases a <;> rfl

theorem bs_of (s : ByteArray) : bs s.data.toList = s := ba_ext (bs_list _)
theorem map_bs_of (P : List ByteArray) : (P.map fun s => bs s.data.toList) = P := by
  induction P with
  | nil => rfl
  | cons a r ih => rw [List.map_cons, ih, bs_of]
theorem ext_list (s : ByteArray) (i j : Nat) : (s.extract i j).data.toList = (s.data.toList.take j).drop i := by
  rw [ByteArray.data_extract, Array.toList_extract, List.extract_eq_take_drop, List.drop_take]
theorem not_mem_take {c : UInt8} {l : List UInt8} : c ∉ l.take (fstI c l) := by
  intro h
  obtain ⟨i, hi, e⟩ := List.getElem_of_mem h
  rw [List.length_take] at hi
  have h1 : l[i]? ≠ some c := fstI_lt (by omega)
  rw [List.getElem_take] at e
  exact h1 (by rw [List.getElem?_eq_getElem (by omega), e])
theorem cut_at {c : UInt8} {l : List UInt8} (h : fstI c l < l.length) : l = l.take (fstI c l) ++ c :: l.drop (fstI c l + 1) := by
  have h1 := fstI_at h
  have h2 : l[fstI c l] = c := by rw [List.getElem?_eq_getElem h] at h1; exact Option.some.inj h1
  conv => lhs; rw [← List.take_append_drop (fstI c l) l, List.drop_eq_getElem_cons h, h2]
theorem not_fst {c : UInt8} {l : List UInt8} (h : ¬ fstI c l < l.length) : c ∉ l := by
  intro hm
  apply h
  unfold fstI
  rw [List.findIdx_lt_length]
  exact ⟨c, hm, by simp⟩
theorem index_one (s : ByteArray) : Lib.indexB s (bs [32]) = if fstI 32 s.data.toList < s.data.toList.length then ((fstI 32 s.data.toList : Nat) : Int) else -1 := by
  show Lib.index s.data.toList [32] = _
  rw [ixl]
theorem split_pieces : ∀ (n : Nat) (s : ByteArray), Lib.countB s (bs [32]) = n → (Lib.splitB (bs [32]) 0 n s).map (fun p => p.data.toList) = pieces s.data.toList
  | 0, s, h => by
    have hc : s.data.toList.count 32 = 0 := by rw [← Lib.count_one]; exact h
    rw [pieces_none (fun hm => by have := List.count_pos_iff.2 hm; omega)]
    rfl
  | n + 1, s, h => by
    have hc : s.data.toList.count 32 = n + 1 := by rw [← Lib.count_one]; exact h
    have hf : fstI 32 s.data.toList < s.data.toList.length := by
      rcases Nat.lt_or_ge (fstI 32 s.data.toList) s.data.toList.length with h1 | h1
      · exact h1
      · have := List.count_eq_zero.2 (not_fst (c := 32) (l := s.data.toList) (by omega)); omega
    have hi := index_one s
    rw [if_pos hf] at hi
    rw [Lib.splitB_hit (bs [32]) 0 n s _ hi, List.map_cons]
    have e0 : (s.extract 0 (fstI 32 s.data.toList + 0)).data.toList = s.data.toList.take (fstI 32 s.data.toList) := by rw [ext_list]; simp
    have e1 : (s.extract (fstI 32 s.data.toList + (bs [32]).size) s.size).data.toList = s.data.toList.drop (fstI 32 s.data.toList + 1) := by
      rw [ext_list, List.take_of_length_le (by rw [size_list s]; exact Nat.le_refl _)]; rfl
    have hc2 : (s.data.toList.drop (fstI 32 s.data.toList + 1)).count 32 = n := by
      have h1 := cut_at hf
      have h2 : s.data.toList.count 32 = (s.data.toList.take (fstI 32 s.data.toList)).count 32 + (1 + (s.data.toList.drop (fstI 32 s.data.toList + 1)).count 32) := by
        conv => lhs; rw [h1]
        rw [List.count_append, List.count_cons_self]; omega
      rw [List.count_eq_zero.2 not_mem_take] at h2
      omega
    rw [split_pieces n _ (by show Lib.count _ [32] = n; rw [Lib.count_one, e1]; exact hc2), e0, e1]
    conv => rhs; rw [cut_at hf]
    rw [pieces_app _ not_mem_take]
theorem split11_u {s : ByteArray} (hs : s.size ≤ 1000000) : strings_Split.u s (bs [32]) = some ((pieces s.data.toList).map bs) := by
  unfold strings_Split.u
  rw [decide_eq_true (show s.size < 4294967281 by omega), decide_eq_true (show 1 ≤ (bs [32]).size by decide)]
  show some _ = some _
  rw [← split_pieces _ s rfl, List.map_map]
  congr 1
  exact (map_bs_of _).symm

/-- The reference's words. -/
theorem drop_none {l : List UInt8} {st i : Nat} (h : ∀ j, st ≤ j → j < i → l[j]? ≠ some 32) : 32 ∉ (l.drop st).take (i - st) := by
  intro hm
  obtain ⟨j, hj, e⟩ := List.getElem_of_mem hm
  rw [List.length_take, List.length_drop] at hj
  rw [List.getElem_take, List.getElem_drop] at e
  exact h (st + j) (by omega) (by omega) (by rw [List.getElem?_eq_getElem (by omega), e])
theorem sub_list (s : ByteArray) {a b : Nat} (hab : a ≤ b) (hb : b ≤ s.size) : subS (some (a : Int)) (some (b : Int)) s = bs ((s.data.toList.drop a).take (b - a)) := by
  refine ba_ext ?_
  show (s.extract a b).data.toList = _
  rw [ext_list, bs_list, List.take_drop, Nat.add_sub_cancel' hab]
theorem words_go {s : ByteArray} (hs : s.size ≤ 1000000) : ∀ (d i st : Nat) (acc : List ByteArray), i + d = s.size + 1 → st ≤ i → (i ≤ s.size ∨ st = i) → (∀ j, st ≤ j → j < i → s.data.toList[j]? ≠ some 32) → acc.length ≤ i →
    ref11_Words.g0 s some d (st : Int) (i : Int) acc = some (acc ++ (wordsL (s.data.toList.drop st)).map bs)
  | 0, i, st, acc, h, hst, hor, hno, hl => by
    have : st = s.size + 1 := by omega
    rw [ref11_Words.g0, this, List.drop_eq_nil_of_le (by rw [← size_list]; omega)]
    simp [wordsL, pieces]
  | d + 1, i, st, acc, h, hst, hor, hno, hl => by
    have hi : i ≤ s.size := by omega
    have w1 : IntKind.wrap .i64 ((i : Int) + 1) = ((i + 1 : Nat) : Int) := by rw [wrapN ⟨by omega, by omega⟩]; rfl
    have hn := drop_none hno
    have hlen : s.data.toList.length = s.size := (size_list s).symm
    have sc : subC (some (st : Int)) (some (i : Int)) s.size = true := by simp [subC]; omega
    have rm : ∀ x : ByteArray, decide (List.length acc + List.length [x] ≤ rowMax) = true := fun x => decide_eq_true (Nat.le_trans (show _ ≤ 1000002 by simp; omega) (by decide))
    have done : ∀ (w : List (List UInt8)), (wordsL (s.data.toList.drop st)) = (if (s.data.toList.drop st).take (i - st) = [] then [] else [(s.data.toList.drop st).take (i - st)]) ++ wordsL (s.data.toList.drop (i + 1)) →
        (bif decide ((i : Int) > (st : Int)) then (bif subC (some (st : Int)) (some (i : Int)) s.size then (bif decide (List.length acc + List.length [subS (some (st : Int)) (some (i : Int)) s] ≤ rowMax) then ref11_Words.g0 s some d (IntKind.wrap .i64 ((i : Int) + 1)) ((i : Int) + 1) (acc ++ [subS (some (st : Int)) (some (i : Int)) s]) else none) else none) else ref11_Words.g0 s some d (IntKind.wrap .i64 ((i : Int) + 1)) ((i : Int) + 1) acc) = some (acc ++ (wordsL (s.data.toList.drop st)).map bs) := by
      intro _ hw
      rw [hw]
      by_cases hgt : st < i
      · have hne : (s.data.toList.drop st).take (i - st) ≠ [] := by
          intro e
          have := congrArg List.length e
          rw [List.length_take, List.length_drop, hlen, List.length_nil] at this
          omega
        rw [decide_eq_true (show (i : Int) > (st : Int) by omega), cond_true, sc, cond_true, rm, cond_true, w1, sub_list s hst hi, if_neg hne]
        have ih := words_go hs d (i + 1) (i + 1) (acc ++ [bs ((s.data.toList.drop st).take (i - st))]) (by omega) (Nat.le_refl _) (.inr rfl) (fun j h1 h2 => by omega) (by simp; omega)
        refine ih.trans ?_
        simp
      · have he : st = i := by omega
        rw [decide_eq_false (show ¬ (i : Int) > (st : Int) by omega), cond_false, w1, he, Nat.sub_self, List.take_zero, if_pos rfl, List.nil_append]
        exact words_go hs d (i + 1) (i + 1) acc (by omega) (Nat.le_refl _) (.inr rfl) (fun j h1 h2 => by omega) (by omega)
    rw [ref11_Words.g0]
    by_cases hend : i = s.size
    · rw [show ((i : Int) == (s.size : Int)) = true by rw [hend]; exact beq_self_eq_true _, cond_true]
      refine done [] ?_
      have e1 : (s.data.toList.drop st).take (i - st) = s.data.toList.drop st := List.take_of_length_le (by rw [List.length_drop, hlen]; omega)
      rw [e1] at hn ⊢
      rw [words_none hn, List.drop_eq_nil_of_le (show s.data.toList.length ≤ i + 1 by omega)]
      simp [wordsL, pieces]
    · rw [show ((i : Int) == (s.size : Int)) = false by rw [beq_eq_false_iff_ne]; omega, cond_false, idxOK_nat (show i < s.size by omega), cond_true, Int.toNat_natCast]
      have hil : i < s.data.toList.length := by omega
      have hb : bAt s i = ((s.data.toList[i]).toNat : Int) := by unfold bAt; rw [List.getD_eq_getElem?_getD, List.getElem?_eq_getElem hil]; rfl
      by_cases h32 : s.data.toList[i] = 32
      · rw [hb, h32, show (((32 : UInt8).toNat : Int) == 32) = true from rfl, cond_true]
        refine done [] ?_
        have e1 : s.data.toList.drop st = (s.data.toList.drop st).take (i - st) ++ 32 :: s.data.toList.drop (i + 1) := by
          conv => lhs; rw [← List.take_append_drop (i - st) (s.data.toList.drop st), List.drop_drop, show st + (i - st) = i by omega, List.drop_eq_getElem_cons hil, h32]
        conv => lhs; rw [e1]
        exact words_app _ hn
      · rw [hb, show (((s.data.toList[i]).toNat : Int) == 32) = false by rw [beq_eq_false_iff_ne]; intro e; exact h32 (UInt8.toNat_inj.1 (by show _ = 32; omega)), cond_false]
        exact words_go hs d (i + 1) st acc (by omega) (by omega) (.inl (by omega)) (fun j h1 h2 => by
          rcases Nat.lt_or_ge j i with h3 | h3
          · exact hno j h1 h3
          · rw [show j = i by omega, List.getElem?_eq_getElem hil]; exact fun e => h32 (Option.some.inj e)) (by omega)
theorem words_u {s : ByteArray} (hs : s.size ≤ 1000000) : ref11_Words.u s = some ((wordsL s.data.toList).map bs) := by
  unfold ref11_Words.u ref11_Words.w
  rw [decide_eq_true (show (s.size : Int) ≤ 4611686018427387904 by omega), cond_true]
  have := words_go hs (s.size + 1) 0 0 [] (by omega) (Nat.le_refl _) (.inl (Nat.zero_le _)) (fun j h1 h2 => by omega) (Nat.le_refl _)
  rw [List.nil_append, List.drop_zero] at this
  rw [show Int.toNat ((s.size : Int) + 1 - 0) = s.size + 1 by omega]
  exact this
end Go.Proofs.YtmmooplcdkmapaaGreatDoor.K

/- Labels, plainly: lines; LabelBack. -/
import Derived.Test.YtaednhofihnfkaaDoorL35e
import Derived.KernelRfl
set_option maxRecDepth 100000
set_option linter.unusedVariables false
set_option linter.unusedSimpArgs false
namespace Go.Proofs.YtaednhofihnfkaaDoor.K
open Go

/-- The lines of labels. -/
def linesL (l : List Lb) : List UInt8 := l.flatMap fun x => TLb x ++ [10]
theorem linesL_len : ∀ l : List Lb, (∀ x ∈ l, chkL x = 0) → (linesL l).length ≤ 61 * l.length
  | [], _ => by simp [linesL]
  | x :: l, h => by
    have h1 := (parse_text_lb (h x (by simp))).2.2
    have h2 := linesL_len l fun y hy => h y (by simp [hy])
    have : linesL (x :: l) = (TLb x ++ [10]) ++ linesL l := rfl
    rw [this]
    simp only [List.length_append, List.length_cons, List.length_nil]
    omega
/-- What labels are printed as: what is wrong first, or the lines. -/
def badL : List Lb → Int
  | [] => 0
  | x :: l => bif chkL x != 0 then chkL x else badL l
theorem badL_ok : ∀ l : List Lb, badL l = 0 → ∀ x ∈ l, chkL x = 0
  | [], _, x, h => by cases h
  | y :: l, hb, x, h => by
    unfold badL at hb
    cases hc : (chkL y != 0) with
    | true => rw [hc, cond_true] at hb; rw [hb] at hc; exact absurd hc (by decide)
    | false =>
      rw [hc, cond_false] at hb
      rcases List.mem_cons.1 h with rfl | h
      · simpa using hc
      · exact badL_ok l hb x h
theorem badL_of : ∀ l : List Lb, (∀ x ∈ l, chkL x = 0) → badL l = 0
  | [], _ => rfl
  | y :: l, h => by
    unfold badL
    rw [h y (by simp), show ((0 : Int) != 0) = false from rfl, cond_false]
    exact badL_of l fun x hx => h x (by simp [hx])
theorem print_go (e : List Lb) : ∀ (xs : List Lb) (a : ByteArray), a.size + 61 * xs.length ≤ 1000000 → label_Print.g0 e some xs a = some (bif badL xs != 0 then (bs [], badL xs) else (bs (a.data.toList ++ linesL xs), 0))
  | [], a, h => by
    simp only [label_Print.g0, badL]
    congr 2
    exact ba_ext (by simp [linesL, bs_list])
  | x :: xs, a, h => by
    simp only [List.length_cons] at h
    simp only [label_Print.g0, ltext_u, Option.bind_some]
    cases hc : (chkL x != 0) with
    | true =>
      rw [lb_bad hc]
      simp only [hc, cond_true, badL]
    | false =>
      have h0 : chkL x = 0 := by simpa using hc
      have hl := (parse_text_lb h0).2.2
      rw [lb_ok h0]
      have y : (bs [10]).size = 1 := rfl
      have z : (bs (TLb x)).size = (TLb x).length := bs_size _
      have d1 : decide ((bs (TLb x)).size + (bs [10]).size ≤ catMax) = true := catK (by omega)
      have d2 : decide (ByteArray.size a + ByteArray.size (bs (TLb x) ++ bs [10]) ≤ rowMax) = true := decide_eq_true (by rw [ByteArray.size_append]; simp [rowMax]; omega)
      simp only [bne_self_eq_false, cond_false, d1, d2, cond_true]
      rw [print_go e xs _ (by simp only [ByteArray.size_append]; omega)]
      have hb : badL (x :: xs) = badL xs := by
        show (bif chkL x != 0 then chkL x else badL xs) = _
        rw [hc]; rfl
      rw [hb]
      cases (badL xs != 0) with
      | true => rfl
      | false =>
        simp only [cond_false]
        congr 2
        apply ba_ext
        simp only [bs_list, app_list]
        show _ = a.data.toList ++ ((TLb x ++ [10]) ++ linesL xs)
        simp only [List.append_assoc]
theorem print_u {l : List Lb} (h : l.length ≤ 1600) : label_Print.u l = some (bif badL l != 0 then (bs [], badL l) else (bs (linesL l), 0)) := by
  unfold label_Print.u label_Print.w
  have y : (bs []).size = 0 := rfl
  rw [dec_len (n := 1600) h (by decide), cond_true, print_go l l (bs []) (by omega)]
  rfl

theorem parseLb_err (l : List UInt8) : True := trivial
/-- One round of what reads lines. -/
theorem read_step {s : ByteArray} (hs : s.size ≤ 1000000) (hne : s.data.toList ≠ []) (no : Int) (out : List Lb) (ho : out.length ≤ 5000) (m : Nat) :
    iter (label_Read.gb0 some) (m + 1) (s, no, out) =
      (if fstI 10 s.data.toList < s.size then
        (bif (parseLb (s.data.toList.take (fstI 10 s.data.toList))).2 != 0 then some ([], IntKind.wrap .i64 (no + 1), (parseLb (s.data.toList.take (fstI 10 s.data.toList))).2)
         else iter (label_Read.gb0 some) m (subS (some ((fstI 10 s.data.toList + 1 : Nat) : Int)) none s, IntKind.wrap .i64 (no + 1), out ++ [(parseLb (s.data.toList.take (fstI 10 s.data.toList))).1]))
      else some ([], IntKind.wrap .i64 (no + 1), 3)) := by
  have hz := size_list s
  show label_Read.gb0 some (iter (label_Read.gb0 some) m) (s, no, out) = _
  unfold label_Read.gb0
  simp only
  have e0 : (s.data.toList == (bs []).data.toList) = false := by rw [beq_eq_false_iff_ne]; exact hne
  rw [e0, cutb_u hs]
  simp only [Bool.not_false, cond_true, Option.bind_some]
  have hd : ∀ z : Lb, decide (out.length + List.length [z] ≤ rowMax) = true := fun z => decide_eq_true (by simp [rowMax]; omega)
  by_cases h : fstI 10 s.data.toList < s.size
  · have hcf : cutF s 10 = (subS none (some ((fstI 10 s.data.toList : Nat) : Int)) s, subS (some (((fstI 10 s.data.toList + 1 : Nat)) : Int)) none s, true) := by unfold cutF; rw [if_pos h]
    rw [hcf, if_pos h]
    have z1 := sub_size_to s (i := fstI 10 s.data.toList) (by omega)
    simp only [lparse_u (Nat.le_trans z1 hs), sub_to_list, Option.bind_some, Bool.not_true, cond_false, hd, cond_true]
    cases ((parseLb (s.data.toList.take (fstI 10 s.data.toList))).2 != 0) <;> rfl
  · have hcf : cutF s 10 = (s, bs [], false) := by unfold cutF; rw [if_neg h]
    rw [hcf, if_neg h]
    simp only [lparse_u hs, Option.bind_some, Bool.not_false, cond_true]
theorem read_end (no : Int) (out : List Lb) (s : ByteArray) (hs : s.data.toList = []) (m : Nat) : iter (label_Read.gb0 some) (m + 1) (s, no, out) = some (out, 0, 0) := by
  show label_Read.gb0 some (iter (label_Read.gb0 some) m) (s, no, out) = _
  unfold label_Read.gb0
  simp only [hs, bs_list]
  rfl
/-- Lines that were printed are read. -/
theorem read_lines : ∀ (l : List Lb) (s : ByteArray) (no : Int) (out : List Lb) (m : Nat), (∀ x ∈ l, chkL x = 0) → s.data.toList = linesL l → s.size ≤ 1000000 → out.length + l.length ≤ 5000 → l.length < m → iter (label_Read.gb0 some) m (s, no, out) = some (out ++ l, 0, 0)
  | [], s, no, out, m, h, hs, hz, ho, hm => by
    obtain ⟨m, rfl⟩ : ∃ q, m = q + 1 := ⟨m - 1, by omega⟩
    rw [read_end no out s hs, List.append_nil]
  | x :: l, s, no, out, m, h, hs, hz, ho, hm => by
    simp only [List.length_cons] at ho hm
    obtain ⟨m, rfl⟩ : ∃ q, m = q + 1 := ⟨m - 1, by omega⟩
    have hx := parse_text_lb (h x (by simp))
    have hl : s.data.toList = TLb x ++ 10 :: linesL l := by
      rw [hs]
      show (TLb x ++ [10]) ++ linesL l = _
      rw [List.append_assoc]; rfl
    have hf : fstI 10 s.data.toList = (TLb x).length := by rw [hl]; exact fst_app _ hx.2.1
    have hsz := size_list s
    have hlt : fstI 10 s.data.toList < s.size := by rw [hf, hsz, hl]; simp
    rw [read_step hz (by rw [hl]; simp) no out (by omega) m, if_pos hlt]
    have ht : s.data.toList.take (fstI 10 s.data.toList) = TLb x := by rw [hf, hl, List.take_left' rfl]
    rw [ht, hx.1]
    simp only [bne_self_eq_false, cond_false]
    have z2 := sub_size_from s (fstI 10 s.data.toList + 1)
    rw [read_lines l _ _ (out ++ [x]) m (fun y hy => h y (by simp [hy])) (by rw [sub_from_list, hf, hl, show (TLb x).length + 1 = (TLb x ++ [10]).length by simp, show TLb x ++ 10 :: linesL l = (TLb x ++ [10]) ++ linesL l by simp, List.drop_left' rfl]) (Nat.le_trans z2 hz) (by simp; omega) (by omega)]
    simp
/-- What was read is what is printed. -/
theorem read_inv : ∀ (n : Nat) (s : ByteArray) (no : Int) (out : List Lb) (m : Nat), s.size ≤ n → s.size ≤ 1000000 → out.length + n ≤ 5000 → n < m → ∃ v, iter (label_Read.gb0 some) m (s, no, out) = some v ∧
    ((v.2.2 ≠ 0 ∧ v.1 = []) ∨ (v.2.2 = 0 ∧ ∃ l : List Lb, v.1 = out ++ l ∧ (∀ x ∈ l, chkL x = 0) ∧ s.data.toList = linesL l ∧ l.length ≤ s.size)) := by
  intro n
  induction n with
  | zero =>
    intro s no out m hn hz ho hm
    obtain ⟨m, rfl⟩ : ∃ q, m = q + 1 := ⟨m - 1, by omega⟩
    have h0 : s.data.toList = [] := List.eq_nil_of_length_eq_zero (by rw [← size_list]; omega)
    exact ⟨_, read_end no out s h0 m, .inr ⟨rfl, [], by simp, by simp, by rw [h0]; rfl, by simp⟩⟩
  | succ n ih =>
    intro s no out m hn hz ho hm
    obtain ⟨m, rfl⟩ : ∃ q, m = q + 1 := ⟨m - 1, by omega⟩
    by_cases h0 : s.data.toList = []
    · exact ⟨_, read_end no out s h0 m, .inr ⟨rfl, [], by simp, by simp, by rw [h0]; rfl, by simp⟩⟩
    · rw [read_step hz h0 no out (by omega) m]
      have hsz := size_list s
      by_cases h : fstI 10 s.data.toList < s.size
      · rw [if_pos h]
        cases hc : ((parseLb (s.data.toList.take (fstI 10 s.data.toList))).2 != 0) with
        | true => exact ⟨_, rfl, .inl ⟨by simpa using hc, rfl⟩⟩
        | false =>
          simp only [cond_false]
          have hp : (parseLb (s.data.toList.take (fstI 10 s.data.toList))).2 = 0 := by simpa using hc
          obtain ⟨q1, q2⟩ := parseLb_inv (l := s.data.toList.take (fstI 10 s.data.toList)) (x := (parseLb (s.data.toList.take (fstI 10 s.data.toList))).1) (by rw [← hp])
          generalize (parseLb (s.data.toList.take (fstI 10 s.data.toList))).1 = x at q1 q2 ⊢
          have hsp := split_at (c := 10) (l := s.data.toList) (by omega)
          rw [q1] at hsp
          have hrl : (subS (some ((fstI 10 s.data.toList + 1 : Nat) : Int)) none s).size + 1 ≤ s.size := by
            rw [size_list, sub_from_list, List.length_drop]; omega
          obtain ⟨v, hv, hr⟩ := ih (subS (some ((fstI 10 s.data.toList + 1 : Nat) : Int)) none s) (IntKind.wrap .i64 (no + 1)) (out ++ [x]) m (by omega) (by omega) (by simp; omega) (by omega)
          refine ⟨v, hv, ?_⟩
          rcases hr with hr | ⟨r1, l, r2, r3, r4, r5⟩
          · exact .inl hr
          · refine .inr ⟨r1, x :: l, by rw [r2]; simp, ?_, ?_, by simp only [List.length_cons]; omega⟩
            · intro y hy
              rcases List.mem_cons.1 hy with rfl | hy
              · exact q2
              · exact r3 y hy
            · rw [sub_from_list] at r4
              rw [r4] at hsp
              rw [hsp]
              show _ = (TLb x ++ [10]) ++ linesL l
              rw [List.append_assoc]; rfl
      · rw [if_neg h]
        exact ⟨_, rfl, .inl ⟨show (3 : Int) ≠ 0 by decide, rfl⟩⟩
theorem big_ge (n : Nat) (h : n ≤ 4000) : n < BIG := by unfold BIG; omega
theorem read_print {l : List Lb} (hl : l.length ≤ 60) (h : ∀ x ∈ l, chkL x = 0) : label_Read.u (bs (linesL l)) = some (l, 0, 0) := by
  have h1 := linesL_len l h
  unfold label_Read.u label_Read.w label_Read.g0
  have hb := big_ge l.length (by omega)
  generalize BIG = F at hb ⊢
  rw [read_lines l (bs (linesL l)) 0 [] F h rfl (by rw [bs_size]; omega) (by simp; omega) hb]
  rfl
theorem read_u {s : ByteArray} (hs : s.size ≤ 1500) : ∃ v, label_Read.u s = some v ∧ ((v.2.2 ≠ 0 ∧ v.1 = []) ∨ (v.2.2 = 0 ∧ (∀ x ∈ v.1, chkL x = 0) ∧ s.data.toList = linesL v.1 ∧ v.1.length ≤ 1500)) := by
  unfold label_Read.u label_Read.w label_Read.g0
  have hb := big_ge 1500 (by omega)
  generalize BIG = F at hb ⊢
  obtain ⟨v, h1, h2⟩ := read_inv 1500 s 0 [] F hs (by omega) (by simp) hb
  refine ⟨v, h1, ?_⟩
  rcases h2 with h2 | ⟨r1, l, r2, r3, r4, r5⟩
  · exact .inl h2
  · rw [List.nil_append] at r2
    subst r2
    exact .inr ⟨r1, r3, r4, by omega⟩
theorem lbTo_go (e : List Lb) : ∀ (xs a : List Lb), a.length + xs.length ≤ 2000 → law35_To.g0 e some xs a = some (a ++ xs)
  | [], a, h => by simp [law35_To.g0]
  | x :: xs, a, h => by
    rw [List.length_cons] at h
    have hx : ((x.1, (x.2.1, (x.2.2.1, (x.2.2.2.1, ())))) : Lb) = x := by
      obtain ⟨k, w, v, e, u⟩ := x
      cases u; rfl
    have hd : decide (a.length + List.length [x] ≤ rowMax) = true := decide_eq_true (by simp [rowMax]; omega)
    simp only [law35_To.g0, hx, hd, cond_true]
    rw [lbTo_go e xs (a ++ [x]) (by simp; omega)]
    simp
theorem lbTo_u {l : List Lb} (h : l.length ≤ 2000) : law35_To.u l = some l := by
  unfold law35_To.u law35_To.w
  rw [dec_len (n := 2000) h (by decide), cond_true, lbTo_go l l [] (by simp; omega)]
  rfl
theorem lbBack_go (e : List Lb) : ∀ (xs a : List Lb), a.length + xs.length ≤ 2000 → law35_Back.g0 e some xs a = some (a ++ xs)
  | [], a, h => by simp [law35_Back.g0]
  | x :: xs, a, h => by
    rw [List.length_cons] at h
    have hx : ((x.1, (x.2.1, (x.2.2.1, (x.2.2.2.1, ())))) : Lb) = x := by
      obtain ⟨k, w, v, e, u⟩ := x
      cases u; rfl
    have hd : decide (a.length + List.length [x] ≤ rowMax) = true := decide_eq_true (by simp [rowMax]; omega)
    simp only [law35_Back.g0, hx, hd, cond_true]
    rw [lbBack_go e xs (a ++ [x]) (by simp; omega)]
    simp
theorem lbBack_u {l : List Lb} (h : l.length ≤ 2000) : law35_Back.u l = some l := by
  unfold law35_Back.u law35_Back.w
  rw [dec_len (n := 2000) h (by decide), cond_true, lbBack_go l l [] (by simp; omega)]
  rfl
theorem sameLb_go (ys : List Lb) : ∀ (xs : List Lb) (n : Nat), ys.drop n = xs → ref35_Same.g0 ys ys some xs (n : Int) = some true
  | [], n, h => rfl
  | x :: xs, n, h => by
    have hn : n < ys.length := by
      rcases Nat.lt_or_ge n ys.length with h' | h'
      · exact h'
      · rw [List.drop_eq_nil_of_le h'] at h; cases h
    have h1 := List.drop_eq_getElem_cons hn
    rw [h] at h1
    cases h1
    have hx : List.getD ys (Int.toNat (n : Int)) zLb = ys[n] := by
      rw [Int.toNat_natCast, List.getD_eq_getElem?_getD, List.getElem?_eq_getElem hn]; rfl
    simp only [ref35_Same.g0, idxOK_nat hn, cond_true, hx, eqLb, Bool.not_true, cond_false]
    exact sameLb_go ys _ (n + 1) rfl
theorem sameLb_u {l : List Lb} (h : l.length ≤ 2000) : ref35_Same.u l l = some true := by
  unfold ref35_Same.u ref35_Same.w
  rw [bne_self_eq_false, cond_false, dec_len (n := 2000) h (by decide), cond_true]
  exact sameLb_go l l 0 rfl
theorem law_LabelBack (l : List Lb) (s : ByteArray) : law35_LabelBack.u l s = some true := by
  unfold law35_LabelBack.u law35_LabelBack.s
  by_cases h1 : ((l.length : Nat) : Int) > 60
  · rw [decide_eq_true h1, alive35]; rfl
  · by_cases h2 : (s.size : Int) > 1500
    · rw [decide_eq_false h1, decide_eq_true h2, alive35]; rfl
    · have hl : l.length ≤ 60 := by omega
      obtain ⟨v, hv, hr⟩ := read_u (s := s) (by omega)
      have tail : (bif (v.2.2 != 0) then (bif (((List.length v.1 : Nat) : Int) == 0) then some true else some false)
          else (label_Print.u v.1).bind fun y10 => bif (y10.2 == 0) then (bif ((y10.1).data.toList == s.data.toList) then some true else some false) else some false) = some true := by
        rcases hr with ⟨r1, r2⟩ | ⟨r1, r2, r3, r4⟩
        · rw [show (v.2.2 != 0) = true by rw [bne_iff_ne]; exact r1, r2]; rfl
        · rw [show (v.2.2 != 0) = false by rw [bne_eq_false_iff_eq]; exact r1, cond_false, print_u (by omega), badL_of v.1 r2, Option.bind_some]
          simp only [bne_self_eq_false, cond_false, beq_self_eq_true, cond_true, bs_list, r3]
      rw [decide_eq_false h1, decide_eq_false h2, lbTo_u (by omega), hv]
      simp only [cond_false, Option.bind_some, alive35]
      rw [print_u (by omega), Option.bind_some]
      cases hb : (badL l != 0) with
      | true =>
        have : (badL l == 0) = false := by rw [beq_eq_false_iff_ne]; simpa using hb
        simp only [cond_true, this, cond_false]
        exact tail
      | false =>
        have hb0 : badL l = 0 := by simpa using hb
        simp only [cond_false, beq_self_eq_true, cond_true]
        rw [read_print hl (badL_ok l hb0), Option.bind_some]
        simp only [bne_self_eq_false, cond_false]
        rw [lbBack_u (by omega), Option.bind_some, sameLb_u (by omega), Option.bind_some]
        simp only [Bool.not_true, cond_false]
        exact tail
theorem row_LabelBack (xs : Args [.slice tyLb, .str]) (h : fitsA _ xs) : law35_LabelBack.u xs.1 xs.2.1 = some true := law_LabelBack _ _
end Go.Proofs.YtaednhofihnfkaaDoor.K

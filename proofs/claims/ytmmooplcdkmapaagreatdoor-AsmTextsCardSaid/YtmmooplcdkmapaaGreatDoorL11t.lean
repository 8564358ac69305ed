/- Assembly, plainly: the law AsmTexts. -/
import Derived.Test.YtmmooplcdkmapaaGreatDoorL11k
set_option maxRecDepth 100000
set_option linter.unusedVariables false
set_option linter.unusedSimpArgs false
namespace Go.Proofs.YtmmooplcdkmapaaGreatDoor.K
open Go

theorem print_same (e : List In) : ∀ (l : List In) (a : ByteArray), (∀ x ∈ l, InOK x) → a.size + 101 * l.length ≤ 90000 → ∃ r, asm_Print.g0 e some l a = some r ∧ ref11_Print.g0 e some l a = some r
  | [], a, h, hz => ⟨_, rfl, rfl⟩
  | x :: t, a, h, hz => by
    have hx := h x (List.mem_cons_self ..)
    rw [List.length_cons] at hz
    rw [asm_Print.g0, ref11_Print.g0, text_u hx, rtext11_u hx, Option.bind_some, Option.bind_some]
    by_cases hk : chk x = 0
    · have hs := text_size hx hk
      have e1 : ((textI x).1 ++ bs [10]).size = (textI x).1.size + 1 := by rw [ByteArray.size_append, bs_size]; rfl
      obtain ⟨r, r1, r2⟩ := print_same e t (a ++ ((textI x).1 ++ bs [10])) (fun y hy => h y (List.mem_cons_of_mem _ hy)) (by rw [ByteArray.size_append, e1]; omega)
      have rm : decide (ByteArray.size a + ByteArray.size ((textI x).1 ++ bs [10]) ≤ rowMax) = true := decide_eq_true (Nat.le_trans (show _ ≤ 1000000 by rw [e1]; omega) (by decide))
      have c1 : decide ((textI x).1.size + (bs [10]).size ≤ catMax) = true := cat_ok (by rw [bs_size]; simp; omega)
      have c2 : decide (a.size + ((textI x).1 ++ bs [10]).size ≤ catMax) = true := cat_ok (by rw [e1]; omega)
      rw [text_err hk, show ((0 : Int) != 0) = false from rfl, cond_false, cond_false, c1, cond_true, cond_true, rm, c2, cond_true, cond_true]
      exact ⟨r, r1, r2⟩
    · have e2 : ((textI x).2 != 0) = true := by
        unfold textI
        rw [bne_iff_ne.2 hk, cond_true]; exact bne_iff_ne.2 hk
      rw [e2]; exact ⟨_, rfl, rfl⟩

theorem cut_none {s : ByteArray} (h : 10 ∉ s.data.toList) : cutF s 10 = (s, bs [], false) := by
  unfold cutF
  rw [if_neg]
  intro hlt
  have := fstI_at (c := 10) (l := s.data.toList) (by rw [size_list] at hlt; exact hlt)
  exact h (List.mem_of_getElem? this)
theorem drop_no {l : List UInt8} {c : UInt8} {st i : Nat} (h : ∀ j, st ≤ j → j < i → l[j]? ≠ some c) : c ∉ (l.drop st).take (i - st) := by
  intro hm
  obtain ⟨j, hj, e⟩ := List.getElem_of_mem hm
  rw [List.length_take, List.length_drop] at hj
  rw [List.getElem_take, List.getElem_drop] at e
  exact h (st + j) (by omega) (by omega) (by rw [List.getElem?_eq_getElem (by omega), e])
/-- The reference reads the lines as they are cut. -/
theorem rread_go {s : ByteArray} (hs : s.size ≤ 100000) : ∀ (d i st no k : Nat) (out : List In) (ls : List (Int × ByteArray)), i + d = s.size + 1 → st ≤ i → i ≤ s.size → (∀ j, st ≤ j → j < i → s.data.toList[j]? ≠ some 10) → no ≤ i + 1 → out.length ≤ i →
    linesU k (bs (s.data.toList.drop st)) no = some ls → ref11_Read.g0 s some d (st : Int) (no : Int) (i : Int) out = readU ls out
  | 0, i, st, no, k, out, ls, h, hst, hi, hno, hn, ho, hl => by omega
  | d + 1, i, st, no, k, out, ls, h, hst, hi, hno, hn, ho, hl => by
    have hlen : s.data.toList.length = s.size := (size_list s).symm
    have w1 : IntKind.wrap .i64 ((i : Int) + 1) = ((i + 1 : Nat) : Int) := by rw [wrapN ⟨by omega, by omega⟩]; rfl
    have w2 : IntKind.wrap .i64 ((no : Int) + 1) = ((no + 1 : Nat) : Int) := by rw [wrapN ⟨by omega, by omega⟩]; rfl
    have i1 : (i : Int) + 1 = ((i + 1 : Nat) : Int) := rfl
    have sc : subC (some (st : Int)) (some (i : Int)) s.size = true := by simp [subC]; omega
    have hsub := sub_list s hst hi
    have hnn := drop_no hno
    have rm : ∀ y : In, decide (List.length out + List.length [y] ≤ rowMax) = true := fun y => decide_eq_true (Nat.le_trans (show _ ≤ 1000000 by simp; omega) (by decide))
    cases k with
    | zero => cases hl
    | succ k =>
    unfold linesU at hl
    have hbz : (bs (s.data.toList.drop st)).size ≤ 1000000 := by rw [bs_size, List.length_drop]; omega
    rw [cut1_u hbz, Option.bind_some] at hl
    obtain ⟨r, p1, p2⟩ := parse_same (s := bs ((s.data.toList.drop st).take (i - st))) (by rw [bs_size, List.length_take, List.length_drop]; omega)
    -- what follows a line
    have line : ∀ (ls' : List (Int × ByteArray)), ls = ((no : Int), bs ((s.data.toList.drop st).take (i - st))) :: ls' → (∀ o2 : List In, o2.length ≤ i + 1 → ref11_Read.g0 s some d ((i + 1 : Nat) : Int) ((no + 1 : Nat) : Int) ((i + 1 : Nat) : Int) o2 = readU ls' o2) →
        ((ref11_Parse.u (bs ((s.data.toList.drop st).take (i - st)))).bind fun y1 =>
          bif (y1.2 != 0) then
           bif (y1.2 != 11) then
            some (([] : List In), (no : Int), y1.2)
           else
            bif (y1.2 == 0) then
             bif (decide (List.length out + List.length [y1.1] ≤ rowMax)) then
              ref11_Read.g0 s some d ((i + 1 : Nat) : Int) ((no + 1 : Nat) : Int) ((i + 1 : Nat) : Int) (out ++ [y1.1])
             else
              none
            else
             ref11_Read.g0 s some d ((i + 1 : Nat) : Int) ((no + 1 : Nat) : Int) ((i + 1 : Nat) : Int) out
          else
           bif (y1.2 == 0) then
            bif (decide (List.length out + List.length [y1.1] ≤ rowMax)) then
             ref11_Read.g0 s some d ((i + 1 : Nat) : Int) ((no + 1 : Nat) : Int) ((i + 1 : Nat) : Int) (out ++ [y1.1])
            else
             none
           else
            ref11_Read.g0 s some d ((i + 1 : Nat) : Int) ((no + 1 : Nat) : Int) ((i + 1 : Nat) : Int) out) = readU ls out := fun ls' e hrest => by
      rw [e]
      unfold readU
      rw [p1, p2, Option.bind_some, Option.bind_some]
      by_cases h0 : r.2 = 0
      · rw [h0, show ((0 : Int) != 0) = false from rfl, cond_false, show ((0 : Int) == 0) = true from rfl, cond_true, cond_true, rm, cond_true]
        exact hrest _ (by simp; omega)
      · rw [bne_iff_ne.2 h0, cond_true, beq_eq_false_iff_ne.2 h0, cond_false, cond_false]
        by_cases h11 : r.2 = 11
        · rw [h11, show ((11 : Int) != 11) = false from rfl, cond_false, show ((11 : Int) == 11) = true from rfl, cond_true]
          exact hrest _ (by omega)
        · rw [bne_iff_ne.2 h11, cond_true, beq_eq_false_iff_ne.2 h11, cond_false]
    rw [ref11_Read.g0]
    by_cases hend : i = s.size
    · rw [decide_eq_false (show ¬ (i : Int) < (s.size : Int) by omega), cond_false, sc, cond_true, hsub, w1, w2, i1]
      have e1 : (s.data.toList.drop st).take (i - st) = s.data.toList.drop st := List.take_of_length_le (by rw [List.length_drop, hlen]; omega)
      have hc := cut_none (s := bs (s.data.toList.drop st)) (by rw [bs_list, ← e1]; exact hnn)
      rw [hc] at hl
      have hls : ls = [((no : Int), bs (s.data.toList.drop st))] := (Option.some.inj hl).symm
      refine line [] (by rw [e1]; exact hls) (fun o2 _ => ?_)
      have hd : d = 0 := by omega
      subst hd
      rfl
    · have hil : i < s.data.toList.length := by omega
      have hb : bAt s i = ((s.data.toList[i]).toNat : Int) := by unfold bAt; rw [List.getD_eq_getElem?_getD, List.getElem?_eq_getElem hil]; rfl
      rw [decide_eq_true (show (i : Int) < (s.size : Int) by omega), cond_true, idxOK_nat (show i < s.size by omega), cond_true, Int.toNat_natCast, hb]
      by_cases h10 : s.data.toList[i] = 10
      · rw [h10, show (((10 : UInt8).toNat : Int) != 10) = false from rfl, cond_false, sc, cond_true, hsub, w1, w2, i1]
        have e1 : s.data.toList.drop st = (s.data.toList.drop st).take (i - st) ++ 10 :: s.data.toList.drop (i + 1) := by
          conv => lhs; rw [← List.take_append_drop (i - st) (s.data.toList.drop st), List.drop_drop, show st + (i - st) = i by omega, List.drop_eq_getElem_cons hil, h10]
        have hc := cut_line (s := bs (s.data.toList.drop st)) (a := (s.data.toList.drop st).take (i - st)) (r := s.data.toList.drop (i + 1)) ((bs_list _).trans e1) hnn
        rw [hc] at hl
        obtain ⟨ls', l1, l2⟩ := Option.map_eq_some_iff.1 (show (linesU k (bs (s.data.toList.drop (i + 1))) (no + 1)).map _ = some ls from hl)
        exact line ls' l2.symm (fun o2 ho2 => rread_go hs d (i + 1) (i + 1) (no + 1) k o2 ls' (by omega) (Nat.le_refl _) (by omega) (fun j h1 h2 => by omega) (by omega) ho2 l1)
      · have hne : (((s.data.toList[i]).toNat : Int) != 10) = true := by
          rw [bne_iff_ne]; intro e; exact h10 (UInt8.toNat_inj.1 (by show _ = 10; omega))
        rw [hne, cond_true, i1]
        refine rread_go hs d (i + 1) st no (k + 1) out ls (by omega) (by omega) (by omega) (fun j h1 h2 => ?_) (by omega) (by omega) ?_
        · rcases Nat.lt_or_ge j i with h3 | h3
          · exact hno j h1 h3
          · rw [show j = i by omega, List.getElem?_eq_getElem hil]; exact fun e => h10 (Option.some.inj e)
        · unfold linesU
          rw [cut1_u hbz, Option.bind_some]; exact hl
theorem rread_u {s : ByteArray} (hs : s.size ≤ 100000) : ∃ r, asm_Read.u s = some r ∧ ref11_Read.u s = some r ∧ r.1.length ≤ s.size + 1 := by
  obtain ⟨l, h1, h2, h3⟩ := lines_some (s.size + 1) s 1 (by omega) (by omega)
  have h4 : ∀ x ∈ l, x.2.size ≤ 100000 := fun x hx => by have := h3 x hx; omega
  obtain ⟨r, r1, r2, r3⟩ := Read_some hs
  refine ⟨r, r1, ?_, r2⟩
  unfold asm_Read.u at r1
  rw [h1, Option.bind_some, decide_eq_true (show l.length ≤ 4294967296 by omega), cond_true, all_some h4, cond_true] at r1
  unfold ref11_Read.u ref11_Read.w
  rw [decide_eq_true (show (s.size : Int) ≤ 4611686018427387904 by omega), cond_true, show Int.toNat ((s.size : Int) + 1 - 0) = s.size + 1 by omega]
  have := rread_go hs (s.size + 1) 0 0 1 (s.size + 1) [] l (by omega) (Nat.le_refl _) (Nat.zero_le _) (fun j h1 h2 => by omega) (by omega) (Nat.le_refl _) (by rw [List.drop_zero, bs_of]; exact h1)
  exact this.trans r1
theorem law_AsmTexts {l : List In} (hl : ∀ x ∈ l, InOK x) (s : ByteArray) : law11_AsmTexts.u l s = some true := by
  unfold law11_AsmTexts.u law11_AsmTexts.s
  by_cases h40 : l.length > 40
  · rw [decide_eq_true (show ((List.length l : Nat) : Int) > 40 by omega), cond_true, alive11]; rfl
  · by_cases h : s.size > 1000
    · rw [decide_eq_false (show ¬ ((List.length l : Nat) : Int) > 40 by omega), cond_false, decide_eq_true (show (s.size : Int) > 1000 by omega), cond_true, alive11]; rfl
    · obtain ⟨p, p1, p2⟩ := print_same l l (bs []) hl (by rw [bs_size, List.length_nil]; omega)
      obtain ⟨r, r1, r2, r3⟩ := rread_u (s := s) (by omega)
      have a1 : asm_Print.u l = some p := by
        unfold asm_Print.u asm_Print.w
        rw [decide_eq_true (show ((List.length l : Nat) : Int) ≤ 4611686018427387904 by omega), cond_true]; exact p1
      have a2 : ref11_Print.u l = some p := by
        unfold ref11_Print.u ref11_Print.w
        rw [decide_eq_true (show ((List.length l : Nat) : Int) ≤ 4611686018427387904 by omega), cond_true]; exact p2
      rw [decide_eq_false (show ¬ ((List.length l : Nat) : Int) > 40 by omega), cond_false, decide_eq_false (show ¬ (s.size : Int) > 1000 by omega), cond_false, a1, a2, r1, r2]
      simp only [Option.bind_some, beq_self_eq_true, cond_true, same11_u (l := r.1) (by omega), alive11]
theorem row_AsmTexts (xs : Args [.slice tyIn, .str]) (h : fitsA _ xs) : law11_AsmTexts.u xs.1 xs.2.1 = some true := law_AsmTexts (fun x hx => inOK_of (h.1.2 x hx)) _
end Go.Proofs.YtmmooplcdkmapaaGreatDoor.K

/- Frames, plainly: what is made, and its text: the law Makes. -/
import Derived.Test.YtmphlhnpichonaaDoorL13d
import Derived.Lib.Join
set_option maxRecDepth 100000
set_option linter.unusedVariables false
set_option linter.unusedSimpArgs false
namespace Go.Proofs.YtmphlhnpichonaaDoor.K
open Go

/-- Numbers, each behind a blank. -/
def nums (l : List Int) : List UInt8 := l.flatMap fun n => 32 :: Lib.itoa n
theorem nums_len : ∀ {l : List Int}, l.all word_Fine.t = true → (nums l).length ≤ l.length * 4294967297
  | [], _ => by simp [nums]
  | n :: l, h => by
    simp only [List.all_cons, Bool.and_eq_true] at h
    have h1 := itoa_len h.1
    have h2 := nums_len h.2
    unfold nums at h2 ⊢
    rw [List.flatMap_cons, List.length_append, List.length_cons, List.length_cons]
    omega
theorem join_list (x : ByteArray) (r : List ByteArray) (sep : ByteArray) : (joinB (x :: r) sep).data.toList = x.data.toList ++ (r.map fun y => sep.data.toList ++ y.data.toList).flatten := by
  unfold joinB
  rw [List.map_cons, Lib.join_cons]
  simp [Lib.joinTail, List.map_map, Function.comp_def]
theorem join_size (x : ByteArray) (r : List ByteArray) (sep : ByteArray) : (joinB (x :: r) sep).size = x.data.toList.length + ((r.map fun y => sep.data.toList ++ y.data.toList).flatten).length := by
  rw [size_list, join_list, List.length_append]

theorem text_fine {n : Int} (h : word_Fine.t n = true) : word_Text.u n = some (txt n, 0) := by
  rw [word_text, textOf, h]; rfl

/-- The row of a name and numbers. -/
def rowB (name : List UInt8) (l : List Int) : ByteArray := bs (name ++ nums l)
theorem row_go (name : ByteArray) (l0 : List Int) : ∀ (l : List Int) (acc : List ByteArray), l.all word_Fine.t = true → acc.length + l.length ≤ 1000 →
    frame_row.g0 l0 some l acc = (strings_Join.u (acc ++ l.map txt) (bs [32])).bind some
  | [], acc, _, _ => by simp only [frame_row.g0, List.map_nil, List.append_nil]
  | n :: l, acc, h, hl => by
    simp only [List.all_cons, Bool.and_eq_true] at h
    simp only [List.length_cons] at hl
    have hr : decide (List.length acc + List.length [txt n] ≤ rowMax) = true := by
      apply decide_eq_true
      have : 1001 ≤ rowMax := by decide
      simp only [List.length_cons, List.length_nil]; omega
    simp only [frame_row.g0, text_fine h.1, Option.bind_some, hr, cond_true]
    rw [row_go name l0 l (acc ++ [txt n]) h.2 (by simp; omega)]
    simp
theorem row_u (name : List UInt8) (l : List Int) (hf : l.all word_Fine.t = true) (hn : name.length ≤ 100) (hl : l.length ≤ 100) : frame_row.u (bs name) l = some (rowB name l) := by
  have hlist : (joinB (bs name :: l.map txt) (bs [32])).data.toList = name ++ nums l := by
    rw [join_list, bs_list]
    congr 1
    simp only [List.map_map, Function.comp_def, bs_list, txt_list, nums]
    rw [← List.flatMap_def]
    rfl
  have hj : strings_Join.u ([bs name] ++ l.map txt) (bs [32]) = some (rowB name l) := by
    unfold strings_Join.u
    have h1 := nums_len hf
    have e : joinB ([bs name] ++ l.map txt) (bs [32]) = rowB name l := ba_ext (by rw [List.singleton_append, hlist]; rfl)
    rw [e, decide_eq_true (show ([bs name] ++ l.map txt).length ≤ 140737488355328 by simp; omega), decide_eq_true (show (rowB name l).size ≤ 140737488355328 by
      unfold rowB
      rw [bs_size, List.length_append]; omega)]
    rfl
  unfold frame_row.u frame_row.w
  rw [dec_len (show l.length ≤ 100 from hl) (by decide), cond_true, row_go (bs name) l l [bs name] hf (by simp; omega), hj, Option.bind_some]

theorem number_u {n : Int} (h : word_Fine.t n = true) : ref13_number.u n = some (bs (32 :: Lib.itoa n)) := by
  unfold ref13_number.u ref13_number.s
  rw [ref_text, textOf, h]
  have h1 := itoa_len h
  have hsz : decide ((bs [32]).size + (txt n).size ≤ catMax) = true := by
    apply decide_eq_true
    rw [bs_size, size_list, txt_list]
    unfold catMax
    simp; omega
  simp only [cond_true, Option.bind_some, hsz]
  congr 1

/-- A loop that writes numbers. -/
theorem write_nums {Ω : Type} (g : Nat → ByteArray → Int → Option Ω) (fin : ByteArray → Option Ω) (l : List Int) (hf : l.all word_Fine.t = true) (N : Nat) (hN : N ≤ l.length) (hN2 : l.length ≤ 100)
    (h0 : ∀ a, g 0 a (N : Int) = fin a) (h1 : ∀ (d i : Nat) (a : ByteArray), i + (d + 1) = N → g (d + 1) a (i : Int) = (ref13_number.u (List.getD l i 0)).bind fun y => bif decide (a.size + y.size ≤ catMax) then g d (a ++ y) ((i : Int) + 1) else none) :
    ∀ (d i : Nat) (a : ByteArray), i + d = N → (a.size : Nat) + d * 4294967297 ≤ 1000000000000 → g d a (i : Int) = fin (a ++ bs (nums ((l.drop i).take d)))
  | 0, i, a, h, _ => by
    rw [show i = N by omega, h0]
    congr 1
    apply ba_ext
    simp [nums, bs_list]
  | d + 1, i, a, h, ha => by
    have hi : i < l.length := by omega
    have hfi : word_Fine.t (List.getD l i 0) = true := by
      rw [all_getD word_Fine.t 0] at hf
      exact all_range.1 hf i hi
    have hlen := itoa_len hfi
    rw [h1 d i a h, number_u hfi]
    have hsz : decide (a.size + (bs (32 :: Lib.itoa (List.getD l i 0))).size ≤ catMax) = true := by
      apply decide_eq_true
      rw [bs_size]
      unfold catMax
      simp only [List.length_cons]; omega
    simp only [Option.bind_some, hsz, cond_true]
    have := write_nums g fin l hf N hN hN2 h0 h1 d (i + 1) (a ++ bs (32 :: Lib.itoa (List.getD l i 0))) (by omega) (by
      rw [ByteArray.size_append, bs_size, List.length_cons]; omega)
    rw [show ((i + 1 : Nat) : Int) = (i : Int) + 1 by omega] at this
    rw [this]
    congr 1
    apply ba_ext
    rw [app_list, app_list, app_list, bs_list, bs_list, bs_list, List.append_assoc]
    congr 1
    rw [List.drop_eq_getElem_cons hi, List.take_succ_cons]
    simp only [nums, List.flatMap_cons]
    simp [List.getD, hi]

def textF (f : Fr) : ByteArray := bif FrFine f then bs ([112, 99] ++ nums [f.1] ++ (bif f.2.1 then [32, 98, 97, 100] else []) ++ [32, 114] ++ nums f.2.2.1 ++ [32, 109] ++ nums f.2.2.2.1 ++ [32, 115] ++ nums (f.2.2.2.2.2.1.take f.2.2.2.2.1.toNat)) else bs []

theorem all_place_fine {l : List Int} (h : l.all frame_place.t = true) : l.all word_Fine.t = true := by
  rw [List.all_eq_true] at h ⊢
  intro x hx
  have := place_range.1 (h x hx)
  exact fine_iff.2 ⟨by omega, by omega⟩

theorem join_u {x : ByteArray} {r : List ByteArray} (h1 : r.length ≤ 100) (h2 : (joinB (x :: r) (bs [32])).size ≤ 140737488355328) : strings_Join.u (x :: r) (bs [32]) = some (joinB (x :: r) (bs [32])) := by
  unfold strings_Join.u
  rw [decide_eq_true (show (x :: r).length ≤ 140737488355328 by simp; omega), decide_eq_true h2]
  rfl

theorem frame_text {f : Fr} (h : FrOK f) : frame_Text.u f = some (textF f) := by
  unfold frame_Text.u frame_Text.s textF
  rw [frame_fine h]
  cases hf : FrFine f with
  | false => rfl
  | true =>
    obtain ⟨pc, bad, r, m, d, s, u⟩ := f
    obtain ⟨hr, hm, hs⟩ := h
    simp only at hr hm hs
    have hf' := hf
    unfold FrFine at hf'
    simp only [Bool.and_eq_true, decide_eq_true_eq] at hf'
    obtain ⟨⟨⟨q1, q2, q3⟩, q4, q5⟩, q6, q7⟩ := hf'
    have p1 := place_range.1 q1
    have f1 : List.all [pc] word_Fine.t = true := by simp; exact fine_iff.2 ⟨by omega, by omega⟩
    have e1 : List.take (subHi none 8 - subLo none) (List.drop (subLo none) r) = r := by
      show List.take (8 - 0) (List.drop 0 r) = r
      rw [List.drop_zero, List.take_of_length_le (by omega)]
    have e2 : List.take (subHi none 16 - subLo none) (List.drop (subLo none) m) = m := by
      show List.take (16 - 0) (List.drop 0 m) = m
      rw [List.drop_zero, List.take_of_length_le (by omega)]
    have e3 : List.take (subHi (some d) 8 - subLo none) (List.drop (subLo none) s) = s.take d.toNat := by
      show List.take (d.toNat - 0) (List.drop 0 s) = _
      rw [List.drop_zero, Nat.sub_zero]
    have c1 : subC none none 8 = true := rfl
    have c2 : subC none none 16 = true := rfl
    have c3 : subC none (some d) 8 = true := by simp [subC]; omega
    have f6 := all_place_fine q6
    have l1 := nums_len f1
    have l2 := nums_len q4
    have l3 := nums_len q5
    have l4 := nums_len f6
    have lt : (s.take d.toNat).length ≤ 8 := by rw [List.length_take]; omega
    simp only [Option.bind_some, Bool.not_true, cond_false, c1, c2, c3, cond_true, e1, e2, e3]
    rw [row_u [112, 99] [pc] f1 (by simp) (by simp)]
    simp only [Option.bind_some]
    have r1 : decide (List.length [rowB [112, 99] [pc]] + List.length [bs [98, 97, 100]] ≤ rowMax) = true := rfl
    rw [row_u [114] r q4 (by decide) (by omega), row_u [109] m q5 (by decide) (by omega), row_u [115] (s.take d.toNat) f6 (by decide) (by omega)]
    simp only [Option.bind_some, r1, cond_true]
    cases bad with
    | true =>
      simp only [cond_true]
      have r2 : decide (List.length ([rowB [112, 99] [pc]] ++ [bs [98, 97, 100]]) + List.length [rowB [114] r, rowB [109] m, rowB [115] (s.take d.toNat)] ≤ rowMax) = true := rfl
      rw [r2, cond_true]
      have hl := join_list (rowB [112, 99] [pc]) [bs [98, 97, 100], rowB [114] r, rowB [109] m, rowB [115] (s.take d.toNat)] (bs [32])
      rw [show (([rowB [112, 99] [pc]] ++ [bs [98, 97, 100]]) ++ [rowB [114] r, rowB [109] m, rowB [115] (s.take d.toNat)]) = rowB [112, 99] [pc] :: [bs [98, 97, 100], rowB [114] r, rowB [109] m, rowB [115] (s.take d.toNat)] from rfl]
      rw [join_u (by simp) (by
        rw [size_list, hl]
        simp only [rowB, bs_list, List.map_cons, List.map_nil, List.flatten_cons, List.flatten_nil, List.length_append, List.length_cons, List.length_nil]
        simp only [List.length_cons, List.length_nil] at l1
        omega)]
      simp only [Option.bind_some]
      congr 1
      apply ba_ext
      rw [hl]
      simp [rowB, bs_list, List.append_assoc]
    | false =>
      simp only [cond_false]
      have r2 : decide (List.length [rowB [112, 99] [pc]] + List.length [rowB [114] r, rowB [109] m, rowB [115] (s.take d.toNat)] ≤ rowMax) = true := rfl
      rw [r2, cond_true]
      have hl := join_list (rowB [112, 99] [pc]) [rowB [114] r, rowB [109] m, rowB [115] (s.take d.toNat)] (bs [32])
      rw [show ([rowB [112, 99] [pc]] ++ [rowB [114] r, rowB [109] m, rowB [115] (s.take d.toNat)]) = rowB [112, 99] [pc] :: [rowB [114] r, rowB [109] m, rowB [115] (s.take d.toNat)] from rfl]
      rw [join_u (by simp) (by
        rw [size_list, hl]
        simp only [rowB, bs_list, List.map_cons, List.map_nil, List.flatten_cons, List.flatten_nil, List.length_append, List.length_cons, List.length_nil]
        simp only [List.length_cons, List.length_nil] at l1
        omega)]
      simp only [Option.bind_some]
      congr 1
      apply ba_ext
      rw [hl]
      simp [rowB, bs_list, List.append_assoc]

theorem ref_textF {f : Fr} (h : FrOK f) : ref13_Text.u f = some (textF f) := by
  unfold ref13_Text.u ref13_Text.w textF
  rw [ref_fine h]
  cases hf : FrFine f with
  | false => rfl
  | true =>
    obtain ⟨pc, bad, r, m, d, s, u⟩ := f
    obtain ⟨hr, hm, hs⟩ := h
    simp only at hr hm hs
    have hf' := hf
    unfold FrFine at hf'
    simp only [Bool.and_eq_true, decide_eq_true_eq] at hf'
    obtain ⟨⟨⟨q1, q2, q3⟩, q4, q5⟩, q6, q7⟩ := hf'
    have p1 := place_range.1 q1
    have f1 : word_Fine.t pc = true := fine_iff.2 ⟨by omega, by omega⟩
    have f6 := all_place_fine q6
    have l1 := itoa_len f1
    have l2 := nums_len q4
    have l3 := nums_len q5
    have lt : (s.take d.toNat).length = d.toNat := by rw [List.length_take]; omega
    have g0 : ∀ a : ByteArray, a.size ≤ 600000000000 → ref13_Text.g0 (pc, bad, r, m, d, s, u) some d.toNat a 0 = some (a ++ bs (nums (s.take d.toNat))) := by
      intro a ha
      have := write_nums (fun n a i => ref13_Text.g0 (pc, bad, r, m, d, s, u) some n a i) some (s.take d.toNat) f6 d.toNat (by omega) (by omega) (fun a => rfl) (fun n i a hi => by
        show (bif idxOK (i : Int) 8 then (ref13_number.u (List.getD s (Int.toNat (i : Int)) 0)).bind _ else none) = _
        rw [idxOK_nat (by omega), cond_true, Int.toNat_natCast]
        have e : List.getD (s.take d.toNat) i 0 = List.getD s i 0 := by
          rw [List.getD_eq_getElem?_getD, List.getElem?_take, if_pos (by omega), List.getD_eq_getElem?_getD]
        rw [e]) d.toNat 0 a (by omega) (by omega)
      rw [List.drop_zero, List.take_of_length_le (by omega)] at this
      exact this
    have g1 : ∀ a : ByteArray, a.size ≤ 300000000000 → ref13_Text.g1 (pc, bad, r, m, d, s, u) some 16 a 0 = some (a ++ bs (nums m) ++ bs [32, 115] ++ bs (nums (s.take d.toNat))) := by
      intro a ha
      have := write_nums (fun n a i => ref13_Text.g1 (pc, bad, r, m, d, s, u) some n a i) (fun a => ref13_Text.g1 (pc, bad, r, m, d, s, u) some 0 a 16) m q5 16 (by omega) (by omega) (fun a => rfl) (fun n i a hi => by
        show (bif idxOK (i : Int) 16 then (ref13_number.u (List.getD m (Int.toNat (i : Int)) 0)).bind _ else none) = _
        rw [idxOK_nat (by omega), cond_true, Int.toNat_natCast]) 16 0 a rfl (by omega)
      rw [List.drop_zero, List.take_of_length_le (by omega)] at this
      refine this.trans ?_
      show (bif decide ((a ++ bs (nums m)).size + (bs [32, 115]).size ≤ catMax) then (bif decide (d ≤ 4611686018427387904) then ref13_Text.g0 (pc, bad, r, m, d, s, u) some (Int.toNat (d - 0)) ((a ++ bs (nums m)) ++ bs [32, 115]) 0 else none) else none) = _
      have hs1 : (a ++ bs (nums m)).size ≤ 400000000000 := by rw [ByteArray.size_append, bs_size]; omega
      rw [decide_eq_true (show (a ++ bs (nums m)).size + (bs [32, 115]).size ≤ catMax by unfold catMax; simp only [ByteArray.size_append, bs_size, List.length_cons, List.length_nil]; omega), decide_eq_true (show d ≤ 4611686018427387904 by omega), cond_true, cond_true, Int.sub_zero,
        g0 _ (by simp only [ByteArray.size_append, bs_size, List.length_cons, List.length_nil]; omega)]
    have g2 : ∀ a : ByteArray, a.size ≤ 100000000000 → ref13_Text.g2 (pc, bad, r, m, d, s, u) some 8 a 0 = some (a ++ bs (nums r) ++ bs [32, 109] ++ bs (nums m) ++ bs [32, 115] ++ bs (nums (s.take d.toNat))) := by
      intro a ha
      have := write_nums (fun n a i => ref13_Text.g2 (pc, bad, r, m, d, s, u) some n a i) (fun a => ref13_Text.g2 (pc, bad, r, m, d, s, u) some 0 a 8) r q4 8 (by omega) (by omega) (fun a => rfl) (fun n i a hi => by
        show (bif idxOK (i : Int) 8 then (ref13_number.u (List.getD r (Int.toNat (i : Int)) 0)).bind _ else none) = _
        rw [idxOK_nat (by omega), cond_true, Int.toNat_natCast]) 8 0 a rfl (by omega)
      rw [List.drop_zero, List.take_of_length_le (by omega)] at this
      refine this.trans ?_
      show (bif decide ((a ++ bs (nums r)).size + (bs [32, 109]).size ≤ catMax) then ref13_Text.g1 (pc, bad, r, m, d, s, u) some 16 ((a ++ bs (nums r)) ++ bs [32, 109]) 0 else none) = _
      have hs1 : (a ++ bs (nums r)).size ≤ 200000000000 := by rw [ByteArray.size_append, bs_size]; omega
      rw [decide_eq_true (show (a ++ bs (nums r)).size + (bs [32, 109]).size ≤ catMax by unfold catMax; simp only [ByteArray.size_append, bs_size, List.length_cons, List.length_nil]; omega), cond_true, g1 _ (by simp only [ByteArray.size_append, bs_size, List.length_cons, List.length_nil]; omega)]
    simp only [Option.bind_some, Bool.not_true, cond_false, number_u f1]
    have hpc : (bs [112, 99]).size + (bs (32 :: Lib.itoa pc)).size ≤ 5000000000 := by simp only [bs_size, List.length_cons, List.length_nil]; omega
    have hcat : ∀ {n : Nat}, n ≤ 100000000000 → decide (n ≤ catMax) = true := fun h => decide_eq_true (by unfold catMax; omega)
    rw [hcat (show (bs [112, 99]).size + (bs (32 :: Lib.itoa pc)).size ≤ 100000000000 by omega), cond_true]
    cases bad with
    | true =>
      simp only [cond_true]
      rw [hcat (by simp only [ByteArray.size_append, bs_size, List.length_cons, List.length_nil]; omega), hcat (by simp only [ByteArray.size_append, bs_size, List.length_cons, List.length_nil]; omega), cond_true, cond_true]
      show ref13_Text.g2 _ some 8 _ 0 = _
      rw [g2 _ (by simp only [ByteArray.size_append, bs_size, List.length_cons, List.length_nil]; omega)]
      congr 1
      apply ba_ext
      simp [app_list, bs_list, nums, List.append_assoc]
    | false =>
      simp only [cond_false]
      rw [hcat (by simp only [ByteArray.size_append, bs_size, List.length_cons, List.length_nil]; omega), cond_true]
      show ref13_Text.g2 _ some 8 _ 0 = _
      rw [g2 _ (by simp only [ByteArray.size_append, bs_size, List.length_cons, List.length_nil]; omega)]
      congr 1
      apply ba_ext
      simp [app_list, bs_list, nums, List.append_assoc]

theorem law_makes (x : Int) {f : Fr} (h : FrOK f) : law13_FrameMakes.u x f = some true := by
  unfold law13_FrameMakes.u law13_FrameMakes.s
  have e : ref13_New.t x = frame_New.t x := rfl
  simp only [e, eqFr, cond_true, beq_self_eq_true, frame_fine h, ref_fine h, frame_text h, ref_textF h, Option.bind_some, eqI_bool, alive13]
theorem row_FrameMakes (xs : Args [.int .i64, tyFr]) (h : fitsA _ xs) : law13_FrameMakes.u xs.1 xs.2.1 = some true := law_makes _ (frOK_of h.2.1)
end Go.Proofs.YtmphlhnpichonaaDoor.K

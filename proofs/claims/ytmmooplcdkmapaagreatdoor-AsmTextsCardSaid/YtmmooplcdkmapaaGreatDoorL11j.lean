/- Assembly, plainly: a written instruction is read as itself. -/
import Derived.Test.YtmmooplcdkmapaaGreatDoorL11i
set_option maxRecDepth 100000
set_option linter.unusedVariables false
set_option linter.unusedSimpArgs false
namespace Go.Proofs.YtmmooplcdkmapaaGreatDoor.K
open Go

theorem lines_j : (kindsT.all fun l => (bAt l.2.1 0 != 106) && ((bAt l.2.1 1 != 106) && (((bAt l.2.1 2 != 106) || (bAt l.2.1 1 == 105)) && ((bAt l.2.1 0 != 103) && (bAt l.2.1 1 != 103))))) = true := by kernel_rfl
theorem line_at {o : Int} (h : opcode_fine.t o = true) {p : Ln → Bool} (hp : kindsT.all p = true) : p (lineOf o) = true := by
  have := opfine_iff.1 h
  have hl : o.toNat < kindsT.length := by rw [table_len]; omega
  have hk := List.all_eq_true.1 hp (kindsT[o.toNat]) (List.getElem_mem hl)
  have e : lineOf o = kindsT[o.toNat] := by unfold lineOf; rw [List.getD_eq_getElem?_getD, List.getElem?_eq_getElem hl]; rfl
  rw [e]; exact hk
theorem names_ok : (kindsT.all fun l => !(l.1.data.toList.contains 32) && !(l.1.data.toList == [])) = true := by kernel_rfl
theorem names_find : (kindsT.all fun l => (findK l.1.data.toList kindsT 0).2 && ((lineOf (findK l.1.data.toList kindsT 0).1).1.data.toList == l.1.data.toList)) = true := by kernel_rfl
theorem find_self_all : ((List.range 48).all fun j => findK (lineOf (j : Int)).1.data.toList kindsT 0 == ((j : Int), true)) = true := by kernel_rfl
theorem find_self {o : Int} (h : opcode_fine.t o = true) : findK (lineOf o).1.data.toList kindsT 0 = (o, true) := by
  have h1 := opfine_iff.1 h
  have := List.all_eq_true.1 find_self_all o.toNat (List.mem_range.2 (by omega))
  rw [show ((o.toNat : Nat) : Int) = o by omega] at this
  simpa using this
theorem name_words {o : Int} (h : opcode_fine.t o = true) : wordsL (lineOf o).1.data.toList = [(lineOf o).1.data.toList] := by
  have := line_at h names_ok
  simp only [Bool.and_eq_true, Bool.not_eq_true', List.contains_eq_mem, decide_eq_false_iff_not, beq_eq_false_iff_ne] at this
  exact word_one this.1 this.2
theorem hi_num {x : In} (hx : InOK x) (hf : opcode_fine.t x.1 = true) (h : bAt (lineOf x.1).2.1 1 = 105) : hiW (numF x) = x.2.2.1 ∧ loW (numF x) = x.2.2.2.1 := by
  have hb := hx.b
  have hc := hx.c
  unfold numF
  rw [hf, h]
  simp only [Int.reduceBEq, Bool.true_and, cond_true]
  unfold hiW loW
  constructor <;> (split <;> split <;> omega)
theorem wr45 {n : Int} (h : wrongR 45 n = 0) : n = 0 := by
  unfold wrongR at h
  rw [show ((45 : Int) == 45) = true from rfl, cond_true] at h
  cases hn : (n != 0) with
  | true => rw [hn] at h; cases h
  | false => simpa using hn
/-- A step, when what lies ahead was written. -/
theorem asm_word {o : Int} (hf : opcode_fine.t o = true) {i : Nat} (hi : i < 3) {v : List Int} (hI : Iw o i v) {rem rest : List ByteArray} {v' : List Int} (hr : ∀ w ∈ rem, w.size ≤ 1000000) (L cs : List Int) (g : In) (h2 : List ByteArray)
    (hs : stepR (bAt (lineOf o).2.1 i) i v rem = (0, rest, v')) : asm_Parse.g0 o L some (bAt (lineOf o).2.1 i :: cs) (i : Int) g (rem, (v, ())) h2 = asm_Parse.g0 o L some cs ((i + 1 : Nat) : Int) g (rest, (v', ())) h2 ∧ Iw o (i + 1) v' := by
  have hst := step_same (lcase hf i hi rfl) hi (fun e => by have := (at105 hf hi e).1; omega) hI.good.1 rem
  have h1 := asm_step hf hi hI hr L cs g h2
  have h3 := iw_step hf hi hI rem
  rw [hst, hs] at h1 h3
  exact ⟨h1, h3 rfl⟩
theorem drop2 {c : Int} (h : c = 45 ∨ c = 114 ∨ c = 116 ∨ c = 99 ∨ c = 98 ∨ c = 112 ∨ c = 107 ∨ c = 109 ∨ c = 110 ∨ c = 103 ∨ c = 115 ∨ c = 105 ∨ c = 106) (h5 : c ≠ 105) (h6 : c ≠ 106) : c = 45 ∨ c = 114 ∨ c = 116 ∨ c = 99 ∨ c = 98 ∨ c = 112 ∨ c = 107 ∨ c = 109 ∨ c = 110 ∨ c = 103 ∨ c = 115 := by omega
theorem run_text {x : In} (hx : InOK x) (hf : opcode_fine.t x.1 = true) (k0 : wrongR (bAt (lineOf x.1).2.1 0) x.2.1 = 0) (k1 : wrongR (bAt (lineOf x.1).2.1 1) x.2.2.1 = 0) (k2 : wrongR (bAt (lineOf x.1).2.1 2) x.2.2.2.1 = 0) (L : List Int) (g : In) (h2 : List ByteArray)
    {W0 W1 W2 : List ByteArray} (e0 : W0 = (wordsL (wordI x (bAt (lineOf x.1).2.1 0) x.2.1).data.toList).map bs) (e1 : W1 = (wordsL (wordI x (bAt (lineOf x.1).2.1 1) x.2.2.1).data.toList).map bs) (e2 : W2 = (wordsL (wordI x (bAt (lineOf x.1).2.1 2) x.2.2.2.1).data.toList).map bs)
    (hr : ∀ w ∈ W0 ++ (W1 ++ W2), w.size ≤ 1000000) : asm_Parse.g0 x.1 L some (bytesI (lineOf x.1).2.1) 0 g (W0 ++ (W1 ++ W2), (List.replicate 3 0, ())) h2 = some (x, 0) := by
  have hj := line_at hf lines_j
  simp only [Bool.and_eq_true, Bool.or_eq_true, bne_iff_ne, beq_iff_eq] at hj
  obtain ⟨j0, j1, j2, g0, g1⟩ := hj
  obtain ⟨i0, i2, i1⟩ := line_i hf
  have hrn : ∀ w ∈ W1 ++ W2, w.size ≤ 1000000 := fun w hw => hr w (List.mem_append_right _ hw)
  have hrn2 : ∀ w ∈ W2, w.size ≤ 1000000 := fun w hw => hrn w (List.mem_append_right _ hw)
  have fin : ∀ (i : Int), asm_Parse.g0 x.1 L some [] i g ([], ([x.2.1, x.2.2.1, x.2.2.2.1], ())) h2 = some (x, 0) := fun i => by
    rw [asm_Parse.g0]
    show some (((IntKind.wrap .u8 x.1, (IntKind.wrap .u8 x.2.1, (IntKind.wrap .u8 x.2.2.1, (IntKind.wrap .u8 x.2.2.2.1, ())))) : In), (0 : Int)) = _
    rw [w8b hx.o, w8b hx.a, w8b hx.b, w8b hx.c]
  rw [form_list hf]
  have s0 := step_word (x := x) (c := bAt (lineOf x.1).2.1 0) hx.a k0 (drop2 (lcase hf 0 (by decide) rfl) i0 j0) (i := 0) (v := List.replicate 3 0) (fun e => by rw [e] at k0; rw [wr45 k0]; rfl) (rest := W1 ++ W2) (fun e => absurd e g0)
  rw [← e0] at s0
  obtain ⟨a0, I1⟩ := asm_word hf (by decide) (iw0 x.1) hr L [bAt (lineOf x.1).2.1 1, bAt (lineOf x.1).2.1 2] g h2 s0
  refine a0.trans ?_
  by_cases h105 : bAt (lineOf x.1).2.1 1 = 105
  · have h106 := i1 h105
    obtain ⟨hh, hl⟩ := hi_num hx hf h105
    have hn := numF_in hx
    have w2 : W2 = [] := by rw [e2, h106]; rfl
    have w1 : W1 = [bs (Lib.itoa (numF x))] := by
      rw [e1, h105]
      show (wordsL (txt (numF x)).data.toList).map bs = _
      rw [txt_list, word_one (itoa_no32 _) (itoa_ne _)]; rfl
    have s1 : stepR (bAt (lineOf x.1).2.1 1) 1 ((List.replicate 3 (0 : Int)).set 0 x.2.1) (W1 ++ W2) = (0, [], [x.2.1, x.2.2.1, x.2.2.2.1]) := by
      rw [h105, w1, w2]
      show oneR 105 1 (bs (Lib.itoa (numF x))) [] _ = _
      unfold oneR
      rw [bs_list, parse_itoa ⟨by omega, by omega⟩]
      simp only [Int.reduceBEq, cond_true, show ((0 : Int) != 0) = false from rfl, cond_false, decide_eq_false (show ¬ numF x < -32768 by omega), decide_eq_false (show ¬ numF x > 32767 by omega), hh, hl]
      rfl
    obtain ⟨a1, I2⟩ := asm_word hf (by decide) I1 hrn L [bAt (lineOf x.1).2.1 2] g h2 s1
    refine a1.trans ?_
    have s2 : stepR (bAt (lineOf x.1).2.1 2) 2 [x.2.1, x.2.2.1, x.2.2.2.1] [] = (0, [], [x.2.1, x.2.2.1, x.2.2.2.1]) := by rw [h106]; rfl
    obtain ⟨a2, _⟩ := asm_word hf (by decide) I2 (fun w hw => by cases hw) L [] g h2 s2
    exact a2.trans (fin _)
  · have s1 := step_word (x := x) (c := bAt (lineOf x.1).2.1 1) hx.b k1 (drop2 (lcase hf 1 (by decide) rfl) h105 j1) (i := 1) (v := (List.replicate 3 (0 : Int)).set 0 x.2.1) (fun e => by rw [e] at k1; rw [wr45 k1]; rfl) (rest := W2) (fun e => absurd e g1)
    rw [← e1] at s1
    obtain ⟨a1, I2⟩ := asm_word hf (by decide) I1 hrn L [bAt (lineOf x.1).2.1 2] g h2 s1
    refine a1.trans ?_
    have n6 : bAt (lineOf x.1).2.1 2 ≠ 106 := j2.resolve_right h105
    have s2 := step_word (x := x) (c := bAt (lineOf x.1).2.1 2) hx.c k2 (drop2 (lcase hf 2 (by decide) rfl) i2 n6) (i := 2) (v := ((List.replicate 3 (0 : Int)).set 0 x.2.1).set 1 x.2.2.1) (fun e => by rw [e] at k2; rw [wr45 k2]; rfl) (rest := []) (fun _ => rfl)
    rw [← e2, List.append_nil] at s2
    obtain ⟨a2, _⟩ := asm_word hf (by decide) I2 hrn2 L [] g h2 s2
    exact a2.trans (fin _)
theorem text_words {x : In} (hx : InOK x) (h : chk x = 0) : wordsL (textI x).1.data.toList = (lineOf x.1).1.data.toList :: (wordsL (wordI x (bAt (lineOf x.1).2.1 0) x.2.1).data.toList ++ (wordsL (wordI x (bAt (lineOf x.1).2.1 1) x.2.2.1).data.toList ++ wordsL (wordI x (bAt (lineOf x.1).2.1 2) x.2.2.2.1).data.toList)) := by
  obtain ⟨hf, _⟩ := chk0 hx h
  unfold textI
  rw [h, show ((0 : Int) != 0) = false from rfl, cond_false]
  show wordsL (((((lineOf x.1).1 ++ _) ++ _) ++ _) : ByteArray).data.toList = _
  rw [words_pad, words_pad, words_pad, name_words hf]
  simp only [List.append_assoc]; rfl
theorem text_size {x : In} (hx : InOK x) (h : chk x = 0) : (textI x).1.size ≤ 100 := by
  obtain ⟨hf, _⟩ := chk0 hx h
  obtain ⟨_, z2⟩ := text_sizes hx hf (bAt (lineOf x.1).2.1 0) (bAt (lineOf x.1).2.1 1)
  have h1 := padW_size (wordI x (bAt (lineOf x.1).2.1 2) x.2.2.2.1)
  have h2 := word_size hx (c := bAt (lineOf x.1).2.1 2) (n := x.2.2.2.1) hx.c
  unfold textI
  rw [h, show ((0 : Int) != 0) = false from rfl, cond_false]
  show (((((lineOf x.1).1 ++ _) ++ _) ++ _) : ByteArray).size ≤ 100
  rw [ByteArray.size_append]; omega
/-- What was written is read. -/
theorem parse_text11 {x : In} (hx : InOK x) (h : chk x = 0) : asm_Parse.u (textI x).1 = some (x, 0) := by
  obtain ⟨hf, _, k0, k1, k2⟩ := chk0 hx h
  have hs := text_size hx h
  obtain ⟨s, hsx⟩ : ∃ s, (textI x).1 = s := ⟨_, rfl⟩
  have hw := text_words hx h
  rw [hsx] at hs hw ⊢
  have hsz := size_list s
  obtain ⟨hp1, hp2⟩ := pieces_len s.data.toList
  unfold asm_Parse.u asm_Parse.w
  rw [split11_u (by omega), Option.bind_some, decide_eq_true (show (((List.length ((pieces s.data.toList).map bs) : Nat) : Int) ≤ 4611686018427387904) by rw [List.length_map]; omega), cond_true, filt _ _ _ _ _ (by simp; omega), List.nil_append]
  have hr : ∀ w ∈ (wordsL s.data.toList).map bs, w.size ≤ 1000000 := fun w hw => by
    obtain ⟨p, hp, rfl⟩ := List.mem_map.1 hw
    have := hp2 p (List.mem_filter.1 hp |>.1)
    rw [bs_size]; omega
  show asm_Parse.g1 _ _ some [] ((wordsL s.data.toList).map bs) = _
  rw [hw, List.map_cons, List.map_append, List.map_append] at hr ⊢
  obtain ⟨R, hR⟩ : ∃ R, (wordsL (wordI x (bAt (lineOf x.1).2.1 0) x.2.1).data.toList).map bs ++ ((wordsL (wordI x (bAt (lineOf x.1).2.1 1) x.2.2.1).data.toList).map bs ++ (wordsL (wordI x (bAt (lineOf x.1).2.1 2) x.2.2.2.1).data.toList).map bs) = R := ⟨_, rfl⟩
  have run := fun L g h2 => run_text hx hf k0 k1 k2 L g h2 rfl rfl rfl (fun w hw => hr w (List.mem_cons_of_mem _ hw))
  rw [hR] at run ⊢
  rw [asm_Parse.g1]
  have tk : (List.drop (subLo (some (1))) (bs (lineOf x.1).1.data.toList :: R)).take (subHi none (List.length (bs (lineOf x.1).1.data.toList :: R)) - subLo (some (1))) = R := by
    show R.take ((R.length + 1) - 1) = R
    rw [Nat.add_sub_cancel, List.take_length]
  have hb : decide (((List.length (bytesI (lineOf x.1).2.1) : Nat) : Int) ≤ 4611686018427387904) = true := by rw [form_list hf]; show decide (((3 : Nat) : Int) ≤ 4611686018427387904) = true; decide
  rw [len_ne, cond_false, idx_0, cond_true, subc_tail, cond_true, show List.getD (bs (lineOf x.1).1.data.toList :: R) 0 (bs []) = bs (lineOf x.1).1.data.toList from rfl, find_u, Option.bind_some, bs_list, find_self hf]
  simp only [Bool.not_true, cond_false, form_u, hf, cond_true, Option.bind_some, hb, tk]
  exact run _ _ _
end Go.Proofs.YtmmooplcdkmapaaGreatDoor.K

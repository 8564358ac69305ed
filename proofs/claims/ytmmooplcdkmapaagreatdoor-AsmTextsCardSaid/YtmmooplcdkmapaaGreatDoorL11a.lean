/- Assembly, plainly: an instruction's text. -/
import Derived.Test.YtmmooplcdkmapaaGreatDoorZ11
import Derived.Test.YtmmooplcdkmapaaGreatDoorL10b
import Derived.Test.YtmmooplcdkmapaaGreatDoorL10i
import Derived.Test.YtmmooplcdkmapaaGreatDoorL01c
import Derived.Test.YtmmooplcdkmapaaGreatDoorL08r
set_option maxRecDepth 100000
set_option linter.unusedVariables false
set_option linter.unusedSimpArgs false
namespace Go.Proofs.YtmmooplcdkmapaaGreatDoor.K
open Go

theorem alive11 : law11_alive.u = some true := by kernel_rfl

theorem name_u (o : Int) : opcode_Name.u o = some (bif opcode_fine.t o then (lineOf o).1 else bs []) := by
  unfold opcode_Name.u opcode_Name.s lineOf
  cases h : opcode_fine.t o with
  | false => rfl
  | true =>
    have := opfine_iff.1 h
    simp only [Bool.not_true, cond_false, idxOK_of this.1 (show o < ((48 : Nat) : Int) by omega), cond_true]
    rfl
theorem dd_ne (u : Nat) : Lib.decDigits u ≠ [] := by
  rw [Lib.decDigits]; split <;> simp
theorem txt_ne (n : Int) : ((txt n).data.toList == []) = false := by
  rw [txt_list]
  have : Lib.itoa n ≠ [] := by
    unfold Lib.itoa; split
    · simp
    · exact dd_ne _
  cases h : Lib.itoa n with
  | nil => exact absurd h this
  | cons a r => rfl
theorem txt_le {n : Int} (h : -32768 ≤ n ∧ n ≤ 32767) : (txt n).size ≤ 11 := by
  rw [size_list, txt_list]
  unfold Lib.itoa
  split
  · have := dd_short (u := n.natAbs) (by omega); simp; omega
  · have := dd_short (u := n.toNat) (by omega); omega
theorem number_t {n : Int} (h : 0 ≤ n ∧ n ≤ 255) : asm_number.u n = some (txt n) := by
  unfold asm_number.u asm_number.s
  rw [wrapN ⟨by omega, by omega⟩, text_fine (fine_iff.2 ⟨by omega, by omega⟩)]; rfl
theorem numF_in {x : In} (h : InOK x) : -32768 ≤ numF x ∧ numF x ≤ 32767 := by
  have := h.b; have := h.c
  unfold numF
  cases (opcode_fine.t x.1 && (bAt (lineOf x.1).2.1 1 == 105)) with
  | false => simp
  | true =>
    simp only [cond_true]
    split <;> omega
def waysT : List ByteArray := [bs [112, 114, 105], bs [102, 97, 105, 114], bs [97, 110, 121]]
/-- The word of an operand. -/
def wordI (x : In) (c n : Int) : ByteArray :=
  bif c == 105 then txt (numF x) else bif c == 116 then bs [64] ++ txt n else bif c == 109 then List.getD waysT n.toNat (bs []) else bif c == 110 then txt n else bif c == 115 then txt n else
  bif c == 103 then (bif n == 8 then bs [] else bs [105, 102, 32, 114] ++ txt n) else bif c == 106 then bs [] else bif c == 45 then bs [] else ofBytes [c] ++ txt n
theorem letter_cases {c : UInt8} (hc : c ∈ letters) : (c.toNat : Int) = 45 ∨ (c.toNat : Int) = 114 ∨ (c.toNat : Int) = 116 ∨ (c.toNat : Int) = 99 ∨ (c.toNat : Int) = 98 ∨ (c.toNat : Int) = 112 ∨ (c.toNat : Int) = 107 ∨ (c.toNat : Int) = 109 ∨ (c.toNat : Int) = 110 ∨ (c.toNat : Int) = 103 ∨ (c.toNat : Int) = 115 ∨ (c.toNat : Int) = 105 ∨ (c.toNat : Int) = 106 := by
  simp only [letters, List.mem_cons, List.not_mem_nil, or_false] at hc
  rcases hc with rfl | rfl | rfl | rfl | rfl | rfl | rfl | rfl | rfl | rfl | rfl | rfl | rfl <;> decide
theorem enc_letter : Utf8.encode 114 = ofBytes [114] ∧ Utf8.encode 99 = ofBytes [99] ∧ Utf8.encode 98 = ofBytes [98] ∧ Utf8.encode 112 = ofBytes [112] ∧ Utf8.encode 107 = ofBytes [107] := ⟨by kernel_rfl, by kernel_rfl, by kernel_rfl, by kernel_rfl, by kernel_rfl⟩
theorem cat_ok {a b : Nat} (h : a + b ≤ 100000) : decide (a + b ≤ catMax) = true := decide_eq_true (Nat.le_trans h (by decide))
theorem bif_size {b : Bool} {u v : ByteArray} {m : Nat} (hu : u.size ≤ m) (hv : v.size ≤ m) : (bif b then u else v).size ≤ m := by cases b <;> assumption
theorem word_size {x : In} (hx : InOK x) {c n : Int} (hn : 0 ≤ n ∧ n ≤ 255) : (wordI x c n).size ≤ 20 := by
  have h1 := txt_le (numF_in hx)
  have h2 := txt_le (n := n) ⟨by omega, by omega⟩
  have e : ∀ a b : ByteArray, (a ++ b).size = a.size + b.size := fun a b => ByteArray.size_append ..
  have hw : ∀ k : Nat, (List.getD waysT k (bs [])).size ≤ 20 := fun k => by
    match k with
    | 0 => decide
    | 1 => decide
    | 2 => decide
    | k + 3 => exact Nat.zero_le _
  have z : (bs []).size ≤ 20 := Nat.zero_le _
  have p : ∀ l : List UInt8, l.length ≤ 5 → (bs l ++ txt n).size ≤ 20 := fun l hl => by rw [e, bs_size]; omega
  unfold wordI
  exact bif_size (by omega) (bif_size (p [64] (by decide)) (bif_size (hw _) (bif_size (by omega) (bif_size (by omega) (bif_size (bif_size z (p _ (by decide))) (bif_size z (bif_size z (p [_] (by simp)))))))))
theorem shown_u {x : In} (hx : InOK x) {c n : Int} (hc : c = 45 ∨ c = 114 ∨ c = 116 ∨ c = 99 ∨ c = 98 ∨ c = 112 ∨ c = 107 ∨ c = 109 ∨ c = 110 ∨ c = 103 ∨ c = 115 ∨ c = 105 ∨ c = 106) (hn : 0 ≤ n ∧ n ≤ 255) (hm : c = 109 → n ≤ 2) : asm_shown.u x c n = some (wordI x c n) := by
  have h1 := txt_le (numF_in hx)
  have h2 := txt_le (n := n) ⟨by omega, by omega⟩
  obtain ⟨u1, u2, u3, u4, u5⟩ := enc_letter
  have hk : ∀ l : List UInt8, l.length ≤ 10 → decide ((bs l).size + (txt n).size ≤ catMax) = true := fun l hl => cat_ok (by rw [bs_size]; omega)
  have ho : ∀ c : Int, decide ((ofBytes [c]).size + (txt n).size ≤ catMax) = true := fun c => cat_ok (by rw [of1_size]; omega)
  unfold asm_shown.u asm_shown.s wordI
  rcases hc with rfl | rfl | rfl | rfl | rfl | rfl | rfl | rfl | rfl | rfl | rfl | rfl | rfl
  case inr.inr.inr.inr.inr.inr.inr.inl =>
    have := hm rfl
    simp only [Int.reduceBEq, cond_true, cond_false, idxOK_of hn.1 (show n < ((3 : Nat) : Int) by omega)]
    rfl
  case inr.inr.inr.inr.inr.inr.inr.inr.inr.inl =>
    simp only [Int.reduceBEq, cond_true, cond_false]
    cases (n == 8) with
    | true => rfl
    | false => simp only [cond_false, number_t hn, Option.bind_some, hk [105, 102, 32, 114] (by decide), cond_true]
  all_goals simp only [Int.reduceBEq, cond_true, cond_false, number_t hn, Option.bind_some, num_u hx, text_fine (fine_iff.2 (show -2147483648 ≤ numF x ∧ numF x ≤ 2147483647 by have := numF_in hx; omega)), hk [64] (by decide), u1, u2, u3, u4, u5, ho]

/-- A word behind a blank, if there is one. -/
def padW (w : ByteArray) : ByteArray := bif w.data.toList == [] then bs [] else bs [32] ++ w
theorem app_nil (a : ByteArray) : a ++ bs [] = a := ba_ext (by rw [app_list, bs_list, List.append_nil])
theorem padW_size (w : ByteArray) : (padW w).size ≤ w.size + 1 := by
  unfold padW
  cases (w.data.toList == [])
  · simp only [cond_false, ByteArray.size_append, bs_size, List.length_cons, List.length_nil]; omega
  · simp [bs_size]
theorem atext_step {f : ByteArray} {B : List Int} {x : In} {k : ByteArray × Int → Option (ByteArray × Int)} {d : Nat} {a w : ByteArray} {i : Nat} (hi : i < 3) (hs : f.size = 3) (hw : asm_shown.u x (bAt f i) (List.getD B i 0) = some w) (hz : a.size + w.size ≤ 1000) :
    asm_Text.g0 f B x k (d + 1) a (i : Int) = asm_Text.g0 f B x k d (a ++ padW w) ((i + 1 : Nat) : Int) := by
  rw [asm_Text.g0, hs, idxOK_nat hi, cond_true, cond_true, Int.toNat_natCast, hw, Option.bind_some]
  unfold padW
  rw [bs_list]
  cases h : (w.data.toList == []) with
  | true => rw [Bool.not_true, cond_false, cond_true, app_nil]; rfl
  | false =>
    rw [Bool.not_false, cond_true, cat_ok (by rw [bs_size]; simp; omega), cond_true, cat_ok (by rw [ByteArray.size_append, bs_size]; simp; omega), cond_true]; rfl
theorem app_assoc (a b c : ByteArray) : (a ++ b) ++ c = a ++ (b ++ c) := ba_ext (by simp only [app_list, List.append_assoc])
theorem padW_cons {w : ByteArray} (h : (w.data.toList == []) = false) : padW w = bs [32] ++ w := by unfold padW; rw [h]; rfl
theorem pre_ne (l : List UInt8) (w : ByteArray) (hl : l ≠ []) : ((bs l ++ w).data.toList == []) = false := by
  rw [app_list, bs_list]
  cases l with
  | nil => exact absurd rfl hl
  | cons a r => rfl
theorem one_ne (c : Int) (w : ByteArray) : ((ofBytes [c] ++ w).data.toList == []) = false := pre_ne [_] w (by simp)
theorem of1_bs (c : Int) : ofBytes [c] = bs [UInt8.ofNat c.toNat] := rfl
theorem ways_ne {n : Int} (h : 0 ≤ n ∧ n ≤ 2) : ((List.getD waysT n.toNat (bs [])).data.toList == []) = false := by
  obtain rfl | rfl | rfl : n = 0 ∨ n = 1 ∨ n = 2 := by omega
  all_goals decide
theorem rtext_step {B : List Int} {x : In} (hx : InOK x) {l : Ln} {k : ByteArray × Int → Option (ByteArray × Int)} {d : Nat} {a : ByteArray} {i : Nat} (hi : i < 3) (hs : l.2.1.size = 3) (hB : B.length = 4) {c n : Int} (hb : bAt l.2.1 i = c) (hg : List.getD B (i + 1) 0 = n)
    (hc : c = 45 ∨ c = 114 ∨ c = 116 ∨ c = 99 ∨ c = 98 ∨ c = 112 ∨ c = 107 ∨ c = 109 ∨ c = 110 ∨ c = 103 ∨ c = 115 ∨ c = 105 ∨ c = 106) (hn : 0 ≤ n ∧ n ≤ 255) (hm : c = 109 → n ≤ 2) (hz : a.size ≤ 900) :
    ref11_Text.g0 B x l k (d + 1) a (i : Int) = ref11_Text.g0 B x l k d (a ++ padW (wordI x c n)) ((i + 1 : Nat) : Int) := by
  have h1 := txt_le (numF_in hx)
  have h2 := txt_le (n := n) ⟨by omega, by omega⟩
  have h3 := word_size hx (c := c) hn
  have w1 : IntKind.wrap .i64 ((i + 1 : Nat) : Int) = ((i + 1 : Nat) : Int) := wrapN ⟨by omega, by omega⟩
  have i1 : ((i : Int) + 1) = ((i + 1 : Nat) : Int) := rfl
  have dg := digits_txt (n := n) hn.1 (by omega)
  have rn := refnum_u hx
  have rt : ref08_Text.u (numF x) = some (txt (numF x), 0) := by
    rw [ref_text, ← word_text]; exact text_fine (fine_iff.2 (show -2147483648 ≤ numF x ∧ numF x ≤ 2147483647 by have := numF_in hx; omega))
  have c0 : decide (a.size + (bs [32]).size ≤ catMax) = true := cat_ok (by rw [bs_size]; simp; omega)
  have c1 : ∀ w : ByteArray, w.size ≤ 50 → decide ((a ++ bs [32]).size + w.size ≤ catMax) = true := fun w hw => cat_ok (by rw [ByteArray.size_append, bs_size]; simp; omega)
  have c2 : ∀ w : List UInt8, w.length ≤ 10 → decide ((bs w).size + (txt n).size ≤ catMax) = true := fun w hw => cat_ok (by rw [bs_size]; omega)
  have c3 : ∀ w : List UInt8, w.length ≤ 10 → (bs w ++ txt n).size ≤ 50 := fun w hw => by rw [ByteArray.size_append, bs_size]; omega
  have c4 : ∀ c : Int, decide ((ofBytes [c]).size + (txt n).size ≤ catMax) = true := fun c => cat_ok (by rw [of1_size]; omega)
  have c5 : ∀ c : Int, decide ((a ++ bs [32]).size + (ofBytes [c] ++ txt n).size ≤ catMax) = true := fun c => c1 _ (by rw [ByteArray.size_append, of1_size]; omega)
  rw [ref11_Text.g0]
  simp only [hs, idxOK_nat hi, cond_true, Int.toNat_natCast, w1, hB, idxOK_nat (show i + 1 < 4 by omega), hb, hg, c0, dg, rn, rt, Option.bind_some, i1]
  unfold wordI
  rcases hc with rfl | rfl | rfl | rfl | rfl | rfl | rfl | rfl | rfl | rfl | rfl | rfl | rfl
  case inr.inr.inr.inr.inr.inr.inr.inl =>
    have hm := hm rfl
    have e1 : idxOK n (List.length [bs [112, 114, 105], bs [102, 97, 105, 114], bs [97, 110, 121]]) = true := idxOK_of hn.1 (show n < ((3 : Nat) : Int) by omega)
    simp only [Int.reduceBEq, cond_true, cond_false, e1]
    have e2 : (List.getD waysT n.toNat (bs [])).size ≤ 50 := by
      have : (wordI x 109 n).size ≤ 20 := h3
      simp only [wordI, Int.reduceBEq, cond_true, cond_false] at this
      omega
    show (bif decide ((a ++ bs [32]).size + (List.getD waysT n.toNat (bs [])).size ≤ catMax) then ref11_Text.g0 B x l k d ((a ++ bs [32]) ++ List.getD waysT n.toNat (bs [])) _ else none) = _
    rw [c1 _ e2, cond_true, app_assoc, padW_cons (ways_ne ⟨hn.1, hm⟩)]
  case inr.inr.inr.inr.inr.inr.inr.inr.inr.inl =>
    simp only [Int.reduceBEq, cond_true, cond_false]
    cases (n == 8) with
    | true => simp only [cond_true]; rw [show padW (bs []) = bs [] from rfl, app_nil]
    | false => simp only [cond_false, c2 [105, 102, 32, 114] (by decide), c1 _ (c3 [105, 102, 32, 114] (by decide)), cond_true]; rw [app_assoc, padW_cons (pre_ne _ _ (by simp))]
  case inr.inr.inl => simp only [Int.reduceBEq, cond_true, cond_false, c2 [64] (by decide), c1 _ (c3 [64] (by decide))]; rw [app_assoc, padW_cons (pre_ne _ _ (by simp))]
  case inl => simp only [Int.reduceBEq, cond_true, cond_false]; rw [show padW (bs []) = bs [] from rfl, app_nil]
  case inr.inr.inr.inr.inr.inr.inr.inr.inr.inr.inr.inr => simp only [Int.reduceBEq, cond_true, cond_false]; rw [show padW (bs []) = bs [] from rfl, app_nil]
  case inr.inr.inr.inr.inr.inr.inr.inr.inl => simp only [Int.reduceBEq, cond_true, cond_false, c1 _ (show (txt n).size ≤ 50 by omega)]; rw [app_assoc, padW_cons (txt_ne _)]
  case inr.inr.inr.inr.inr.inr.inr.inr.inr.inr.inl => simp only [Int.reduceBEq, cond_true, cond_false, c1 _ (show (txt n).size ≤ 50 by omega)]; rw [app_assoc, padW_cons (txt_ne _)]
  case inr.inr.inr.inr.inr.inr.inr.inr.inr.inr.inr.inl => simp only [Int.reduceBEq, cond_true, cond_false, c1 _ (show (txt (numF x)).size ≤ 50 by omega)]; rw [app_assoc, padW_cons (txt_ne _)]
  all_goals simp only [Int.reduceBEq, cond_true, cond_false, c4, c5]; rw [app_assoc, padW_cons (one_ne _ _)]

/-- An instruction's text. -/
def textI (x : In) : ByteArray × Int := bif chk x != 0 then (bs [], chk x) else
  ((((lineOf x.1).1 ++ padW (wordI x (bAt (lineOf x.1).2.1 0) x.2.1)) ++ padW (wordI x (bAt (lineOf x.1).2.1 1) x.2.2.1)) ++ padW (wordI x (bAt (lineOf x.1).2.1 2) x.2.2.2.1), 0)
theorem names_short : (kindsT.all fun l => decide (l.1.size ≤ 10)) = true := by kernel_rfl
theorem name_short {o : Int} (h : opcode_fine.t o = true) : (lineOf o).1.size ≤ 10 := by
  have := opfine_iff.1 h
  have hl : o.toNat < kindsT.length := by rw [table_len]; omega
  have := List.all_eq_true.1 names_short (kindsT[o.toNat]) (List.getElem_mem hl)
  unfold lineOf
  rw [List.getD_eq_getElem?_getD, List.getElem?_eq_getElem hl]
  simpa using this
theorem wrongR_109 {n : Int} (h : wrongR 109 n = 0) : n ≤ 2 := by
  by_cases h2 : n ≤ 2
  · exact h2
  · rw [wrongR_of (lo := 0) (hi := 2) rfl rfl, decide_eq_true (show n > 2 by omega)] at h
    cases hq : decide (n < 0) <;> rw [hq] at h <;> cases h
/-- What an instruction without fault is like. -/
theorem chk0 {x : In} (hx : InOK x) (h : chk x = 0) : opcode_fine.t x.1 = true ∧ (lineOf x.1).2.1.size = 3 ∧ wrongR (bAt (lineOf x.1).2.1 0) x.2.1 = 0 ∧ wrongR (bAt (lineOf x.1).2.1 1) x.2.2.1 = 0 ∧ wrongR (bAt (lineOf x.1).2.1 2) x.2.2.2.1 = 0 := by
  unfold chk at h
  cases hf : opcode_fine.t x.1 with
  | false => rw [hf] at h; cases h
  | true =>
    rw [hf, cond_true] at h
    obtain ⟨a, b, c, e, _⟩ := form3 hf
    refine ⟨rfl, by rw [size_list, e]; rfl, ?_⟩
    by_cases h0 : wrongR (bAt (lineOf x.1).2.1 0) x.2.1 = 0
    · rw [h0] at h
      by_cases h1 : wrongR (bAt (lineOf x.1).2.1 1) x.2.2.1 = 0
      · rw [h1] at h; exact ⟨h0, h1, h⟩
      · rw [show ((0 : Int) != 0) = false from rfl, cond_false, bne_iff_ne.2 h1, cond_true] at h; exact absurd h h1
    · rw [bne_iff_ne.2 h0, cond_true] at h; exact absurd h h0
theorem letters3 {o : Int} (h : opcode_fine.t o = true) (i : Nat) (hi : i < 3) : ∃ c ∈ letters, bAt (lineOf o).2.1 i = (c.toNat : Int) := by
  obtain ⟨a, b, c, e, ha, hb, hc, _⟩ := form3 h
  match i, hi with
  | 0, _ => exact ⟨a, ha, by unfold bAt; rw [e]; rfl⟩
  | 1, _ => exact ⟨b, hb, by unfold bAt; rw [e]; rfl⟩
  | 2, _ => exact ⟨c, hc, by unfold bAt; rw [e]; rfl⟩
theorem lcase {o : Int} (h : opcode_fine.t o = true) (i : Nat) (hi : i < 3) {c : Int} (hb : bAt (lineOf o).2.1 i = c) : c = 45 ∨ c = 114 ∨ c = 116 ∨ c = 99 ∨ c = 98 ∨ c = 112 ∨ c = 107 ∨ c = 109 ∨ c = 110 ∨ c = 103 ∨ c = 115 ∨ c = 105 ∨ c = 106 := by
  obtain ⟨u, hu, e⟩ := letters3 h i hi
  rw [← hb, e]; exact letter_cases hu
theorem text_sizes {x : In} (hx : InOK x) (hf : opcode_fine.t x.1 = true) (c0 c1 : Int) : ((lineOf x.1).1 ++ padW (wordI x c0 x.2.1)).size ≤ 40 ∧ (((lineOf x.1).1 ++ padW (wordI x c0 x.2.1)) ++ padW (wordI x c1 x.2.2.1)).size ≤ 70 := by
  have h1 := name_short hf
  have h2 := padW_size (wordI x c0 x.2.1)
  have h3 := padW_size (wordI x c1 x.2.2.1)
  have h4 := word_size hx (c := c0) (n := x.2.1) hx.a
  have h5 := word_size hx (c := c1) (n := x.2.2.1) hx.b
  simp only [ByteArray.size_append]
  omega
theorem text_u {x : In} (hx : InOK x) : asm_Text.u x = some (textI x) := by
  unfold asm_Text.u asm_Text.w textI
  rw [check_u hx, Option.bind_some]
  by_cases h : chk x = 0
  · obtain ⟨hf, hs, k0, k1, k2⟩ := chk0 hx h
    rw [h, show ((0 : Int) != 0) = false from rfl, cond_false, cond_false, wrapN ⟨by have := hx.o; omega, by have := hx.o; omega⟩, name_u, form_u, hf, cond_true, cond_true, Option.bind_some, Option.bind_some]
    have hB0 : List.getD (List.set (List.set (List.set (List.replicate 3 0) 0 x.2.1) 1 x.2.2.1) 2 x.2.2.2.1) 0 0 = x.2.1 := rfl
    have hB1 : List.getD (List.set (List.set (List.set (List.replicate 3 0) 0 x.2.1) 1 x.2.2.1) 2 x.2.2.2.1) 1 0 = x.2.2.1 := rfl
    have hB2 : List.getD (List.set (List.set (List.set (List.replicate 3 0) 0 x.2.1) 1 x.2.2.1) 2 x.2.2.2.1) 2 0 = x.2.2.2.1 := rfl
    obtain ⟨z1, z2⟩ := text_sizes hx hf (bAt (lineOf x.1).2.1 0) (bAt (lineOf x.1).2.1 1)
    have s0 := shown_u hx (lcase hf 0 (by omega) rfl) hx.a (fun e => wrongR_109 (by rw [← e]; exact k0))
    have s1 := shown_u hx (lcase hf 1 (by omega) rfl) hx.b (fun e => wrongR_109 (by rw [← e]; exact k1))
    have s2 := shown_u hx (lcase hf 2 (by omega) rfl) hx.c (fun e => wrongR_109 (by rw [← e]; exact k2))
    have y0 := word_size hx (c := bAt (lineOf x.1).2.1 0) hx.a
    have y1 := word_size hx (c := bAt (lineOf x.1).2.1 1) hx.b
    have y2 := word_size hx (c := bAt (lineOf x.1).2.1 2) hx.c
    have y3 := name_short hf
    show asm_Text.g0 _ _ _ some 3 _ ((0 : Nat) : Int) = _
    rw [atext_step (by omega) hs (by rw [hB0]; exact s0) (by omega), atext_step (by omega) hs (by rw [hB1]; exact s1) (by omega), atext_step (by omega) hs (by rw [hB2]; exact s2) (by omega)]
    rfl
  · rw [bne_iff_ne.2 h, cond_true, cond_true]
theorem rtext11_u {x : In} (hx : InOK x) : ref11_Text.u x = some (textI x) := by
  unfold ref11_Text.u ref11_Text.w textI
  rw [refcheck_u hx, Option.bind_some]
  by_cases h : chk x = 0
  · obtain ⟨hf, hs, k0, k1, k2⟩ := chk0 hx h
    have w1 : IntKind.wrap .i64 x.1 = x.1 := wrapN ⟨by have := hx.o; omega, by have := hx.o; omega⟩
    have w2 : IntKind.wrap .i64 x.2.1 = x.2.1 := wrapN ⟨by have := hx.a; omega, by have := hx.a; omega⟩
    have w3 : IntKind.wrap .i64 x.2.2.1 = x.2.2.1 := wrapN ⟨by have := hx.b; omega, by have := hx.b; omega⟩
    have w4 : IntKind.wrap .i64 x.2.2.2.1 = x.2.2.2.1 := wrapN ⟨by have := hx.c; omega, by have := hx.c; omega⟩
    have hB : ref10_Bytes.t x = [x.1, x.2.1, x.2.2.1, x.2.2.2.1] := by unfold ref10_Bytes.t; rw [w1, w2, w3, w4]
    rw [h, show ((0 : Int) != 0) = false from rfl, cond_false, cond_false, w1, of_u, hf, cond_true, Option.bind_some, hB]
    obtain ⟨z1, z2⟩ := text_sizes hx hf (bAt (lineOf x.1).2.1 0) (bAt (lineOf x.1).2.1 1)
    have y3 := name_short hf
    show ref11_Text.g0 _ _ _ some 3 _ ((0 : Nat) : Int) = _
    have q0 := fun d a (hz : a.size ≤ 900) => rtext_step (B := [x.1, x.2.1, x.2.2.1, x.2.2.2.1]) (k := some) (d := d) (a := a) hx (i := 0) (by omega) hs rfl rfl (n := x.2.1) rfl (lcase hf 0 (by omega) rfl) hx.a (fun e => wrongR_109 (by rw [← e]; exact k0)) hz
    have q1 := fun d a (hz : a.size ≤ 900) => rtext_step (B := [x.1, x.2.1, x.2.2.1, x.2.2.2.1]) (k := some) (d := d) (a := a) hx (i := 1) (by omega) hs rfl rfl (n := x.2.2.1) rfl (lcase hf 1 (by omega) rfl) hx.b (fun e => wrongR_109 (by rw [← e]; exact k1)) hz
    have q2 := fun d a (hz : a.size ≤ 900) => rtext_step (B := [x.1, x.2.1, x.2.2.1, x.2.2.2.1]) (k := some) (d := d) (a := a) hx (i := 2) (by omega) hs rfl rfl (n := x.2.2.2.1) rfl (lcase hf 2 (by omega) rfl) hx.c (fun e => wrongR_109 (by rw [← e]; exact k2)) hz
    rw [q0 _ _ (by omega), q1 _ _ (by omega), q2 _ _ (by omega)]
    rfl
  · rw [bne_iff_ne.2 h, cond_true, cond_true]
end Go.Proofs.YtmmooplcdkmapaaGreatDoor.K

/- Instructions, plainly: the table, whether one may be, its number and its place. -/
import Derived.Test.YtmmooplcdkmapaaGreatDoorZ10
import Derived.Test.YtmmooplcdkmapaaGreatDoorL08a
import Derived.KernelRfl
set_option maxRecDepth 100000
set_option linter.unusedVariables false
set_option linter.unusedSimpArgs false
namespace Go.Proofs.YtmmooplcdkmapaaGreatDoor.K
open Go

abbrev In := Int × (Int × (Int × (Int × Unit)))
abbrev Ln := ByteArray × (ByteArray × (Int × Unit))
/-- An instruction's bytes are bytes. -/
structure InOK (x : In) : Prop where
  o : 0 ≤ x.1 ∧ x.1 ≤ 255
  a : 0 ≤ x.2.1 ∧ x.2.1 ≤ 255
  b : 0 ≤ x.2.2.1 ∧ x.2.2.1 ≤ 255
  c : 0 ≤ x.2.2.2.1 ∧ x.2.2.2.1 ≤ 255

def noLine : Ln := (bs [], (bs [], (0, ())))
/-- The line of an opcode. -/
def lineOf (o : Int) : Ln := List.getD kindsT o.toNat noLine
theorem table_eq : ref09_Table.t = kindsT := by kernel_rfl
theorem table_len : List.length kindsT = 48 := by kernel_rfl
theorem opfine_iff {o : Int} : opcode_fine.t o = true ↔ 0 ≤ o ∧ o < 48 := by
  unfold opcode_fine.t
  by_cases h : o ≥ 0
  · simp [h]
  · simp [h]
theorem form_u (o : Int) : opcode_Form.u o = some (bif opcode_fine.t o then (lineOf o).2.1 else bs []) := by
  unfold opcode_Form.u opcode_Form.s lineOf
  cases h : opcode_fine.t o with
  | false => rfl
  | true =>
    have := opfine_iff.1 h
    simp only [Bool.not_true, cond_false, idxOK_of this.1 (show o < ((48 : Nat) : Int) by omega), cond_true]
    rfl
theorem of_u (o : Int) : ref09_Of.u o = some (bif opcode_fine.t o then lineOf o else (bs [], (bs [], (-1, ())))) := by
  unfold ref09_Of.u ref09_Of.s
  rw [table_eq, table_len]
  by_cases h0 : o < 0
  · have : opcode_fine.t o = false := by
      cases h : opcode_fine.t o with
      | false => rfl
      | true => have := opfine_iff.1 h; omega
    simp [h0, this]
  · by_cases h1 : o ≥ 48
    · have : opcode_fine.t o = false := by
        cases h : opcode_fine.t o with
        | false => rfl
        | true => have := opfine_iff.1 h; omega
      simp [h0, h1, this]
    · have : opcode_fine.t o = true := opfine_iff.2 ⟨by omega, by omega⟩
      simp only [h0, decide_false, cond_false, this, cond_true, idxOK_of (show 0 ≤ o by omega) (show o < ((48 : Nat) : Int) by omega)]
      rw [decide_eq_false (show ¬ (o ≥ ((48 : Nat) : Int)) by omega)]
      rfl

def letters : List UInt8 := [45, 114, 116, 99, 98, 112, 107, 109, 110, 103, 115, 105, 106]
def lineOK (l : Ln) : Bool := match l.2.1.data.toList with
  | [a, b, c] => letters.contains a && letters.contains b && letters.contains c && decide (0 ≤ l.2.2.1)
  | _ => false
theorem lines_ok : kindsT.all lineOK = true := by kernel_rfl
theorem line_ok {o : Int} (h : opcode_fine.t o = true) : lineOK (lineOf o) = true := by
  have := opfine_iff.1 h
  have hl : o.toNat < kindsT.length := by rw [table_len]; omega
  have := List.all_eq_true.1 lines_ok (kindsT[o.toNat]) (List.getElem_mem hl)
  unfold lineOf
  rw [List.getD_eq_getElem?_getD, List.getElem?_eq_getElem hl]
  exact this
/-- The three letters of an opcode that is one. -/
theorem form3 {o : Int} (h : opcode_fine.t o = true) : ∃ a b c : UInt8, (lineOf o).2.1.data.toList = [a, b, c] ∧ a ∈ letters ∧ b ∈ letters ∧ c ∈ letters ∧ 0 ≤ (lineOf o).2.2.1 := by
  have := line_ok h
  unfold lineOK at this
  split at this
  · rename_i a b c e
    simp only [Bool.and_eq_true, List.contains_iff_mem, decide_eq_true_eq] at this
    exact ⟨a, b, c, e, this.1.1.1, this.1.1.2, this.1.2, this.2⟩
  · cases this

/-- What is wrong with a byte, by the reference. -/
def wrongR (c n : Int) : Int := bif c == 45 then (bif n != 0 then 3 else 0) else bif decide (n < (ref10_ends.t c).1) then 8 else bif decide (n > (ref10_ends.t c).2) then 8 else 0
theorem wrongR_of {c n lo hi : Int} (h : ref10_ends.t c = (lo, hi)) (hc : (c == 45) = false) : wrongR c n = bif decide (n < lo) then 8 else bif decide (n > hi) then 8 else 0 := by
  unfold wrongR
  rw [h, hc]
  rfl
theorem wrong_eqI {c : Int} (hc : c = 45 ∨ c = 114 ∨ c = 116 ∨ c = 99 ∨ c = 98 ∨ c = 112 ∨ c = 107 ∨ c = 109 ∨ c = 110 ∨ c = 103 ∨ c = 115 ∨ c = 105 ∨ c = 106) {n : Int} (h0 : 0 ≤ n) (h1 : n ≤ 255) : instr_wrong.t c n = wrongR c n := by
  have hw : IntKind.wrap .i64 n = n := wrapN ⟨by omega, by omega⟩
  have n0 : decide (n < 0) = false := decide_eq_false (by omega)
  rcases hc with rfl | rfl | rfl | rfl | rfl | rfl | rfl | rfl | rfl | rfl | rfl | rfl | rfl
  · unfold instr_wrong.t wrongR
    simp only [Int.reduceBEq, cond_true, cond_false, hw, n0]
    by_cases e : n = 0
    · subst e; rfl
    · rw [bne_iff_ne.2 e]; rfl
  · rw [wrongR_of (lo := 0) (hi := 7) rfl rfl]
    unfold instr_wrong.t
    simp only [Int.reduceBEq, cond_true, cond_false, hw, n0]
  · rw [wrongR_of (lo := 0) (hi := 64) rfl rfl]
    unfold instr_wrong.t
    simp only [Int.reduceBEq, cond_true, cond_false, hw, n0]
  · rw [wrongR_of (lo := 0) (hi := 7) rfl rfl]
    unfold instr_wrong.t
    simp only [Int.reduceBEq, cond_true, cond_false, hw, n0]
  · rw [wrongR_of (lo := 0) (hi := 7) rfl rfl]
    unfold instr_wrong.t
    simp only [Int.reduceBEq, cond_true, cond_false, hw, n0]
  · rw [wrongR_of (lo := 0) (hi := 7) rfl rfl]
    unfold instr_wrong.t
    simp only [Int.reduceBEq, cond_true, cond_false, hw, n0]
  · rw [wrongR_of (lo := 0) (hi := 3) rfl rfl]
    unfold instr_wrong.t
    simp only [Int.reduceBEq, cond_true, cond_false, hw, n0]
  · rw [wrongR_of (lo := 0) (hi := 2) rfl rfl]
    unfold instr_wrong.t
    simp only [Int.reduceBEq, cond_true, cond_false, hw, n0]
  · rw [wrongR_of (lo := 1) (hi := 6) rfl rfl]
    unfold instr_wrong.t
    simp only [Int.reduceBEq, cond_true, cond_false, hw, n0]
  · rw [wrongR_of (lo := 0) (hi := 8) rfl rfl]
    unfold instr_wrong.t
    simp only [Int.reduceBEq, cond_true, cond_false, hw, n0]
    by_cases e : n = 8
    · subst e; rfl
    · rw [beq_eq_false_iff_ne.2 e, cond_false]
      by_cases e7 : n > 7
      · rw [decide_eq_true e7, decide_eq_true (show n > 8 by omega)]
      · rw [decide_eq_false e7, decide_eq_false (show ¬ n > 8 by omega)]
  · rw [wrongR_of (lo := 1) (hi := 255) rfl rfl]
    unfold instr_wrong.t
    simp only [Int.reduceBEq, cond_true, cond_false, hw, n0]
  · rw [wrongR_of (lo := 0) (hi := 255) rfl rfl]
    unfold instr_wrong.t
    simp only [Int.reduceBEq, cond_true, cond_false, hw, n0]
  · rw [wrongR_of (lo := 0) (hi := 255) rfl rfl]
    unfold instr_wrong.t
    simp only [Int.reduceBEq, cond_true, cond_false, hw, n0]
theorem wrong_eq {c : UInt8} (hc : c ∈ letters) {n : Int} (h0 : 0 ≤ n) (h1 : n ≤ 255) : instr_wrong.t (c.toNat : Int) n = wrongR (c.toNat : Int) n := by
  refine wrong_eqI ?_ h0 h1
  simp only [letters, List.mem_cons, List.not_mem_nil, or_false] at hc
  rcases hc with rfl | rfl | rfl | rfl | rfl | rfl | rfl | rfl | rfl | rfl | rfl | rfl | rfl <;> decide

/-- What is wrong with an instruction. -/
def chk (x : In) : Int := bif opcode_fine.t x.1 then
    (bif wrongR (bAt (lineOf x.1).2.1 0) x.2.1 != 0 then wrongR (bAt (lineOf x.1).2.1 0) x.2.1 else
     bif wrongR (bAt (lineOf x.1).2.1 1) x.2.2.1 != 0 then wrongR (bAt (lineOf x.1).2.1 1) x.2.2.1 else wrongR (bAt (lineOf x.1).2.1 2) x.2.2.2.1)
  else 18
theorem if_nz (n : Int) : (bif n != 0 then some n else some 0) = some n := by
  by_cases e : n = 0
  · subst e; rfl
  · rw [bne_iff_ne.2 e]; rfl
theorem check_u {x : In} (h : InOK x) : instr_Check.u x = some (chk x) := by
  unfold instr_Check.u instr_Check.w chk
  have hw : IntKind.wrap .i64 x.1 = x.1 := wrapN ⟨by have := h.o; omega, by have := h.o; omega⟩
  rw [hw, form_u]
  cases hf : opcode_fine.t x.1 with
  | false => rfl
  | true =>
    obtain ⟨a, b, c, e, ha, hb, hc, _⟩ := form3 hf
    have hs : (lineOf x.1).2.1.size = 3 := by rw [size_list, e]; rfl
    have hne : ((lineOf x.1).2.1.data.toList == (bs []).data.toList) = false := by rw [e]; rfl
    have a0 : bAt (lineOf x.1).2.1 0 = (a.toNat : Int) := by unfold bAt; rw [e]; rfl
    have a1 : bAt (lineOf x.1).2.1 1 = (b.toNat : Int) := by unfold bAt; rw [e]; rfl
    have a2 : bAt (lineOf x.1).2.1 2 = (c.toNat : Int) := by unfold bAt; rw [e]; rfl
    simp only [cond_true, Option.bind_some, hne, cond_false]
    show instr_Check.g0 _ _ _ some 3 0 = _
    have o0 : List.getD (instr_operands.t x) 0 0 = x.2.1 := rfl
    have o1 : List.getD (instr_operands.t x) 1 0 = x.2.2.1 := rfl
    have o2 : List.getD (instr_operands.t x) 2 0 = x.2.2.2.1 := rfl
    simp only [instr_Check.g0, hs, show idxOK 0 3 = true from rfl, show idxOK (0 + 1) 3 = true from rfl, show idxOK (0 + 1 + 1) 3 = true from rfl, cond_true, show Int.toNat 0 = 0 from rfl, show Int.toNat (0 + 1) = 1 from rfl, show Int.toNat (0 + 1 + 1) = 2 from rfl, a0, a1, a2, o0, o1, o2,
      wrong_eq ha h.a.1 h.a.2, wrong_eq hb h.b.1 h.b.2, wrong_eq hc h.c.1 h.c.2, if_nz]
    cases (wrongR (a.toNat : Int) x.2.1 != 0) <;> cases (wrongR (b.toNat : Int) x.2.2.1 != 0) <;> rfl
theorem wrong_step (c n : Int) (K : Option Int) : (bif c == 45 then (bif n != 0 then some 3 else K) else bif decide (n < (ref10_ends.t c).1) then some 8 else bif decide (n > (ref10_ends.t c).2) then some 8 else K) = bif wrongR c n != 0 then some (wrongR c n) else K := by
  unfold wrongR
  cases (c == 45) <;> cases (n != 0) <;> cases decide (n < (ref10_ends.t c).1) <;> cases decide (n > (ref10_ends.t c).2) <;> rfl
theorem refcheck_u {x : In} (h : InOK x) : ref10_Check.u x = some (chk x) := by
  unfold ref10_Check.u ref10_Check.w chk
  have w1 : IntKind.wrap .i64 x.1 = x.1 := wrapN ⟨by have := h.o; omega, by have := h.o; omega⟩
  have w2 : IntKind.wrap .i64 x.2.1 = x.2.1 := wrapN ⟨by have := h.a; omega, by have := h.a; omega⟩
  have w3 : IntKind.wrap .i64 x.2.2.1 = x.2.2.1 := wrapN ⟨by have := h.b; omega, by have := h.b; omega⟩
  have w4 : IntKind.wrap .i64 x.2.2.2.1 = x.2.2.2.1 := wrapN ⟨by have := h.c; omega, by have := h.c; omega⟩
  have hB : ref10_Bytes.t x = [x.1, x.2.1, x.2.2.1, x.2.2.2.1] := by unfold ref10_Bytes.t; rw [w1, w2, w3, w4]
  rw [hB]
  have i0 : idxOK 0 (List.length [x.1, x.2.1, x.2.2.1, x.2.2.2.1]) = true := rfl
  rw [i0, cond_true, show List.getD [x.1, x.2.1, x.2.2.1, x.2.2.2.1] 0 0 = x.1 from rfl, of_u]
  cases hf : opcode_fine.t x.1 with
  | false => rfl
  | true =>
    obtain ⟨a, b, c, e, ha, hb, hc, hcl⟩ := form3 hf
    have hs : (lineOf x.1).2.1.size = 3 := by rw [size_list, e]; rfl
    have a0 : bAt (lineOf x.1).2.1 0 = (a.toNat : Int) := by unfold bAt; rw [e]; rfl
    have a1 : bAt (lineOf x.1).2.1 1 = (b.toNat : Int) := by unfold bAt; rw [e]; rfl
    have a2 : bAt (lineOf x.1).2.1 2 = (c.toNat : Int) := by unfold bAt; rw [e]; rfl
    simp only [cond_true, Option.bind_some, decide_eq_false (show ¬ ((lineOf x.1).2.2.1 < 0) by omega), cond_false]
    show ref10_Check.g0 _ _ _ some 3 0 = _
    have k1 : IntKind.wrap .i64 (0 + 1) = 1 := rfl
    have k2 : IntKind.wrap .i64 (0 + 1 + 1) = 2 := rfl
    have k3 : IntKind.wrap .i64 (0 + 1 + 1 + 1) = 3 := rfl
    have j1 : idxOK 1 (List.length [x.1, x.2.1, x.2.2.1, x.2.2.2.1]) = true := rfl
    have j2 : idxOK 2 (List.length [x.1, x.2.1, x.2.2.1, x.2.2.2.1]) = true := rfl
    have j3 : idxOK 3 (List.length [x.1, x.2.1, x.2.2.1, x.2.2.2.1]) = true := rfl
    have g1 : List.getD [x.1, x.2.1, x.2.2.1, x.2.2.2.1] (Int.toNat 1) 0 = x.2.1 := rfl
    have g2 : List.getD [x.1, x.2.1, x.2.2.1, x.2.2.2.1] (Int.toNat 2) 0 = x.2.2.1 := rfl
    have g3 : List.getD [x.1, x.2.1, x.2.2.1, x.2.2.2.1] (Int.toNat 3) 0 = x.2.2.2.1 := rfl
    simp only [ref10_Check.g0, hs, show idxOK 0 3 = true from rfl, show idxOK (0 + 1) 3 = true from rfl, show idxOK (0 + 1 + 1) 3 = true from rfl, cond_true, show Int.toNat 0 = 0 from rfl, show Int.toNat (0 + 1) = 1 from rfl, show Int.toNat (0 + 1 + 1) = 2 from rfl, a0, a1, a2, k1, k2, k3, j1, j2, j3, g1, g2, g3, wrong_step, if_nz]
    cases (wrongR (a.toNat : Int) x.2.1 != 0) <;> cases (wrongR (b.toNat : Int) x.2.2.1 != 0) <;> rfl
end Go.Proofs.YtmmooplcdkmapaaGreatDoor.K

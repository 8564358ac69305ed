/- Instructions, plainly: the number. -/
import Derived.Test.YtmmooplcdkmapaaGreatDoorL10p
set_option maxRecDepth 100000
set_option linter.unusedVariables false
set_option linter.unusedSimpArgs false
namespace Go.Proofs.YtmmooplcdkmapaaGreatDoor.K
open Go

theorem lines_ij : (kindsT.all fun l => Lib.contains l.2.1.data.toList [105, 106] == (bAt l.2.1 1 == 105)) = true := by kernel_rfl
theorem line_ij {o : Int} (h : opcode_fine.t o = true) : Lib.contains (lineOf o).2.1.data.toList [105, 106] = (bAt (lineOf o).2.1 1 == 105) := by
  have := opfine_iff.1 h
  have hl : o.toNat < kindsT.length := by rw [table_len]; omega
  have := List.all_eq_true.1 lines_ij (kindsT[o.toNat]) (List.getElem_mem hl)
  unfold lineOf
  rw [List.getD_eq_getElem?_getD, List.getElem?_eq_getElem hl]
  simpa using this

/-- The number of an instruction. -/
def numF (x : In) : Int := bif opcode_fine.t x.1 && (bAt (lineOf x.1).2.1 1 == 105) then (if 256 * x.2.2.1 + x.2.2.2.1 ≥ 32768 then 256 * x.2.2.1 + x.2.2.2.1 - 65536 else 256 * x.2.2.1 + x.2.2.2.1) else 0
theorem w16u {x : Int} (h : 0 ≤ x ∧ x < 65536) : IntKind.wrap .u16 x = x := by
  simp [IntKind.wrap, IntKind.bits, IntKind.signed]; omega
theorem w16i {x : Int} (h : 0 ≤ x ∧ x < 65536) : IntKind.wrap .i16 x = if x ≥ 32768 then x - 65536 else x := by
  have : IntKind.wrap .i16 x = if x % 65536 < 32768 then x % 65536 else x % 65536 - 65536 := by
    simp [IntKind.wrap, IntKind.bits, IntKind.signed, IntKind.min, IntKind.max]
    split <;> split <;> omega
  rw [this]
  split <;> split <;> omega
theorem or16 {b c : Int} (hb : 0 ≤ b ∧ b ≤ 255) (hc : 0 ≤ c ∧ c ≤ 255) : ((BitVec.ofInt (IntKind.bits .u16) (b * 256) ||| BitVec.ofInt (IntKind.bits .u16) c).toNat : Int) = 256 * b + c := by
  show ((BitVec.ofInt 16 (b * 256) ||| BitVec.ofInt 16 c).toNat : Int) = 256 * b + c
  rw [BitVec.toNat_or, BitVec.toNat_ofInt, BitVec.toNat_ofInt]
  obtain ⟨m, rfl⟩ := Int.eq_ofNat_of_zero_le hb.1
  obtain ⟨n, rfl⟩ := Int.eq_ofNat_of_zero_le hc.1
  have e1 : ((m : Int) * 256 % ((2 ^ 16 : Nat) : Int)).toNat = 2 ^ 8 * m := by omega
  have e2 : ((n : Int) % ((2 ^ 16 : Nat) : Int)).toNat = n := by omega
  rw [e1, e2, ← Nat.two_pow_add_eq_or_of_lt (show n < 2 ^ 8 by omega)]
  omega
theorem num_u {x : In} (h : InOK x) : instr_Num.u x = some (numF x) := by
  unfold instr_Num.u instr_Num.s numF
  have hw : IntKind.wrap .i64 x.1 = x.1 := wrapN ⟨by have := h.o; omega, by have := h.o; omega⟩
  rw [hw, form_u]
  cases hf : opcode_fine.t x.1 with
  | false => rfl
  | true =>
    obtain ⟨a, b, c, e, ha, hb, hc, hcl⟩ := form3 hf
    have hs : (lineOf x.1).2.1.size = 3 := by rw [size_list, e]; rfl
    have hcon : strings_Contains.u (lineOf x.1).2.1 (bs [105, 106]) = some (bAt (lineOf x.1).2.1 1 == 105) := by
      unfold strings_Contains.u
      rw [decide_eq_true (show (lineOf x.1).2.1.size < 4294967281 by omega), cond_true, bs_list, line_ij hf]
    simp only [cond_true, Option.bind_some, hcon, Bool.true_and]
    cases (bAt (lineOf x.1).2.1 1 == 105) with
    | false => rfl
    | true =>
      simp only [Bool.not_true, cond_false, cond_true]
      have hB := h.b
      have hC := h.c
      have p8 : (2 ^ min (Int.toNat 8) (IntKind.bits .u16) : Int) = 256 := rfl
      rw [p8, w16u (x := x.2.2.1) ⟨by omega, by omega⟩, w16u (x := x.2.2.2.1) ⟨by omega, by omega⟩, w16u (x := x.2.2.1 * 256) ⟨by omega, by omega⟩, or16 hB hC, w16u ⟨by omega, by omega⟩, w16i ⟨by omega, by omega⟩]
      rw [wrapN]
      split <;> omega
theorem refnum_u {x : In} (h : InOK x) : ref10_Num.u x = some (numF x) := by
  unfold ref10_Num.u ref10_Num.s numF
  have hw : IntKind.wrap .i64 x.1 = x.1 := wrapN ⟨by have := h.o; omega, by have := h.o; omega⟩
  rw [hw, of_u]
  cases hf : opcode_fine.t x.1 with
  | false => rfl
  | true =>
    obtain ⟨a, b, c, e, ha, hb, hc, hcl⟩ := form3 hf
    have hs : (lineOf x.1).2.1.size = 3 := by rw [size_list, e]; rfl
    simp only [cond_true, Option.bind_some, decide_eq_false (show ¬ ((lineOf x.1).2.2.1 < 0) by omega), cond_false, hs, show idxOK 1 3 = true from rfl, Bool.true_and, bne]
    cases (bAt (lineOf x.1).2.1 1 == 105) with
    | false => rfl
    | true =>
      have hB := h.b
      have hC := h.c
      simp only [Bool.not_true, cond_false, cond_true]
      rw [wrapN (x := x.2.2.1) ⟨by omega, by omega⟩, wrapN (x := x.2.2.2.1) ⟨by omega, by omega⟩, wrapN (x := 256 * x.2.2.1) ⟨by omega, by omega⟩, wrapN (x := 256 * x.2.2.1 + x.2.2.2.1) ⟨by omega, by omega⟩, wrapN (x := 256 * x.2.2.1 + x.2.2.2.1 - 65536) ⟨by omega, by omega⟩]
      by_cases h3 : 256 * x.2.2.1 + x.2.2.2.1 ≥ 32768
      · simp [h3]
      · simp [h3]
end Go.Proofs.YtmmooplcdkmapaaGreatDoor.K

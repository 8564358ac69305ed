/- Instructions, plainly: the place. -/
import Derived.Test.YthamolhikhcilaaDoorL10a
set_option maxRecDepth 100000
set_option linter.unusedVariables false
set_option linter.unusedSimpArgs false
namespace Go.Proofs.YthamolhikhcilaaDoor.K
open Go

/-- The place that an instruction leads to. -/
def plcF (x : In) : Int × Bool := bif opcode_fine.t x.1 then
    (bif bAt (lineOf x.1).2.1 0 == 116 then (x.2.1, true) else bif bAt (lineOf x.1).2.1 1 == 116 then (x.2.2.1, true) else bif bAt (lineOf x.1).2.1 2 == 116 then (x.2.2.2.1, true) else (0, false))
  else (0, false)
theorem u8_beq (a : UInt8) (n : Nat) (h : n < 256) : (a == UInt8.ofNat n) = ((a.toNat : Int) == (n : Int)) := by
  rw [Bool.eq_iff_iff]
  simp only [beq_iff_eq]
  constructor
  · rintro rfl; rw [UInt8.toNat_ofNat']; omega
  · intro e
    apply UInt8.toNat_inj.1
    rw [UInt8.toNat_ofNat']; omega
theorem place_u {x : In} (h : InOK x) : instr_Place.u x = some (plcF x) := by
  unfold instr_Place.u instr_Place.s plcF
  have hw : IntKind.wrap .i64 x.1 = x.1 := wrapN ⟨by have := h.o; omega, by have := h.o; omega⟩
  rw [hw, form_u]
  cases hf : opcode_fine.t x.1 with
  | false => rfl
  | true =>
    obtain ⟨a, b, c, e, ha, hb, hc, hcl⟩ := form3 hf
    have a0 : bAt (lineOf x.1).2.1 0 = (a.toNat : Int) := by unfold bAt; rw [e]; rfl
    have a1 : bAt (lineOf x.1).2.1 1 = (b.toNat : Int) := by unfold bAt; rw [e]; rfl
    have a2 : bAt (lineOf x.1).2.1 2 = (c.toNat : Int) := by unfold bAt; rw [e]; rfl
    have o0 : List.getD (instr_operands.t x) (Int.toNat 0) 0 = x.2.1 := rfl
    have o1 : List.getD (instr_operands.t x) (Int.toNat 1) 0 = x.2.2.1 := rfl
    have o2 : List.getD (instr_operands.t x) (Int.toNat 2) 0 = x.2.2.2.1 := rfl
    have w1 : IntKind.wrap .i64 x.2.1 = x.2.1 := wrapN ⟨by have := h.a; omega, by have := h.a; omega⟩
    have w2 : IntKind.wrap .i64 x.2.2.1 = x.2.2.1 := wrapN ⟨by have := h.b; omega, by have := h.b; omega⟩
    have w3 : IntKind.wrap .i64 x.2.2.2.1 = x.2.2.2.1 := wrapN ⟨by have := h.c; omega, by have := h.c; omega⟩
    have ix : strings_IndexByte.t (lineOf x.1).2.1 116 = if (a.toNat : Int) = 116 then 0 else if (b.toNat : Int) = 116 then 1 else if (c.toNat : Int) = 116 then 2 else -1 := by
      unfold strings_IndexByte.t internal_stringslite_IndexByte.t
      rw [e]
      have q : (116 : Int).toNat.toUInt8 = UInt8.ofNat 116 := rfl
      rw [q]
      have k : ∀ y : UInt8, (y = UInt8.ofNat 116) ↔ (y.toNat : Int) = 116 := by
        intro y
        have := u8_beq y 116 (by omega)
        constructor
        · intro e; rw [e]; rfl
        · intro e
          apply UInt8.toNat_inj.1
          rw [UInt8.toNat_ofNat']; omega
      simp only [Lib.indexByte, beq_iff_eq, k]
      by_cases e0 : (a.toNat : Int) = 116
      · simp [e0]
      · by_cases e1 : (b.toNat : Int) = 116
        · simp [e0, e1]
        · by_cases e2 : (c.toNat : Int) = 116
          · simp [e0, e1, e2]
          · simp [e0, e1, e2]
    simp only [cond_true, Option.bind_some, ix, a0, a1, a2]
    by_cases e0 : (a.toNat : Int) = 116
    · simp [e0, o0, w1, idxOK]; exact w1
    · by_cases e1 : (b.toNat : Int) = 116
      · simp [e0, e1, o1, w2, idxOK, beq_eq_false_iff_ne.2 e0]; exact w2
      · by_cases e2 : (c.toNat : Int) = 116
        · simp [e0, e1, e2, o2, w3, idxOK, beq_eq_false_iff_ne.2 e0, beq_eq_false_iff_ne.2 e1]; exact w3
        · simp [e0, e1, e2, beq_eq_false_iff_ne.2 e0, beq_eq_false_iff_ne.2 e1, beq_eq_false_iff_ne.2 e2]
theorem refplace_u {x : In} (h : InOK x) : ref10_Place.u x = some (plcF x) := by
  unfold ref10_Place.u ref10_Place.w plcF
  have hw : IntKind.wrap .i64 x.1 = x.1 := wrapN ⟨by have := h.o; omega, by have := h.o; omega⟩
  rw [hw, of_u]
  cases hf : opcode_fine.t x.1 with
  | false => rfl
  | true =>
    obtain ⟨a, b, c, e, ha, hb, hc, hcl⟩ := form3 hf
    have hs : (lineOf x.1).2.1.size = 3 := by rw [size_list, e]; rfl
    have w1 : IntKind.wrap .i64 x.2.1 = x.2.1 := wrapN ⟨by have := h.a; omega, by have := h.a; omega⟩
    have w2 : IntKind.wrap .i64 x.2.2.1 = x.2.2.1 := wrapN ⟨by have := h.b; omega, by have := h.b; omega⟩
    have w3 : IntKind.wrap .i64 x.2.2.2.1 = x.2.2.2.1 := wrapN ⟨by have := h.c; omega, by have := h.c; omega⟩
    have hB : ref10_Bytes.t x = [x.1, x.2.1, x.2.2.1, x.2.2.2.1] := by unfold ref10_Bytes.t; rw [hw, w1, w2, w3]
    simp only [cond_true, Option.bind_some, hs]
    show ref10_Place.g0 _ _ some 3 0 = _
    have k1 : IntKind.wrap .i64 (0 + 1) = 1 := rfl
    have k2 : IntKind.wrap .i64 (0 + 1 + 1) = 2 := rfl
    have k3 : IntKind.wrap .i64 (0 + 1 + 1 + 1) = 3 := rfl
    have j1 : idxOK 1 (List.length [x.1, x.2.1, x.2.2.1, x.2.2.2.1]) = true := rfl
    have j2 : idxOK 2 (List.length [x.1, x.2.1, x.2.2.1, x.2.2.2.1]) = true := rfl
    have j3 : idxOK 3 (List.length [x.1, x.2.1, x.2.2.1, x.2.2.2.1]) = true := rfl
    have g1 : List.getD [x.1, x.2.1, x.2.2.1, x.2.2.2.1] (Int.toNat 1) 0 = x.2.1 := rfl
    have g2 : List.getD [x.1, x.2.1, x.2.2.1, x.2.2.2.1] (Int.toNat 2) 0 = x.2.2.1 := rfl
    have g3 : List.getD [x.1, x.2.1, x.2.2.1, x.2.2.2.1] (Int.toNat 3) 0 = x.2.2.2.1 := rfl
    simp only [ref10_Place.g0, hs, hB, show idxOK 0 3 = true from rfl, show idxOK (0 + 1) 3 = true from rfl, show idxOK (0 + 1 + 1) 3 = true from rfl, cond_true, show Int.toNat 0 = 0 from rfl, show Int.toNat (0 + 1) = 1 from rfl, show Int.toNat (0 + 1 + 1) = 2 from rfl, k1, k2, k3, j1, j2, j3, g1, g2, g3]
    cases (bAt (lineOf x.1).2.1 0 == 116) <;> cases (bAt (lineOf x.1).2.1 1 == 116) <;> cases (bAt (lineOf x.1).2.1 2 == 116) <;> rfl
end Go.Proofs.YthamolhikhcilaaDoor.K

/- Instructions, plainly: the laws Tells, Reads, Back. -/
import Derived.Test.YthamolhikhcilaaDoorL10b
import Derived.Test.YthamolhikhcilaaDoorL10i
set_option maxRecDepth 100000
set_option linter.unusedVariables false
set_option linter.unusedSimpArgs false
namespace Go.Proofs.YthamolhikhcilaaDoor.K
open Go

theorem bAt_u8 (s : ByteArray) (i : Nat) : 0 ≤ bAt s i ∧ bAt s i ≤ 255 := by
  unfold bAt
  have := (s.data.toList.getD i 0).toNat_lt
  omega
/-- The bytes from a place on. -/
def rdIn (s : ByteArray) (i : Nat) : In := (bAt s i, (bAt s (i + 1), (bAt s (i + 2), (bAt s (i + 3), ()))))
theorem rdIn_ok (s : ByteArray) (i : Nat) : InOK (rdIn s i) := ⟨bAt_u8 _ _, bAt_u8 _ _, bAt_u8 _ _, bAt_u8 _ _⟩
/-- What is read at a place. -/
def readF (s : ByteArray) (at_ : Int) : In × Int :=
  if at_ < 0 then ((0, (0, (0, (0, ())))), 8) else if at_ > (s.size : Int) then ((0, (0, (0, (0, ())))), 8) else if (s.size : Int) - at_ < 4 then ((0, (0, (0, (0, ())))), 4) else
  bif chk (rdIn s at_.toNat) != 0 then ((0, (0, (0, (0, ())))), chk (rdIn s at_.toNat)) else (rdIn s at_.toNat, 0)
theorem read_u {s : ByteArray} (hs : s.size ≤ 1000000) (at_ : Int) : instr_Read.u s at_ = some (readF s at_) := by
  unfold instr_Read.u instr_Read.s readF
  by_cases h0 : at_ < 0
  · simp only [h0, decide_true, cond_true, if_true]
  by_cases h1 : at_ > (s.size : Int)
  · simp only [h0, h1, decide_true, decide_false, cond_true, cond_false, if_true, if_false]
  have e0 : IntKind.wrap .i64 ((s.size : Int) - at_) = (s.size : Int) - at_ := wrapN ⟨by omega, by omega⟩
  by_cases h2 : (s.size : Int) - at_ < 4
  · simp only [h0, h1, e0, h2, decide_true, decide_false, cond_true, cond_false, if_true, if_false]
  have e1 : IntKind.wrap .i64 (at_ + 1) = at_ + 1 := wrapN ⟨by omega, by omega⟩
  have e2 : IntKind.wrap .i64 (at_ + 2) = at_ + 2 := wrapN ⟨by omega, by omega⟩
  have e3 : IntKind.wrap .i64 (at_ + 3) = at_ + 3 := wrapN ⟨by omega, by omega⟩
  have r : ((bAt s (Int.toNat at_)), ((bAt s (Int.toNat (at_ + 1))), ((bAt s (Int.toNat (at_ + 2))), ((bAt s (Int.toNat (at_ + 3))), ())))) = rdIn s at_.toNat := by
    unfold rdIn
    rw [show (at_ + 1).toNat = at_.toNat + 1 by omega, show (at_ + 2).toNat = at_.toNat + 2 by omega, show (at_ + 3).toNat = at_.toNat + 3 by omega]
  simp only [h0, h1, e0, h2, e1, e2, e3, decide_false, cond_false, if_false, idxOK_of (show 0 ≤ at_ by omega) (show at_ < (s.size : Int) by omega), idxOK_of (show 0 ≤ at_ + 1 by omega) (show at_ + 1 < (s.size : Int) by omega),
    idxOK_of (show 0 ≤ at_ + 2 by omega) (show at_ + 2 < (s.size : Int) by omega), idxOK_of (show 0 ≤ at_ + 3 by omega) (show at_ + 3 < (s.size : Int) by omega), cond_true, r, check_u (rdIn_ok s at_.toNat), Option.bind_some]
  cases (chk (rdIn s at_.toNat) != 0) <;> rfl
theorem refread_u {s : ByteArray} (hs : s.size ≤ 1000000) (at_ : Int) : ref10_Read.u s at_ = some (readF s at_) := by
  unfold ref10_Read.u ref10_Read.s readF
  by_cases h0 : at_ < 0
  · simp only [h0, decide_true, cond_true, if_true]
  by_cases h1 : at_ > (s.size : Int)
  · simp only [h0, h1, decide_true, decide_false, cond_true, cond_false, if_true, if_false]
  have e0 : IntKind.wrap .i64 ((s.size : Int) - at_) = (s.size : Int) - at_ := wrapN ⟨by omega, by omega⟩
  by_cases h2 : (s.size : Int) - at_ < 4
  · simp only [h0, h1, e0, h2, decide_true, decide_false, cond_true, cond_false, if_true, if_false]
  have e1 : IntKind.wrap .i64 (at_ + 1) = at_ + 1 := wrapN ⟨by omega, by omega⟩
  have e2 : IntKind.wrap .i64 (at_ + 2) = at_ + 2 := wrapN ⟨by omega, by omega⟩
  have e3 : IntKind.wrap .i64 (at_ + 3) = at_ + 3 := wrapN ⟨by omega, by omega⟩
  have r : ((bAt s (Int.toNat at_)), ((bAt s (Int.toNat (at_ + 1))), ((bAt s (Int.toNat (at_ + 2))), ((bAt s (Int.toNat (at_ + 3))), ())))) = rdIn s at_.toNat := by
    unfold rdIn
    rw [show (at_ + 1).toNat = at_.toNat + 1 by omega, show (at_ + 2).toNat = at_.toNat + 2 by omega, show (at_ + 3).toNat = at_.toNat + 3 by omega]
  simp only [h0, h1, e0, h2, e1, e2, e3, decide_false, cond_false, if_false, idxOK_of (show 0 ≤ at_ by omega) (show at_ < (s.size : Int) by omega), idxOK_of (show 0 ≤ at_ + 1 by omega) (show at_ + 1 < (s.size : Int) by omega),
    idxOK_of (show 0 ≤ at_ + 2 by omega) (show at_ + 2 < (s.size : Int) by omega), idxOK_of (show 0 ≤ at_ + 3 by omega) (show at_ + 3 < (s.size : Int) by omega), cond_true, r, refcheck_u (rdIn_ok s at_.toNat), Option.bind_some]
  cases (chk (rdIn s at_.toNat) != 0) <;> rfl

theorem bytes4 {x : In} (h : InOK x) : (instr_Bytes.t x).data.toList = [UInt8.ofNat x.1.toNat, UInt8.ofNat x.2.1.toNat, UInt8.ofNat x.2.2.1.toNat, UInt8.ofNat x.2.2.2.1.toNat] := rfl
theorem bytes4_size (x : In) : (instr_Bytes.t x).size = 4 := rfl
theorem u8back {n : Int} (h : 0 ≤ n ∧ n ≤ 255) : ((UInt8.ofNat n.toNat).toNat : Int) = n := by
  rw [UInt8.toNat_ofNat']; omega
/-- The bytes of an instruction, among others, are read as it. -/
theorem rdIn_mid {x : In} (h : InOK x) (l r : ByteArray) : rdIn ((l ++ instr_Bytes.t x) ++ r) l.size = x := by
  unfold rdIn bAt
  have e : ((l ++ instr_Bytes.t x) ++ r).data.toList = l.data.toList ++ ([UInt8.ofNat x.1.toNat, UInt8.ofNat x.2.1.toNat, UInt8.ofNat x.2.2.1.toNat, UInt8.ofNat x.2.2.2.1.toNat] ++ r.data.toList) := by
    rw [app_list, app_list, bytes4 h, List.append_assoc]
  have g : ∀ j, ((l ++ instr_Bytes.t x) ++ r).data.toList.getD (l.size + j) 0 = ([UInt8.ofNat x.1.toNat, UInt8.ofNat x.2.1.toNat, UInt8.ofNat x.2.2.1.toNat, UInt8.ofNat x.2.2.2.1.toNat] ++ r.data.toList).getD j 0 := by
    intro j
    rw [e, List.getD_eq_getElem?_getD, List.getElem?_append_right (by rw [size_list]; omega), ← List.getD_eq_getElem?_getD]
    congr 1
    rw [size_list]; omega
  have g0 := g 0
  have g1 := g 1
  have g2 := g 2
  have g3 := g 3
  rw [Nat.add_zero] at g0
  rw [g0, g1, g2, g3]
  obtain ⟨a, b, c, d, u⟩ := x
  simp only [List.cons_append, List.getD_cons_zero, List.getD_cons_succ, u8back h.o, u8back h.a, u8back h.b, u8back h.c]

end Go.Proofs.YthamolhikhcilaaDoor.K

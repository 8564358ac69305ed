/- Instructions, plainly: the laws Tells, Reads, Back. -/
import Derived.Test.YtfihhbgppgkafaaDoorL10b
set_option maxRecDepth 100000
set_option linter.unusedVariables false
set_option linter.unusedSimpArgs false
namespace Go.Proofs.YtfihhbgppgkafaaDoor.K
open Go

theorem alive10 : law10_alive.u = some true := rfl
abbrev tyIn : ETy := .pair (.int .u8) (.pair (.int .u8) (.pair (.int .u8) (.pair (.int .u8) .unit)))
theorem eqIn (x : In) : eqI tyIn x x = true := eqI_self tyIn x rfl
theorem u8_of {n : Int} (h : (Lit.int .u8 n).wf = true) : 0 ≤ n ∧ n ≤ 255 := by
  simp [Lit.wf, IntKind.min, IntKind.max, IntKind.signed, IntKind.bits] at h
  omega
theorem inOK_of {x : In} (h : fits tyIn x) : InOK x := ⟨u8_of h.1, u8_of h.2.1, u8_of h.2.2.1, u8_of h.2.2.2.1⟩

theorem law_tells {x : In} (h : InOK x) : law10_InstrTells.u x = some true := by
  unfold law10_InstrTells.u law10_InstrTells.s
  simp only [place_u h, refplace_u h, check_u h, refcheck_u h, num_u h, refnum_u h, Option.bind_some, beq_self_eq_true, cond_true, eqI, alive10]

theorem bAt_u8 (s : ByteArray) (i : Nat) : 0 ≤ bAt s i ∧ bAt s i ≤ 255 := by
  unfold bAt
  have := (s.data.toList.getD i 0).toNat_lt
  omega
/-- The bytes from a place on. -/
def rdIn (s : ByteArray) (i : Nat) : In := (bAt s i, (bAt s (i + 1), (bAt s (i + 2), (bAt s (i + 3), ()))))
theorem rdIn_ok (s : ByteArray) (i : Nat) : InOK (rdIn s i) := ⟨bAt_u8 _ _, bAt_u8 _ _, bAt_u8 _ _, bAt_u8 _ _⟩
/-- What is read at a place. -/
def readF (s : ByteArray) (at_ : Int) : In × Int :=
  if at_ < 0 then ((0, (0, (0, (0, ())))), 8) else if at_ > (s.size : Int) then ((0, (0, (0, (0, ())))), 8) else if (s.size : Int) - at_ < 4 then ((0, (0, (0, (0, ())))), 4) else
  bif chk (rdIn s at_.toNat) != 0 then ((0, (0, (0, (0, ())))), chk (rdIn s at_.toNat)) else (rdIn s at_.toNat, 0)
theorem read_u {s : ByteArray} (hs : s.size ≤ 1000000) (at_ : Int) : instr_Read.u s at_ = some (readF s at_) := by
  unfold instr_Read.u instr_Read.s readF
  by_cases h0 : at_ < 0
  · simp only [h0, decide_true, cond_true, if_true]
  by_cases h1 : at_ > (s.size : Int)
  · simp only [h0, h1, decide_true, decide_false, cond_true, cond_false, if_true, if_false]
  have e0 : IntKind.wrap .i64 ((s.size : Int) - at_) = (s.size : Int) - at_ := wrapN ⟨by omega, by omega⟩
  by_cases h2 : (s.size : Int) - at_ < 4
  · simp only [h0, h1, e0, h2, decide_true, decide_false, cond_true, cond_false, if_true, if_false]
  have e1 : IntKind.wrap .i64 (at_ + 1) = at_ + 1 := wrapN ⟨by omega, by omega⟩
  have e2 : IntKind.wrap .i64 (at_ + 2) = at_ + 2 := wrapN ⟨by omega, by omega⟩
  have e3 : IntKind.wrap .i64 (at_ + 3) = at_ + 3 := wrapN ⟨by omega, by omega⟩
  have r : ((bAt s (Int.toNat at_)), ((bAt s (Int.toNat (at_ + 1))), ((bAt s (Int.toNat (at_ + 2))), ((bAt s (Int.toNat (at_ + 3))), ())))) = rdIn s at_.toNat := by
    unfold rdIn
    rw [show (at_ + 1).toNat = at_.toNat + 1 by omega, show (at_ + 2).toNat = at_.toNat + 2 by omega, show (at_ + 3).toNat = at_.toNat + 3 by omega]
  simp only [h0, h1, e0, h2, e1, e2, e3, decide_false, cond_false, if_false, idxOK_of (show 0 ≤ at_ by omega) (show at_ < (s.size : Int) by omega), idxOK_of (show 0 ≤ at_ + 1 by omega) (show at_ + 1 < (s.size : Int) by omega),
    idxOK_of (show 0 ≤ at_ + 2 by omega) (show at_ + 2 < (s.size : Int) by omega), idxOK_of (show 0 ≤ at_ + 3 by omega) (show at_ + 3 < (s.size : Int) by omega), cond_true, r, check_u (rdIn_ok s at_.toNat), Option.bind_some]
  cases (chk (rdIn s at_.toNat) != 0) <;> rfl
theorem refread_u {s : ByteArray} (hs : s.size ≤ 1000000) (at_ : Int) : ref10_Read.u s at_ = some (readF s at_) := by
  unfold ref10_Read.u ref10_Read.s readF
  by_cases h0 : at_ < 0
  · simp only [h0, decide_true, cond_true, if_true]
  by_cases h1 : at_ > (s.size : Int)
  · simp only [h0, h1, decide_true, decide_false, cond_true, cond_false, if_true, if_false]
  have e0 : IntKind.wrap .i64 ((s.size : Int) - at_) = (s.size : Int) - at_ := wrapN ⟨by omega, by omega⟩
  by_cases h2 : (s.size : Int) - at_ < 4
  · simp only [h0, h1, e0, h2, decide_true, decide_false, cond_true, cond_false, if_true, if_false]
  have e1 : IntKind.wrap .i64 (at_ + 1) = at_ + 1 := wrapN ⟨by omega, by omega⟩
  have e2 : IntKind.wrap .i64 (at_ + 2) = at_ + 2 := wrapN ⟨by omega, by omega⟩
  have e3 : IntKind.wrap .i64 (at_ + 3) = at_ + 3 := wrapN ⟨by omega, by omega⟩
  have r : ((bAt s (Int.toNat at_)), ((bAt s (Int.toNat (at_ + 1))), ((bAt s (Int.toNat (at_ + 2))), ((bAt s (Int.toNat (at_ + 3))), ())))) = rdIn s at_.toNat := by
    unfold rdIn
    rw [show (at_ + 1).toNat = at_.toNat + 1 by omega, show (at_ + 2).toNat = at_.toNat + 2 by omega, show (at_ + 3).toNat = at_.toNat + 3 by omega]
  simp only [h0, h1, e0, h2, e1, e2, e3, decide_false, cond_false, if_false, idxOK_of (show 0 ≤ at_ by omega) (show at_ < (s.size : Int) by omega), idxOK_of (show 0 ≤ at_ + 1 by omega) (show at_ + 1 < (s.size : Int) by omega),
    idxOK_of (show 0 ≤ at_ + 2 by omega) (show at_ + 2 < (s.size : Int) by omega), idxOK_of (show 0 ≤ at_ + 3 by omega) (show at_ + 3 < (s.size : Int) by omega), cond_true, r, refcheck_u (rdIn_ok s at_.toNat), Option.bind_some]
  cases (chk (rdIn s at_.toNat) != 0) <;> rfl

theorem law_reads (s : ByteArray) (at_ : Int) : law10_InstrReads.u s at_ = some true := by
  unfold law10_InstrReads.u law10_InstrReads.s
  by_cases h : (s.size : Int) > 300
  · simp only [h, decide_true, cond_true, alive10, Option.bind_some]
  · simp only [h, decide_false, cond_false, read_u (show s.size ≤ 1000000 by omega), refread_u (show s.size ≤ 1000000 by omega), Option.bind_some, eqIn, beq_self_eq_true, cond_true, alive10]

theorem bytes4 {x : In} (h : InOK x) : (instr_Bytes.t x).data.toList = [UInt8.ofNat x.1.toNat, UInt8.ofNat x.2.1.toNat, UInt8.ofNat x.2.2.1.toNat, UInt8.ofNat x.2.2.2.1.toNat] := rfl
theorem bytes4_size (x : In) : (instr_Bytes.t x).size = 4 := rfl
theorem u8back {n : Int} (h : 0 ≤ n ∧ n ≤ 255) : ((UInt8.ofNat n.toNat).toNat : Int) = n := by
  rw [UInt8.toNat_ofNat']; omega
/-- The bytes of an instruction, among others, are read as it. -/
theorem rdIn_mid {x : In} (h : InOK x) (l r : ByteArray) : rdIn ((l ++ instr_Bytes.t x) ++ r) l.size = x := by
  unfold rdIn bAt
  have e : ((l ++ instr_Bytes.t x) ++ r).data.toList = l.data.toList ++ ([UInt8.ofNat x.1.toNat, UInt8.ofNat x.2.1.toNat, UInt8.ofNat x.2.2.1.toNat, UInt8.ofNat x.2.2.2.1.toNat] ++ r.data.toList) := by
    rw [app_list, app_list, bytes4 h, List.append_assoc]
  have g : ∀ j, ((l ++ instr_Bytes.t x) ++ r).data.toList.getD (l.size + j) 0 = ([UInt8.ofNat x.1.toNat, UInt8.ofNat x.2.1.toNat, UInt8.ofNat x.2.2.1.toNat, UInt8.ofNat x.2.2.2.1.toNat] ++ r.data.toList).getD j 0 := by
    intro j
    rw [e, List.getD_eq_getElem?_getD, List.getElem?_append_right (by rw [size_list]; omega), ← List.getD_eq_getElem?_getD]
    congr 1
    rw [size_list]; omega
  have g0 := g 0
  have g1 := g 1
  have g2 := g 2
  have g3 := g 3
  rw [Nat.add_zero] at g0
  rw [g0, g1, g2, g3]
  obtain ⟨a, b, c, d, u⟩ := x
  simp only [List.cons_append, List.getD_cons_zero, List.getD_cons_succ, u8back h.o, u8back h.a, u8back h.b, u8back h.c]

theorem law_back {x : In} (h : InOK x) {l r : ByteArray} (hl : l.size ≤ reachBytes) (hr : r.size ≤ reachBytes) : law10_InstrBack.u x l r = some true := by
  unfold law10_InstrBack.u law10_InstrBack.s
  unfold reachBytes at hl hr
  have e0 : IntKind.wrap .i64 ((l.size : Int) + (r.size : Int)) = (l.size : Int) + (r.size : Int) := wrapN ⟨by omega, by omega⟩
  rw [e0]
  by_cases hd : (l.size : Int) + (r.size : Int) > 300
  · simp only [hd, decide_true, cond_true, alive10, Option.bind_some]
  have z1 : (l ++ instr_Bytes.t x).size = l.size + 4 := by rw [ByteArray.size_append, bytes4_size]
  have z2 : ((l ++ instr_Bytes.t x) ++ r).size = l.size + 4 + r.size := by rw [ByteArray.size_append, z1]
  have c1 : decide (l.size + (instr_Bytes.t x).size ≤ catMax) = true := by rw [bytes4_size]; unfold catMax; exact decide_eq_true (by omega)
  have c2 : decide ((l ++ instr_Bytes.t x).size + r.size ≤ catMax) = true := by rw [z1]; unfold catMax; exact decide_eq_true (by omega)
  have hrd : readF ((l ++ instr_Bytes.t x) ++ r) (l.size : Int) = bif chk x != 0 then ((0, (0, (0, (0, ())))), chk x) else (x, 0) := by
    unfold readF
    rw [if_neg (by omega), if_neg (by rw [z2]; omega), if_neg (by rw [z2]; omega), Int.toNat_natCast, rdIn_mid h]
  simp only [hd, decide_false, cond_false, c1, c2, cond_true, read_u (s := (l ++ instr_Bytes.t x) ++ r) (by rw [z2]; omega), hrd, check_u h, Option.bind_some]
  cases hc : (chk x != 0) with
  | true => simp only [cond_true, beq_self_eq_true, show eqI tyIn ((0, (0, (0, (0, ())))) : In) ((0, (0, (0, (0, ())))) : In) = true from rfl, alive10, Option.bind_some]
  | false => simp only [cond_false, show ((0 : Int) == 0) = true from rfl, cond_true, eqIn, bytes4_size, show (((4 : Nat) : Int) == 4) = true from rfl, alive10, Option.bind_some]

theorem row_InstrTells (xs : Args [tyIn]) (h : fitsA _ xs) : law10_InstrTells.u xs.1 = some true := law_tells (inOK_of h.1)
theorem row_InstrReads (xs : Args [.str, .int .i64]) (h : fitsA _ xs) : law10_InstrReads.u xs.1 xs.2.1 = some true := law_reads _ _
theorem row_InstrBack (xs : Args [tyIn, .str, .str]) (h : fitsA _ xs) : law10_InstrBack.u xs.1 xs.2.1 xs.2.2.1 = some true := law_back (inOK_of h.1) h.2.1 h.2.2.1
end Go.Proofs.YtfihhbgppgkafaaDoor.K

/- The words' bits. -/
import Derived.Test.YtmphlhnpichonaaDoorP8
set_option maxRecDepth 100000
set_option linter.unusedVariables false
set_option linter.unusedSimpArgs false
namespace Go.Proofs.YtmphlhnpichonaaDoor.K
open Go

def opN (x0 : Int) (A B : Nat) : Nat := bif x0 == 8 then A ^^^ B else bif x0 == 7 then A ||| B else A &&& B

def SN (x0 : Int) (A B n : Nat) : S73 := (((A / 2 ^ n : Nat) : Int), ((B / 2 ^ n : Nat) : Int), ((opN x0 A B % 2 ^ n : Nat) : Int), ((2 ^ n : Nat) : Int), (n : Int))

theorem opN_bit (x0 : Int) (A B n : Nat) : (opN x0 A B).testBit n = bif x0 == 8 then (A.testBit n ^^ B.testBit n) else bif x0 == 7 then (A.testBit n || B.testBit n) else (A.testBit n && B.testBit n) := by
  unfold opN
  cases (x0 == 8) <;> cases (x0 == 7) <;> simp

theorem bit_div (A n : Nat) : A.testBit n = decide (A / 2 ^ n % 2 = 1) := Nat.testBit_eq_decide_div_mod_eq

theorem bit73_eq (x0 : Int) (A B n : Nat) : bit73 x0 ((A / 2 ^ n : Nat) : Int) ((B / 2 ^ n : Nat) : Int) = (opN x0 A B).testBit n := by
  rw [opN_bit, bit_div, bit_div]
  unfold bit73
  have e1 : Int.tmod ((A / 2 ^ n : Nat) : Int) 2 = ((A / 2 ^ n % 2 : Nat) : Int) := rfl
  have e2 : Int.tmod ((B / 2 ^ n : Nat) : Int) 2 = ((B / 2 ^ n % 2 : Nat) : Int) := rfl
  rw [e1, e2]
  have ha : A / 2 ^ n % 2 = 0 ∨ A / 2 ^ n % 2 = 1 := by omega
  have hb : B / 2 ^ n % 2 = 0 ∨ B / 2 ^ n % 2 = 1 := by omega
  rcases ha with ha | ha <;> rcases hb with hb | hb <;> rw [ha, hb] <;> cases (x0 == 8) <;> cases (x0 == 7) <;> decide

theorem st73_SN (x0 : Int) (A B n : Nat) (hA : A < 4294967296) (hB : B < 4294967296) (hn : n < 32) : st73 x0 (SN x0 A B n) = SN x0 A B (n + 1) := by
  unfold st73 SN
  have h2 : 2 ^ n ≤ 2147483648 := by
    have : 2 ^ n ≤ 2 ^ 31 := Nat.pow_le_pow_right (by omega) (by omega)
    simpa using this
  have hp : 2 ^ (n + 1) = 2 * 2 ^ n := by rw [Nat.pow_succ]; omega
  have hpos : 0 < 2 ^ n := Nat.pos_of_ne_zero (by simp)
  have qa : A / 2 ^ n ≤ A := Nat.div_le_self _ _
  have qb : B / 2 ^ n ≤ B := Nat.div_le_self _ _
  have e1 : Int.tdiv ((A / 2 ^ n : Nat) : Int) 2 = ((A / 2 ^ (n + 1) : Nat) : Int) := by
    rw [hp, Nat.mul_comm, ← Nat.div_div_eq_div_mul]; rfl
  have e2 : Int.tdiv ((B / 2 ^ n : Nat) : Int) 2 = ((B / 2 ^ (n + 1) : Nat) : Int) := by
    rw [hp, Nat.mul_comm, ← Nat.div_div_eq_div_mul]; rfl
  have ra : A / 2 ^ (n + 1) ≤ A := Nat.div_le_self _ _
  have rb : B / 2 ^ (n + 1) ≤ B := Nat.div_le_self _ _
  have hs : opN x0 A B % 2 ^ (n + 1) = opN x0 A B % 2 ^ n + 2 ^ n * (opN x0 A B / 2 ^ n % 2) := Nat.mod_pow_succ
  have hbit := bit_div (opN x0 A B) n
  have hml : opN x0 A B % 2 ^ n < 2 ^ n := Nat.mod_lt _ hpos
  simp only [e1, e2, bit73_eq]
  refine Prod.ext ?_ (Prod.ext ?_ (Prod.ext ?_ (Prod.ext ?_ ?_)))
  · exact wrap_in (Int.le_trans (by decide) (Int.natCast_nonneg _)) (by omega)
  · exact wrap_in (Int.le_trans (by decide) (Int.natCast_nonneg _)) (by omega)
  · simp only
    rw [hs]
    cases hc : (opN x0 A B).testBit n with
    | true =>
      rw [hc] at hbit
      have h1 : opN x0 A B / 2 ^ n % 2 = 1 := by simpa using hbit.symm
      rw [h1, cond_true, wrap_in (by omega) (by omega)]
      omega
    | false =>
      rw [hc] at hbit
      have h1 : ¬ opN x0 A B / 2 ^ n % 2 = 1 := by simpa using hbit.symm
      have h0 : opN x0 A B / 2 ^ n % 2 = 0 := by omega
      rw [h0, cond_false]
      omega
  · simp only
    rw [wrap_in (by omega) (by omega), hp]
    omega
  · simp only
    omega

theorem rep_SN (x0 : Int) (A B : Nat) (hA : A < 4294967296) (hB : B < 4294967296) : ∀ (m n : Nat), n + m ≤ 32 → rep (st73 x0) m (SN x0 A B n) = SN x0 A B (n + m)
  | 0, n, _ => rfl
  | m + 1, n, h => by
    show rep (st73 x0) m (st73 x0 (SN x0 A B n)) = _
    rw [st73_SN x0 A B n hA hB (by omega), rep_SN x0 A B hA hB m (n + 1) (by omega)]
    congr 1; omega

theorem t73_eq {x0 x1 x2 : Int} (h1 : fit32 x1) (h2 : fit32 x2) : t73 x0 x1 x2 = bm ((opN x0 (x1 % 4294967296).toNat (x2 % 4294967296).toNat % 4294967296 : Nat) : Int) := by
  unfold t73
  rw [t71_eq h1, t71_eq h2]
  have hA : (x1 % 4294967296).toNat < 4294967296 := by omega
  have hB : (x2 % 4294967296).toNat < 4294967296 := by omega
  have e0 : ((x1 % 4294967296, x2 % 4294967296, 0, 1, 0) : S73) = SN x0 (x1 % 4294967296).toNat (x2 % 4294967296).toNat 0 := by
    unfold SN
    simp only [Nat.pow_zero, Nat.div_one, Nat.mod_one]
    refine Prod.ext ?_ (Prod.ext ?_ rfl) <;> simp only <;> omega
  rw [e0, rep_SN x0 _ _ hA hB 32 0 (by omega), t55_eq]
  · rfl
  · have : opN x0 (x1 % 4294967296).toNat (x2 % 4294967296).toNat % 2 ^ (0 + 32) < 2 ^ 32 := Nat.mod_lt _ (by simp)
    unfold SN fit64
    simp only
    omega

theorem bm_mod (N : Nat) : bm (N : Int) = bm ((N % 4294967296 : Nat) : Int) := by unfold bm; omega
theorem ofInt_mod (x : Int) : (BitVec.ofInt 64 x).toNat % 2 ^ 32 = (x % 4294967296).toNat := by
  rw [BitVec.toNat_ofInt]
  omega

theorem and_eq (x1 x2 : Int) : bm (((BitVec.ofInt (IntKind.bits .i64) x1 &&& BitVec.ofInt (IntKind.bits .i64) x2).toNat : Nat) : Int) = bm ((((x1 % 4294967296).toNat &&& (x2 % 4294967296).toNat) % 4294967296 : Nat) : Int) := by
  rw [bm_mod]
  congr 2
  show (BitVec.ofInt 64 x1 &&& BitVec.ofInt 64 x2).toNat % 2 ^ 32 = ((x1 % 4294967296).toNat &&& (x2 % 4294967296).toNat) % 2 ^ 32
  rw [BitVec.toNat_and, Nat.and_mod_two_pow, Nat.and_mod_two_pow, ofInt_mod, ofInt_mod]
  rw [Nat.mod_eq_of_lt (a := (x1 % 4294967296).toNat) (by omega), Nat.mod_eq_of_lt (a := (x2 % 4294967296).toNat) (by omega)]
theorem or_eq (x1 x2 : Int) : bm (((BitVec.ofInt (IntKind.bits .i64) x1 ||| BitVec.ofInt (IntKind.bits .i64) x2).toNat : Nat) : Int) = bm ((((x1 % 4294967296).toNat ||| (x2 % 4294967296).toNat) % 4294967296 : Nat) : Int) := by
  rw [bm_mod]
  congr 2
  show (BitVec.ofInt 64 x1 ||| BitVec.ofInt 64 x2).toNat % 2 ^ 32 = ((x1 % 4294967296).toNat ||| (x2 % 4294967296).toNat) % 2 ^ 32
  rw [BitVec.toNat_or, Nat.or_mod_two_pow, Nat.or_mod_two_pow, ofInt_mod, ofInt_mod]
  rw [Nat.mod_eq_of_lt (a := (x1 % 4294967296).toNat) (by omega), Nat.mod_eq_of_lt (a := (x2 % 4294967296).toNat) (by omega)]
theorem xor_eq (x1 x2 : Int) : bm (((BitVec.ofInt (IntKind.bits .i64) x1 ^^^ BitVec.ofInt (IntKind.bits .i64) x2).toNat : Nat) : Int) = bm ((((x1 % 4294967296).toNat ^^^ (x2 % 4294967296).toNat) % 4294967296 : Nat) : Int) := by
  rw [bm_mod]
  congr 2
  show (BitVec.ofInt 64 x1 ^^^ BitVec.ofInt 64 x2).toNat % 2 ^ 32 = ((x1 % 4294967296).toNat ^^^ (x2 % 4294967296).toNat) % 2 ^ 32
  rw [BitVec.toNat_xor, Nat.xor_mod_two_pow, Nat.xor_mod_two_pow, ofInt_mod, ofInt_mod]
  rw [Nat.mod_eq_of_lt (a := (x1 % 4294967296).toNat) (by omega), Nat.mod_eq_of_lt (a := (x2 % 4294967296).toNat) (by omega)]
theorem and31 (x : Int) : IntKind.wrap .i64 ((BitVec.ofInt (IntKind.bits .i64) x &&& BitVec.ofInt (IntKind.bits .i64) 31).toNat : Nat) = x % 32 := by
  have : (BitVec.ofInt 64 x &&& BitVec.ofInt 64 31).toNat = (x % 32).toNat := by
    rw [BitVec.toNat_and, show (BitVec.ofInt 64 31).toNat = 2 ^ 5 - 1 by decide, Nat.and_two_pow_sub_one_eq_mod, BitVec.toNat_ofInt]
    omega
  show IntKind.wrap .i64 (((BitVec.ofInt 64 x &&& BitVec.ofInt 64 31).toNat : Nat) : Int) = x % 32
  rw [this, wrap_in (by omega) (by omega)]
  omega
end Go.Proofs.YtmphlhnpichonaaDoor.K

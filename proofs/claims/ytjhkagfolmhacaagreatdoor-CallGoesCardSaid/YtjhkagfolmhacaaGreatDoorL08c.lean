/- Words, plainly: whatever a word's sum, the reference's is the same. -/
import Derived.Test.YtjhkagfolmhacaaGreatDoorL08b
set_option maxRecDepth 100000
set_option linter.unusedVariables false
set_option linter.unusedSimpArgs false
namespace Go.Proofs.YtjhkagfolmhacaaGreatDoor.K
open Go

theorem tmod_lit (x : Int) (n : Nat) : Int.tmod x n = if 0 ≤ x then x % n else -((-x) % n) := by
  split
  · rename_i h; exact Int.tmod_eq_emod_of_nonneg h
  · rename_i h
    have h1 : Int.tmod (-x) n = (-x) % n := Int.tmod_eq_emod_of_nonneg (by omega)
    rw [Int.neg_tmod] at h1
    omega
theorem tdiv_lit (x : Int) (n : Nat) : Int.tdiv x n = if 0 ≤ x then x / n else -((-x) / n) := by
  split
  · rename_i h; exact Int.tdiv_eq_ediv_of_nonneg h
  · rename_i h
    have h1 : Int.tdiv (-x) n = (-x) / n := Int.tdiv_eq_ediv_of_nonneg (by omega)
    rw [Int.neg_tdiv] at h1
    omega
def fit32 (x : Int) : Prop := -2147483648 ≤ x ∧ x ≤ 2147483647
def fit64 (x : Int) : Prop := -9223372036854775808 ≤ x ∧ x ≤ 9223372036854775807
theorem bm_fit (x : Int) : fit32 (bm x) := by unfold fit32 bm; omega
theorem bm_id {x : Int} (h : fit32 x) : bm x = x := by unfold fit32 at h; unfold bm; omega
theorem w64_fit (x : Int) : fit64 (IntKind.wrap .i64 x) := by rw [w64]; unfold fit64; omega
theorem refwrap_t {x : Int} (h : fit64 x) : ref08_Wrap.t x = bm x := by
  unfold ref08_Wrap.t
  have hm := tmod_lit x 4294967296
  generalize hM : Int.tmod x 4294967296 = M at *
  have hM' : M = if 0 ≤ x then x % 4294967296 else -((-x) % 4294967296) := hm
  have h2 : IntKind.wrap .i64 (M + 4294967296) = M + 4294967296 := wrap_in (by split at hM' <;> omega) (by split at hM' <;> omega)
  have h3 : IntKind.wrap .i64 (M - 4294967296) = M - 4294967296 := wrap_in (by split at hM' <;> omega) (by split at hM' <;> omega)
  have h4 : IntKind.wrap .i64 (M + 4294967296 - 4294967296) = M := by rw [show M + 4294967296 - 4294967296 = M by omega]; exact wrap_in (by split at hM' <;> omega) (by split at hM' <;> omega)
  simp only [h2, h3, h4]
  unfold bm
  cases h5 : decide (M < 0) with
  | true =>
    have h5' : M < 0 := by simpa using h5
    cases h6 : decide (M + 4294967296 > 2147483647) with
    | true =>
      have h6' : M + 4294967296 > 2147483647 := by simpa using h6
      simp only [cond_true]
      split at hM' <;> omega
    | false =>
      have h6' : ¬ M + 4294967296 > 2147483647 := by simpa using h6
      simp only [cond_true, cond_false]
      split at hM' <;> omega
  | false =>
    have h5' : ¬ M < 0 := by simpa using h5
    cases h6 : decide (M > 2147483647) with
    | true =>
      have h6' : M > 2147483647 := by simpa using h6
      simp only [cond_true, cond_false]
      split at hM' <;> omega
    | false =>
      have h6' : ¬ M > 2147483647 := by simpa using h6
      simp only [cond_false]
      split at hM' <;> omega
theorem fit_iff {x : Int} : word_Fine.t x = true ↔ fit32 x := fine_iff
theorem up_t {x : Int} (h : fit32 x) : ref08_up.t x = x % 4294967296 := by
  unfold ref08_up.t
  unfold fit32 at h
  cases h1 : decide (x < 0) with
  | true =>
    have : x < 0 := by simpa using h1
    rw [cond_true, wrap_in (by omega) (by omega)]
    omega
  | false =>
    have : ¬ x < 0 := by simpa using h1
    rw [cond_false]
    omega
/-- A number moved by a bit. -/
def moveSt (x2 : Bool) (v : Int) : Int :=
  bif !x2 then ref08_Wrap.t (IntKind.wrap .i64 (2 * v))
  else bif decide (v < 0) then (bif (Int.tmod v 2) != 0 then IntKind.wrap .i64 (IntKind.wrap .i64 (Int.tdiv v 2) - 1) else IntKind.wrap .i64 (Int.tdiv v 2))
  else IntKind.wrap .i64 (Int.tdiv v 2)
theorem moved_g {Ω : Type} (e : Int) (b : Bool) (k : Int → Option Ω) : ∀ (n : Nat) (x : Int), ref08_moved.g0 e b k n x = k (rep (moveSt b) n x)
  | 0, x => rfl
  | n + 1, x => by
    show _ = k (rep (moveSt b) n (moveSt b x))
    rw [← moved_g e b k n]
    simp only [ref08_moved.g0, moveSt]
    cases b with
    | false => rfl
    | true =>
      simp only [Bool.not_true, cond_false]
      cases decide (x < 0) with
      | false => rfl
      | true => cases (Int.tmod x 2) != 0 <;> rfl
def moveF (x0 x1 : Int) (x2 : Bool) : Int := rep (moveSt x2) x1.toNat x0
theorem moved_u {x1 : Int} (x0 : Int) (x2 : Bool) (h1 : x1 ≤ 1000) : ref08_moved.u x0 x1 x2 = some (moveF x0 x1 x2) := by
  unfold ref08_moved.u ref08_moved.w
  rw [decide_eq_true (show x1 ≤ 4611686018427387904 by omega), cond_true, moved_g, Int.sub_zero]
  rfl
theorem half_floor {x : Int} (h : fit32 x) : moveSt true x = x / 2 := by
  unfold moveSt
  unfold fit32 at h
  have hd := tdiv_lit x 2
  have hm := tmod_lit x 2
  simp only [Bool.not_true, cond_false]
  have e1 : Int.tdiv x 2 = if 0 ≤ x then x / 2 else -((-x) / 2) := hd
  have e2 : Int.tmod x 2 = if 0 ≤ x then x % 2 else -((-x) % 2) := hm
  have h3 : IntKind.wrap .i64 (Int.tdiv x 2) = Int.tdiv x 2 := wrap_in (by rw [e1]; split <;> omega) (by rw [e1]; split <;> omega)
  have h4 : IntKind.wrap .i64 (Int.tdiv x 2 - 1) = Int.tdiv x 2 - 1 := wrap_in (by rw [e1]; split <;> omega) (by rw [e1]; split <;> omega)
  simp only [h3, h4]
  cases h5 : decide (x < 0) with
  | true =>
    have h5' : x < 0 := by simpa using h5
    simp only [cond_true]
    cases h6 : ((Int.tmod x 2) != 0) with
    | true =>
      have h6' : Int.tmod x 2 ≠ 0 := by simpa using h6
      simp only [cond_true]
      rw [e2] at h6'; rw [e1]
      split at h6' <;> split <;> omega
    | false =>
      have h6' : Int.tmod x 2 = 0 := by simpa using h6
      simp only [cond_false]
      rw [e2] at h6'; rw [e1]
      split at h6' <;> split <;> omega
  | false =>
    have h5' : ¬ x < 0 := by simpa using h5
    simp only [cond_false]
    rw [e1]; split <;> omega
theorem shr_rep : ∀ (n : Nat) (x : Int), fit32 x → rep (moveSt true) n x = x / 2 ^ n
  | 0, x, h => by simp [rep]
  | n + 1, x, h => by
    show rep (moveSt true) n (moveSt true x) = _
    rw [half_floor h, shr_rep n (x / 2) (by unfold fit32 at *; omega), Int.pow_succ, Int.mul_comm, Int.ediv_ediv_of_nonneg (by omega)]
theorem dbl {x : Int} (h : fit32 x) : moveSt false x = bm (2 * x) := by
  unfold moveSt
  simp only [Bool.not_false, cond_true]
  unfold fit32 at h
  rw [wrap_in (by omega) (by omega), refwrap_t (by unfold fit64; omega)]
theorem bm_mul (a x : Int) : bm (a * bm x) = bm (a * x) := by
  have : bm x = x - 4294967296 * ((x + 2147483648) / 4294967296) := by unfold bm; omega
  rw [this]
  unfold bm
  rw [Int.mul_sub, ← Int.mul_assoc, Int.mul_comm a 4294967296, Int.mul_assoc]
  omega
theorem shl_rep : ∀ (n : Nat) (x : Int), fit32 x → rep (moveSt false) n x = bm (x * 2 ^ n)
  | 0, x, h => by simp [rep, bm_id h]
  | n + 1, x, h => by
    show rep (moveSt false) n (moveSt false x) = _
    rw [dbl h, shl_rep n _ (bm_fit _), Int.mul_comm, bm_mul, Int.pow_succ]
    congr 1
    rw [Int.mul_comm (2 ^ n), Int.mul_assoc, Int.mul_left_comm, Int.mul_comm (2 ^ n) 2, Int.mul_left_comm]
/-- Two numbers' bits: a round. -/
abbrev BitS := Int × Int × Int × Int × Int
def bitOf (x0 a b : Int) : Bool :=
  bif x0 == 8 then ((IntKind.wrap .i64 (Int.tmod a 2 + Int.tmod b 2)) == 1)
  else bif x0 == 7 then decide ((IntKind.wrap .i64 (Int.tmod a 2 + Int.tmod b 2)) > 0)
  else ((IntKind.wrap .i64 (Int.tmod a 2 + Int.tmod b 2)) == 2)
def bitSt (x0 : Int) (s : BitS) : BitS :=
  (IntKind.wrap .i64 (Int.tdiv s.1 2), IntKind.wrap .i64 (Int.tdiv s.2.1 2), bif bitOf x0 s.1 s.2.1 then IntKind.wrap .i64 (s.2.2.1 + s.2.2.2.1) else s.2.2.1, IntKind.wrap .i64 (2 * s.2.2.2.1), s.2.2.2.2 + 1)
theorem bits_g {Ω : Type} (e : Int) (k : Int → Option Ω) : ∀ (n : Nat) (s : BitS), ref08_bits.g0 e k n s.1 s.2.1 s.2.2.1 s.2.2.2.1 = k (ref08_Wrap.t (rep (bitSt e) n s).2.2.1)
  | 0, x => rfl
  | n + 1, x => by
    show _ = k (ref08_Wrap.t (rep (bitSt e) n (bitSt e x)).2.2.1)
    rw [← bits_g e k n]
    simp only [ref08_bits.g0, bitSt, bitOf]
    cases (e == 7) <;> cases (e == 8) <;> simp only [cond_true, cond_false]
    · cases ((IntKind.wrap .i64 (Int.tmod x.1 2 + Int.tmod x.2.1 2)) == 2) <;> rfl
    · cases ((IntKind.wrap .i64 (Int.tmod x.1 2 + Int.tmod x.2.1 2)) == 1) <;> rfl
    · cases decide ((IntKind.wrap .i64 (Int.tmod x.1 2 + Int.tmod x.2.1 2)) > 0) <;> rfl
    · cases ((IntKind.wrap .i64 (Int.tmod x.1 2 + Int.tmod x.2.1 2)) == 1) <;> rfl
def bitsF (x0 x1 x2 : Int) : Int := ref08_Wrap.t (rep (bitSt x0) 32 (ref08_up.t x1, ref08_up.t x2, 0, 1, 0)).2.2.1
theorem bits_u (x0 x1 x2 : Int) : ref08_bits.u x0 x1 x2 = some (bitsF x0 x1 x2) := bits_g x0 some 32 (ref08_up.t x1, ref08_up.t x2, 0, 1, 0)
def opN (x0 : Int) (A B : Nat) : Nat := bif x0 == 8 then A ^^^ B else bif x0 == 7 then A ||| B else A &&& B
def SN (x0 : Int) (A B n : Nat) : BitS := (((A / 2 ^ n : Nat) : Int), ((B / 2 ^ n : Nat) : Int), ((opN x0 A B % 2 ^ n : Nat) : Int), ((2 ^ n : Nat) : Int), (n : Int))
theorem opN_bit (x0 : Int) (A B n : Nat) : (opN x0 A B).testBit n = bif x0 == 8 then (A.testBit n ^^ B.testBit n) else bif x0 == 7 then (A.testBit n || B.testBit n) else (A.testBit n && B.testBit n) := by
  unfold opN
  cases (x0 == 8) <;> cases (x0 == 7) <;> simp
theorem bit_div (A n : Nat) : A.testBit n = decide (A / 2 ^ n % 2 = 1) := Nat.testBit_eq_decide_div_mod_eq
theorem bitOf_eq (x0 : Int) (A B n : Nat) : bitOf x0 ((A / 2 ^ n : Nat) : Int) ((B / 2 ^ n : Nat) : Int) = (opN x0 A B).testBit n := by
  rw [opN_bit, bit_div, bit_div]
  unfold bitOf
  have e1 : Int.tmod ((A / 2 ^ n : Nat) : Int) 2 = ((A / 2 ^ n % 2 : Nat) : Int) := rfl
  have e2 : Int.tmod ((B / 2 ^ n : Nat) : Int) 2 = ((B / 2 ^ n % 2 : Nat) : Int) := rfl
  rw [e1, e2]
  have ha : A / 2 ^ n % 2 = 0 ∨ A / 2 ^ n % 2 = 1 := by omega
  have hb : B / 2 ^ n % 2 = 0 ∨ B / 2 ^ n % 2 = 1 := by omega
  rcases ha with ha | ha <;> rcases hb with hb | hb <;> rw [ha, hb] <;> cases (x0 == 8) <;> cases (x0 == 7) <;> decide
theorem bitSt_SN (x0 : Int) (A B n : Nat) (hA : A < 4294967296) (hB : B < 4294967296) (hn : n < 32) : bitSt x0 (SN x0 A B n) = SN x0 A B (n + 1) := by
  unfold bitSt SN
  have h2 : 2 ^ n ≤ 2147483648 := by
    have : 2 ^ n ≤ 2 ^ 31 := Nat.pow_le_pow_right (by omega) (by omega)
    simpa using this
  have hp : 2 ^ (n + 1) = 2 * 2 ^ n := by rw [Nat.pow_succ]; omega
  have hpos : 0 < 2 ^ n := Nat.pos_of_ne_zero (by simp)
  have qa : A / 2 ^ n ≤ A := Nat.div_le_self _ _
  have qb : B / 2 ^ n ≤ B := Nat.div_le_self _ _
  have e1 : Int.tdiv ((A / 2 ^ n : Nat) : Int) 2 = ((A / 2 ^ (n + 1) : Nat) : Int) := by
    rw [hp, Nat.mul_comm, ← Nat.div_div_eq_div_mul]; rfl
  have e2 : Int.tdiv ((B / 2 ^ n : Nat) : Int) 2 = ((B / 2 ^ (n + 1) : Nat) : Int) := by
    rw [hp, Nat.mul_comm, ← Nat.div_div_eq_div_mul]; rfl
  have ra : A / 2 ^ (n + 1) ≤ A := Nat.div_le_self _ _
  have rb : B / 2 ^ (n + 1) ≤ B := Nat.div_le_self _ _
  have hs : opN x0 A B % 2 ^ (n + 1) = opN x0 A B % 2 ^ n + 2 ^ n * (opN x0 A B / 2 ^ n % 2) := Nat.mod_pow_succ
  have hbit := bit_div (opN x0 A B) n
  have hml : opN x0 A B % 2 ^ n < 2 ^ n := Nat.mod_lt _ hpos
  simp only [e1, e2, bitOf_eq]
  refine Prod.ext ?_ (Prod.ext ?_ (Prod.ext ?_ (Prod.ext ?_ ?_)))
  · exact wrap_in (Int.le_trans (by decide) (Int.natCast_nonneg _)) (by omega)
  · exact wrap_in (Int.le_trans (by decide) (Int.natCast_nonneg _)) (by omega)
  · simp only
    rw [hs]
    cases hc : (opN x0 A B).testBit n with
    | true =>
      rw [hc] at hbit
      have h1 : opN x0 A B / 2 ^ n % 2 = 1 := by simpa using hbit.symm
      rw [h1, cond_true, wrap_in (by omega) (by omega)]
      omega
    | false =>
      rw [hc] at hbit
      have h1 : ¬ opN x0 A B / 2 ^ n % 2 = 1 := by simpa using hbit.symm
      have h0 : opN x0 A B / 2 ^ n % 2 = 0 := by omega
      rw [h0, cond_false]
      omega
  · simp only
    rw [wrap_in (by omega) (by omega), hp]
    omega
  · simp only
    omega
theorem rep_SN (x0 : Int) (A B : Nat) (hA : A < 4294967296) (hB : B < 4294967296) : ∀ (m n : Nat), n + m ≤ 32 → rep (bitSt x0) m (SN x0 A B n) = SN x0 A B (n + m)
  | 0, n, _ => rfl
  | m + 1, n, h => by
    show rep (bitSt x0) m (bitSt x0 (SN x0 A B n)) = _
    rw [bitSt_SN x0 A B n hA hB (by omega), rep_SN x0 A B hA hB m (n + 1) (by omega)]
    congr 1; omega
theorem bitsF_eq {x0 x1 x2 : Int} (h1 : fit32 x1) (h2 : fit32 x2) : bitsF x0 x1 x2 = bm ((opN x0 (x1 % 4294967296).toNat (x2 % 4294967296).toNat % 4294967296 : Nat) : Int) := by
  unfold bitsF
  rw [up_t h1, up_t h2]
  have hA : (x1 % 4294967296).toNat < 4294967296 := by omega
  have hB : (x2 % 4294967296).toNat < 4294967296 := by omega
  have e0 : ((x1 % 4294967296, x2 % 4294967296, 0, 1, 0) : BitS) = SN x0 (x1 % 4294967296).toNat (x2 % 4294967296).toNat 0 := by
    unfold SN
    simp only [Nat.pow_zero, Nat.div_one, Nat.mod_one]
    refine Prod.ext ?_ (Prod.ext ?_ rfl) <;> simp only <;> omega
  rw [e0, rep_SN x0 _ _ hA hB 32 0 (by omega), refwrap_t]
  · rfl
  · have : opN x0 (x1 % 4294967296).toNat (x2 % 4294967296).toNat % 2 ^ (0 + 32) < 2 ^ 32 := Nat.mod_lt _ (by simp)
    unfold SN fit64
    simp only
    omega
theorem bm_mod (N : Nat) : bm (N : Int) = bm ((N % 4294967296 : Nat) : Int) := by unfold bm; omega
theorem ofInt_mod (x : Int) : (BitVec.ofInt 64 x).toNat % 2 ^ 32 = (x % 4294967296).toNat := by
  rw [BitVec.toNat_ofInt]
  omega
theorem and_eq (x1 x2 : Int) : bm (((BitVec.ofInt (IntKind.bits .i64) x1 &&& BitVec.ofInt (IntKind.bits .i64) x2).toNat : Nat) : Int) = bm ((((x1 % 4294967296).toNat &&& (x2 % 4294967296).toNat) % 4294967296 : Nat) : Int) := by
  rw [bm_mod]
  congr 2
  show (BitVec.ofInt 64 x1 &&& BitVec.ofInt 64 x2).toNat % 2 ^ 32 = ((x1 % 4294967296).toNat &&& (x2 % 4294967296).toNat) % 2 ^ 32
  rw [BitVec.toNat_and, Nat.and_mod_two_pow, Nat.and_mod_two_pow, ofInt_mod, ofInt_mod]
  rw [Nat.mod_eq_of_lt (a := (x1 % 4294967296).toNat) (by omega), Nat.mod_eq_of_lt (a := (x2 % 4294967296).toNat) (by omega)]
theorem or_eq (x1 x2 : Int) : bm (((BitVec.ofInt (IntKind.bits .i64) x1 ||| BitVec.ofInt (IntKind.bits .i64) x2).toNat : Nat) : Int) = bm ((((x1 % 4294967296).toNat ||| (x2 % 4294967296).toNat) % 4294967296 : Nat) : Int) := by
  rw [bm_mod]
  congr 2
  show (BitVec.ofInt 64 x1 ||| BitVec.ofInt 64 x2).toNat % 2 ^ 32 = ((x1 % 4294967296).toNat ||| (x2 % 4294967296).toNat) % 2 ^ 32
  rw [BitVec.toNat_or, Nat.or_mod_two_pow, Nat.or_mod_two_pow, ofInt_mod, ofInt_mod]
  rw [Nat.mod_eq_of_lt (a := (x1 % 4294967296).toNat) (by omega), Nat.mod_eq_of_lt (a := (x2 % 4294967296).toNat) (by omega)]
theorem xor_eq (x1 x2 : Int) : bm (((BitVec.ofInt (IntKind.bits .i64) x1 ^^^ BitVec.ofInt (IntKind.bits .i64) x2).toNat : Nat) : Int) = bm ((((x1 % 4294967296).toNat ^^^ (x2 % 4294967296).toNat) % 4294967296 : Nat) : Int) := by
  rw [bm_mod]
  congr 2
  show (BitVec.ofInt 64 x1 ^^^ BitVec.ofInt 64 x2).toNat % 2 ^ 32 = ((x1 % 4294967296).toNat ^^^ (x2 % 4294967296).toNat) % 2 ^ 32
  rw [BitVec.toNat_xor, Nat.xor_mod_two_pow, Nat.xor_mod_two_pow, ofInt_mod, ofInt_mod]
  rw [Nat.mod_eq_of_lt (a := (x1 % 4294967296).toNat) (by omega), Nat.mod_eq_of_lt (a := (x2 % 4294967296).toNat) (by omega)]
theorem and31 (x : Int) : IntKind.wrap .i64 ((BitVec.ofInt (IntKind.bits .i64) x &&& BitVec.ofInt (IntKind.bits .i64) 31).toNat : Nat) = x % 32 := by
  have : (BitVec.ofInt 64 x &&& BitVec.ofInt 64 31).toNat = (x % 32).toNat := by
    rw [BitVec.toNat_and, show (BitVec.ofInt 64 31).toNat = 2 ^ 5 - 1 by decide, Nat.and_two_pow_sub_one_eq_mod, BitVec.toNat_ofInt]
    omega
  show IntKind.wrap .i64 (((BitVec.ofInt 64 x &&& BitVec.ofInt 64 31).toNat : Nat) : Int) = x % 32
  rw [this, wrap_in (by omega) (by omega)]
  omega
theorem rem_bound {a b : Int} (ha : fit32 a) (hb : b ≠ 0) : fit32 (Int.tmod a b) ∧ (-2147483648 ≤ Int.tdiv a b ∧ Int.tdiv a b ≤ 2147483648) := by
  unfold fit32 at *
  have h1 : (Int.tdiv a b).natAbs ≤ a.natAbs := by rw [Int.natAbs_tdiv]; exact Nat.div_le_self _ _
  have h2 : (Int.tmod a b).natAbs ≤ a.natAbs := by rw [Int.natAbs_tmod]; exact Nat.mod_le _ _
  have h3 : 0 ≤ a → 0 ≤ Int.tmod a b := fun h => Int.tmod_nonneg b h
  refine ⟨⟨by omega, ?_⟩, by omega, by omega⟩
  rcases Int.lt_or_le a 0 with h | h
  · have := Int.tmod_nonneg b (a := -a) (by omega)
    rw [Int.neg_tmod] at this
    omega
  · omega
theorem rem_eq {a b : Int} (ha : fit32 a) (hb : fit32 b) (h0 : b ≠ 0) : (IntKind.wrap .i64 (a - (IntKind.wrap .i64 (b * (IntKind.wrap .i64 (Int.tdiv a b)))))) = Int.tmod a b := by
  obtain ⟨h1, h2, h3⟩ := rem_bound ha h0
  have h4 : Int.tmod a b = a - b * Int.tdiv a b := Int.tmod_def a b
  unfold fit32 at h1 ha
  rw [wrap_in (x := Int.tdiv a b) (by omega) (by omega), wrap_in (x := b * Int.tdiv a b) (by omega) (by omega), ← h4, wrap_in (by omega) (by omega)]
theorem up_mod {x : Int} (h : fit32 x) : Int.tmod (ref08_up.t x) 32 = x % 32 := by
  rw [up_t h]
  have h1 : Int.tmod (x % 4294967296) ((32 : Nat) : Int) = (x % 4294967296) % ((32 : Nat) : Int) := Int.tmod_eq_emod_of_nonneg (by omega)
  have h2 : Int.tmod (x % 4294967296) 32 = (x % 4294967296) % 32 := h1
  rw [h2]; omega
theorem shl_law {a b : Int} (ha : fit32 a) : word_Wrap.t (IntKind.wrap .i64 (a * (2 ^ (min (Int.toNat (b % 32)) (IntKind.bits .i64))))) = moveF a (b % 32) false := by
  have hm : min (Int.toNat (b % 32)) (IntKind.bits .i64) = Int.toNat (b % 32) := by
    show min (Int.toNat (b % 32)) 64 = _
    omega
  rw [hm, wrap_t, bm_w64]
  unfold moveF
  rw [shl_rep _ _ ha]
theorem shr_law {a b : Int} (ha : fit32 a) : word_Wrap.t (Int.fdiv a (2 ^ (min (Int.toNat (b % 32)) (IntKind.bits .i64)))) = moveF a (b % 32) true := by
  have hm : min (Int.toNat (b % 32)) (IntKind.bits .i64) = Int.toNat (b % 32) := by
    show min (Int.toNat (b % 32)) 64 = _
    omega
  rw [hm]
  unfold moveF
  rw [shr_rep _ _ ha, Int.fdiv_eq_ediv_of_nonneg _ (by exact Int.le_of_lt (Int.pow_pos (by omega))), wrap_t, bm_id]
  have hp : (1 : Int) ≤ 2 ^ (b % 32).toNat := Int.pow_pos (by omega)
  unfold fit32 at *
  generalize (2 : Int) ^ (b % 32).toNat = q at *
  constructor
  · have := Int.le_ediv_of_mul_le (a := -2147483648) (b := a) (c := q) (by omega) (by
      have : -2147483648 * q ≤ -2147483648 * 1 := Int.mul_le_mul_of_nonpos_left (by omega) hp
      omega)
    exact this
  · exact Int.ediv_le_of_le_mul (by omega) (by
      have : 2147483647 * 1 ≤ 2147483647 * q := Int.mul_le_mul_of_nonneg_left hp (by omega)
      omega)
/-- What a word's do comes to: the program and its reference agree. -/
theorem do_law (x0 x1 x2 : Int) : ∃ v, word_Do.u x0 x1 x2 = some v ∧ ref08_Do.u x0 x1 x2 = some v := by
  unfold word_Do.u word_Do.s ref08_Do.u ref08_Do.s
  rcases Int.lt_or_le x0 1 with h | h
  · simp only [h, decide_true, cond_true]
    exact ⟨_, rfl, rfl⟩
  rcases Int.lt_or_le 12 x0 with h' | h'
  · have hn : ¬ x0 < 1 := by omega
    simp only [hn, h', gt_iff_lt, decide_true, decide_false, cond_true, cond_false]
    exact ⟨_, rfl, rfl⟩
  have hn : ¬ x0 < 1 := by omega
  have hn' : ¬ 12 < x0 := by omega
  rw [fine_eq]
  cases h1 : word_Fine.t x1 with
  | false => simp only [hn, hn', gt_iff_lt, decide_false, cond_false, Bool.not_false, cond_true]; exact ⟨_, rfl, rfl⟩
  | true =>
    cases h2 : word_Fine.t x2 with
    | false => simp only [hn, hn', gt_iff_lt, decide_false, cond_false, Bool.not_false, Bool.not_true, cond_true]; exact ⟨_, rfl, rfl⟩
    | true =>
      have f1 := fit_iff.1 h1
      have f2 := fit_iff.1 h2
      have hz : (x2 == 0) = true ∨ ((x2 == 0) = false ∧ x2 ≠ 0) := by
        cases e : (x2 == 0) with
        | true => exact .inl rfl
        | false => exact .inr ⟨rfl, by simpa using e⟩
      have l95 : ∀ b, word_Wrap.t (word_truth.t b) = ref08_truth.t b := by intro b; cases b <;> decide
      have hcase : x0 = 1 ∨ x0 = 2 ∨ x0 = 3 ∨ x0 = 4 ∨ x0 = 5 ∨ x0 = 6 ∨ x0 = 7 ∨ x0 = 8 ∨ x0 = 9 ∨ x0 = 10 ∨ x0 = 11 ∨ x0 = 12 := by omega
      have up := up_mod f2
      have a31 := and31 x2
      have nn : decide ((0 : Int) ≤ x2 % 32) = true := by simp; omega
      have mv : ∀ b, ref08_moved.u x1 (x2 % 32) b = some (moveF x1 (x2 % 32) b) := fun b => moved_u x1 b (by omega)
      rcases hcase with rfl | rfl | rfl | rfl | rfl | rfl | rfl | rfl | rfl | rfl | rfl | rfl <;>
        simp only [word_reckoned.u, word_reckoned.s, up, a31, nn, mv, bits_u, l95, Int.reduceLT, gt_iff_lt, Int.reduceBEq, decide_true, decide_false, cond_true, cond_false, Bool.not_false, Bool.not_true, Option.bind_some]
      · exact ⟨_, rfl, by rw [wrap_t, refwrap_t (w64_fit _)]⟩
      · exact ⟨_, rfl, by rw [wrap_t, refwrap_t (w64_fit _)]⟩
      · exact ⟨_, rfl, by rw [wrap_t, refwrap_t (w64_fit _)]⟩
      · rcases hz with hz | ⟨hz, _⟩ <;> simp only [hz, cond_true, cond_false, Bool.not_false, Option.bind_some]
        · exact ⟨_, rfl, rfl⟩
        · exact ⟨_, rfl, by rw [wrap_t, refwrap_t (w64_fit _)]⟩
      · rcases hz with hz | ⟨hz, h0⟩ <;> simp only [hz, cond_true, cond_false, Bool.not_false, Option.bind_some]
        · exact ⟨_, rfl, rfl⟩
        · exact ⟨_, rfl, by rw [wrap_t, rem_eq f1 f2 h0, bm_id (rem_bound f1 h0).1]⟩
      · exact ⟨_, rfl, by rw [wrap_t, bm_w64, bitsF_eq f1 f2, and_eq]; rfl⟩
      · exact ⟨_, rfl, by rw [wrap_t, bm_w64, bitsF_eq f1 f2, or_eq]; rfl⟩
      · exact ⟨_, rfl, by rw [wrap_t, bm_w64, bitsF_eq f1 f2, xor_eq]; rfl⟩
      · exact ⟨_, rfl, by rw [shl_law f1]⟩
      · exact ⟨_, rfl, by rw [shr_law f1]⟩
      · exact ⟨_, rfl, rfl⟩
      · exact ⟨_, rfl, rfl⟩
theorem not_bits {x0 : Int} (f : fit32 x0) : word_Wrap.t (IntKind.wrap .i64 ((BitVec.ofInt (IntKind.bits .i64) x0 ^^^ BitVec.ofInt (IntKind.bits .i64) (-1)).toNat : Nat)) = IntKind.wrap .i64 ((-1) - x0) := by
  unfold fit32 at f
  have : (BitVec.ofInt 64 x0 ^^^ BitVec.ofInt 64 (-1)).toNat = (18446744073709551616 - 1 - x0 % 18446744073709551616).toNat := by
    rw [show BitVec.ofInt 64 (-1) = BitVec.allOnes 64 by decide, BitVec.xor_allOnes, BitVec.toNat_not, BitVec.toNat_ofInt]
    omega
  rw [wrap_t, bm_w64]
  show bm (((BitVec.ofInt 64 x0 ^^^ BitVec.ofInt 64 (-1)).toNat : Nat) : Int) = _
  rw [this, wrap_in (by omega) (by omega)]
  unfold bm
  omega
theorem not_u (x0 : Int) : word_Not.u x0 = some (ref08_Not.t x0) := by
  unfold word_Not.u word_Not.s word_Do.u word_Do.s ref08_Not.t
  rw [fine_eq]
  have h2 : word_Fine.t (-1) = true := by decide
  cases h : word_Fine.t x0 with
  | false => rfl
  | true =>
    have f := fit_iff.1 h
    simp only [h2, word_reckoned.u, word_reckoned.s, Int.reduceLT, gt_iff_lt, Int.reduceBEq, decide_false, cond_false, Bool.not_true, cond_true, Option.bind_some]
    rw [not_bits f]
theorem neg_u (x0 : Int) : word_Neg.u x0 = some (ref08_Neg.t x0) := by
  unfold word_Neg.u word_Neg.s word_Do.u word_Do.s ref08_Neg.t
  rw [fine_eq]
  have h2 : word_Fine.t 0 = true := by decide
  cases h : word_Fine.t x0 with
  | false => simp only [h2, Int.reduceLT, gt_iff_lt, decide_false, cond_false, Bool.not_false, Bool.not_true, cond_true, Option.bind_some]
  | true =>
    simp only [h2, word_reckoned.u, word_reckoned.s, Int.reduceLT, gt_iff_lt, Int.reduceBEq, decide_false, cond_false, Bool.not_true, cond_true, Option.bind_some]
    rw [wrap_t, refwrap_t (w64_fit _)]
end Go.Proofs.YtjhkagfolmhacaaGreatDoor.K

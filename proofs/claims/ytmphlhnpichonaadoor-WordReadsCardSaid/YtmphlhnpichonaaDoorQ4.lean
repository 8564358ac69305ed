/- The reference's numerals, read: what the loops come to. -/
import Derived.Test.YtmphlhnpichonaaDoorY4
set_option maxRecDepth 100000
set_option linter.unusedVariables false
set_option linter.unusedSimpArgs false
namespace Go.Proofs.YtmphlhnpichonaaDoor.K
open Go

/-- One digit more. -/
def stp (n c : Int) : Int := 10 * n + IntKind.wrap .u8 (c - 48)
/-- How large it may be after i digits. -/
def lim : Nat → Int
  | 0 => 0
  | i + 1 => 10 * lim i + 255
def fin45 (b : Bool) (n : Int) : Int × Int := bif b then (bif !(t53 (IntKind.wrap .i64 (0 - n))) then (0, 8) else (IntKind.wrap .i64 (0 - n), 0)) else (bif !(t53 n) then (0, 8) else (n, 0))

theorem w8_range (c : Int) : 0 ≤ IntKind.wrap .u8 c ∧ IntKind.wrap .u8 c ≤ 255 := by
  simp [IntKind.wrap, IntKind.bits, IntKind.signed]
  omega
theorem lim_mono : ∀ {i j : Nat}, i ≤ j → 0 ≤ lim i ∧ lim i ≤ lim j := by
  have h0 : ∀ i, 0 ≤ lim i := by
    intro i
    induction i with
    | zero => simp [lim]
    | succ i ih => simp only [lim]; omega
  intro i j h
  refine ⟨h0 i, ?_⟩
  induction j with
  | zero => rw [show i = 0 by omega]; exact Int.le_refl _
  | succ j ih =>
    rcases Nat.lt_or_ge i (j + 1) with h' | h'
    · have := ih (by omega); have := h0 j; simp only [lim]; omega
    · rw [show i = j + 1 by omega]; exact Int.le_refl _

theorem loop45_0 {Ω : Type} (fuel : Nat) (s : ByteArray) (b : Bool) (k : Int × Int → Option Ω) (hs : s.size ≤ 10) (m : Nat) (hm : s.size < m) :
    iter (B45_0 fuel s b k) m (0, 0) = k (fin45 b ((bytesI s).foldl stp 0)) := by
  have := iter_to (B := B45_0 fuel s b k) (fun r i => ld45_0 s b k r i) (fun q => 0 ≤ q.2 ∧ q.2 ≤ (s.size : Nat) ∧ 0 ≤ q.1 ∧ q.1 ≤ lim q.2.toNat) (fun q => ((s.size : Int) - q.2).toNat)
    (fun q => k (fin45 b (((bytesI s).drop q.2.toNat).foldl stp q.1)))
    (by
      rintro ⟨v, i⟩ ⟨h0, h1, h2, h3⟩ hc
      simp only at h0 h1 h2 h3
      have hlt : i < (s.size : Nat) := by
        rcases Int.lt_or_le i (s.size : Nat) with h | h
        · exact h
        · simp only [lc45_0, show ¬ i < ((s.size : Nat) : Int) by omega, decide_false, cond_false] at hc
          revert hc
          cases b <;> simp only [cond_true, cond_false]
          · cases !(t53 v) <;> simp
          · cases !(t53 (IntKind.wrap .i64 (0 - v))) <;> simp
      have hok : idxOK i s.size = true := by simp [idxOK]; omega
      have hd := drop_bytes s h0 hlt
      have hw : IntKind.wrap .i64 (i + 1) = i + 1 := wrap_in (by omega) (by omega)
      have hl := lim_mono (i := i.toNat) (j := 10) (by omega)
      have hl10 : lim 10 = 283333333305 := by decide
      have h8 := w8_range (bAt s i.toNat - 48)
      have hn : ln45_0 s b (v, i) = (stp v (bAt s i.toNat), i + 1) := by
        simp only [ln45_0, hlt, decide_true, cond_true, hok, hw]
        rw [wrap_in (x := IntKind.wrap .u8 (bAt s i.toNat - 48)) (by omega) (by omega), wrap_in (x := 10 * v) (by omega) (by omega), wrap_in (by omega) (by omega)]
        rfl
      rw [hn]
      refine ⟨⟨by simp only; omega, by simp only; omega, by simp only [stp]; omega, ?_⟩, by simp only; omega, ?_⟩
      · simp only
        rw [show (i + 1).toNat = i.toNat + 1 by omega]
        simp only [stp, lim]
        omega
      · simp only
        rw [hd, List.foldl_cons])
    (by
      rintro ⟨v, i⟩ ⟨h0, h1, h2, h3⟩ hc
      simp only at h0 h1 h2 h3
      rcases Int.lt_or_le i (s.size : Nat) with hlt | hge
      · have hok : idxOK i s.size = true := by simp [idxOK]; omega
        simp only [lc45_0, hlt, decide_true, cond_true, hok] at hc
        cases hc
      · simp only [lx45_0, show ¬ i < ((s.size : Nat) : Int) by omega, decide_false, cond_false]
        rw [List.drop_eq_nil_of_le (by rw [bytesI_len]; omega)]
        simp only [List.foldl_nil, fin45]
        cases b <;> simp only [cond_true, cond_false]
        · cases !(t53 v) <;> rfl
        · cases !(t53 (IntKind.wrap .i64 (0 - v))) <;> rfl)
    m (0, 0) ⟨by simp only; omega, by simp only; omega, by simp only; omega, by simp [lim]⟩ (by simp only; omega)
  refine Eq.trans this ?_
  rfl
end Go.Proofs.YtmphlhnpichonaaDoor.K

/- becketlaw08.WordReads, plainly. -/
import Derived.Test.YtmphlhnpichonaaDoorY5
import Derived.Test.YtmphlhnpichonaaDoorP8d
set_option maxRecDepth 100000
set_option linter.unusedVariables false
set_option linter.unusedSimpArgs false
namespace Go.Proofs.YtmphlhnpichonaaDoor.K
open Go

theorem bAt_list (s : ByteArray) (i : Nat) : bAt s i = ((s.data.toList.getD i 0).toNat : Int) := rfl
theorem size_list (s : ByteArray) : s.size = s.data.toList.length := by rw [Array.length_toList]; rfl

theorem sub_none (s : ByteArray) : (subS none (some 1) s).data.toList = s.data.toList.take 1 := by
  show (s.extract 0 1).data.toList = _
  simp

theorem head45 {s : ByteArray} (h : 0 < s.size) : (s.data.toList.take 1 == [45]) = (bAt s 0 == 45) := by
  rw [size_list] at h
  rw [bAt_list]
  cases hl : s.data.toList with
  | nil => rw [hl] at h; simp at h
  | cons b r =>
    simp only [List.take_succ_cons, List.take_zero, List.getD_cons_zero]
    rw [Bool.eq_iff_iff]
    simp only [beq_iff_eq, List.cons.injEq, and_true]
    constructor
    · rintro rfl; rfl
    · intro h
      apply UInt8.toNat_inj.1
      have : b.toNat = 45 := by omega
      rw [this]; rfl

theorem cut_law (s : ByteArray) : p74 s (bs [45]) = true ∧ t74 s (bs [45]) = (rest45 s, neg45 s) := by
  have hs1 : ((bs [45]).size : Int) = 1 := rfl
  have hl1 : (bs [45]).data.toList = [45] := rfl
  cases hz : decide ((s.size : Int) > 0) with
  | false =>
    have hz' : ¬ (s.size : Int) > 0 := by simpa using hz
    have hn : neg45 s = false := by unfold neg45; rw [hz, Bool.false_and]
    have hr : rest45 s = s := by unfold rest45; rw [hn]; rfl
    have hge : decide ((s.size : Int) ≥ 1) = false := by simp; omega
    simp only [p74, t74, p96, t96, p112, t112, hs1, hge, hn, hr, cond_true, cond_false, Bool.not_false, and_self]
  | true =>
    have hz' : (s.size : Int) > 0 := by simpa using hz
    have hge : decide ((s.size : Int) ≥ 1) = true := by simp; omega
    have hc1 : subC none (some 1) s.size = true := by simp [subC]; omega
    have hc2 : subC (some 1) none s.size = true := by simp [subC]; omega
    have hh := head45 (s := s) (by omega)
    have hn : neg45 s = (bAt s 0 == 45) := by unfold neg45; rw [hz, Bool.true_and]
    cases hb : (bAt s 0 == 45) with
    | false =>
      have hn' : neg45 s = false := hn.trans hb
      have hr : rest45 s = s := by unfold rest45; rw [hn']; rfl
      simp only [p74, t74, p96, t96, p112, t112, hs1, hl1, sub_none, hh, hb, hge, hc1, hc2, hn', hr, cond_true, cond_false, Bool.not_false, and_self]
    | true =>
      have hn' : neg45 s = true := hn.trans hb
      have hr : rest45 s = subS (some 1) none s := by unfold rest45; rw [hn']; rfl
      simp only [p74, t74, p96, t96, p112, t112, hs1, hl1, sub_none, hh, hb, hge, hc1, hc2, hn', hr, cond_true, cond_false, Bool.not_true, and_self]

theorem whole_law (r : ByteArray) : t75 r = (t77 r).2 := by
  unfold t75 t77 tail75
  have e0 : (bs []).data.toList = [] := rfl
  have e1 : (bs [48]).data.toList = [48] := rfl
  rw [e0, e1]
  cases hl : r.data.toList with
  | nil =>
    have : bytesI r = [] := by unfold bytesI; rw [hl]; rfl
    rw [this]; rfl
  | cons b l =>
    have hne : ((b :: l) == ([] : List UInt8)) = false := rfl
    rw [hne]
    have hsz : (r.size : Int) = l.length + 1 := by rw [size_list, hl]; simp
    have hb0 : bAt r 0 = (b.toNat : Int) := by rw [bAt_list, hl]; rfl
    simp only [cond_false, Bool.not_false, cond_true, hb0, hsz]
    cases hA : (bytesI r).all dig with
    | false =>
      simp only [cond_false]
      cases ((b.toNat : Int) == 48 && decide ((l.length : Int) + 1 > 1)) <;> rfl
    | true =>
      simp only [cond_true]
      cases h48 : ((b.toNat : Int) == 48) with
      | false =>
        have hb : b ≠ 48 := by
          intro e; subst e; exact absurd h48 (by decide)
        have : ((b :: l) == [48]) = false := by
          simp [hb]
        rw [this]
        simp [h48, bne]
      | true =>
        have hb : b = 48 := by
          apply UInt8.toNat_inj.1
          have : b.toNat = 48 := by have := eq_of_beq h48; omega
          rw [this]; rfl
        subst hb
        cases l with
        | nil => rfl
        | cons c l =>
          have : decide (((c :: l).length : Int) + 1 > 1) = true := by simp; omega
          rw [this]
          simp [bne, h48]
end Go.Proofs.YtmphlhnpichonaaDoor.K

/- becketlaw08.WordReads, plainly: the law. -/
import Derived.Test.YtmphlhnpichonaaDoorP8e
set_option maxRecDepth 100000
set_option linter.unusedVariables false
set_option linter.unusedSimpArgs false
namespace Go.Proofs.YtmphlhnpichonaaDoor.K
open Go

theorem dig_range {c : Int} (h : dig c = true) : 48 ≤ c ∧ c ≤ 57 := by
  unfold dig at h
  cases h1 : decide (c < 48) with
  | true => rw [h1] at h; cases h
  | false =>
    cases h2 : decide (c > 57) with
    | true => rw [h1, h2] at h; cases h
    | false =>
      have e1 : ¬ c < 48 := by simpa using h1
      have e2 : ¬ c > 57 := by simpa using h2
      omega

theorem dec_fold : ∀ (l : List UInt8) (acc : Nat), (l.map fun b => (b.toNat : Int)).all dig = true → ∃ n, Lib.decFrom acc l = some n ∧ (n : Int) = (l.map fun b => (b.toNat : Int)).foldl stp acc
  | [], acc, h => ⟨acc, rfl, rfl⟩
  | b :: l, acc, h => by
    simp only [List.map_cons, List.all_cons, Bool.and_eq_true] at h
    obtain ⟨h1, h2⟩ := h
    have hr := dig_range h1
    have hd : Lib.digitVal b = some (b.toNat - 48) := by
      unfold Lib.digitVal
      rw [if_pos (by omega)]
    obtain ⟨n, e1, e2⟩ := dec_fold l (acc * 10 + (b.toNat - 48)) h2
    refine ⟨n, by rw [Lib.decFrom, hd]; exact e1, ?_⟩
    rw [e2, List.map_cons, List.foldl_cons]
    congr 1
    unfold stp
    rw [w8 (by omega) (by omega)]
    omega

theorem atoi_law {r : ByteArray} (h : (bytesI r).all dig = true) (h0 : r.size ≠ 0) : Lib.atoi r.data.toList = some ((bytesI r).foldl stp 0) := by
  cases hl : r.data.toList with
  | nil => rw [size_list, hl] at h0; exact absurd rfl h0
  | cons b l =>
    have hb : bytesI r = (b :: l).map fun b => (b.toNat : Int) := by unfold bytesI; rw [hl]
    rw [hb] at h ⊢
    obtain ⟨n, e1, e2⟩ := dec_fold (b :: l) 0 h
    have h1 : dig (b.toNat : Int) = true := by
      simp only [List.map_cons, List.all_cons, Bool.and_eq_true] at h
      exact h.1
    have hr := dig_range h1
    have n45 : (b == 45) = false := by
      rw [beq_eq_false_iff_ne]; rintro rfl; simp at hr
    have n43 : (b == 43) = false := by
      rw [beq_eq_false_iff_ne]; rintro rfl; simp at hr
    have hn : Lib.decNat (b :: l) = some n := by
      unfold Lib.decNat
      simpa using e1
    unfold Lib.atoi
    simp only [n45, n43, hn, Bool.false_eq_true, if_false, Option.map_some]
    rw [e2]; rfl

theorem read_law {s : ByteArray} (hs : s.size ≤ 200) : p44 s = true ∧ p45 s = true ∧ t44 s = t45 s := by
  obtain ⟨c1, c2⟩ := cut_law s
  have hr := rest_size s
  have hp75 : p75 (rest45 s) = true := by unfold p75; exact decide_eq_true (by omega)
  have hp45 : p45 s = true := by unfold p45; exact decide_eq_true (by omega)
  have hw := whole_law (rest45 s)
  simp only [p44, t44, t45, c1, c2, hp75, hp45, cond_true, true_and]
  cases ht : (t77 (rest45 s)).2 with
  | false => rw [ht] at hw; simp only [hw, Bool.not_false, cond_true, and_self]
  | true =>
    rw [ht] at hw
    simp only [hw, Bool.not_true, cond_false]
    have hall : (bytesI (rest45 s)).all dig = true := by
      unfold t75 at hw
      cases h : (bytesI (rest45 s)).all dig with
      | true => rfl
      | false => rw [h] at hw; cases hw
    have h0 : (rest45 s).size ≠ 0 := by
      intro e
      have e' : (rest45 s).data.toList = [] := by rw [size_list] at e; exact List.length_eq_zero_iff.1 e
      have : (t77 (rest45 s)).2 = false := by
        unfold t77
        rw [e']
        rfl
      rw [this] at ht; cases ht
    have ha := atoi_law hall h0
    have key : ∀ b : Bool, decide (((rest45 s).size : Int) ≤ 10) = b → decide (((rest45 s).size : Int) > 10) = !b := by
      intro b hb
      cases b with
      | true => have := of_decide_eq_true hb; simp; omega
      | false => have := of_decide_eq_false hb; simp; omega
    have t76e : (t76 (rest45 s)).1 = (bytesI (rest45 s)).foldl stp 0 := by unfold t76; rw [ha]; rfl
    have f1 : t52 (-2147483649) = false := by decide
    have f2 : t52 2147483649 = false := by decide
    cases h10 : decide (((rest45 s).size : Int) ≤ 10) with
    | true =>
      have hle := of_decide_eq_true h10
      have hp76 : p76 (rest45 s) = true := by
        unfold p76
        rw [ha]
        simp
        omega
      have hgt := key true h10
      simp only [hgt, hp76, t76e, fin45, t53_eq, Bool.not_true, cond_true, cond_false]
      cases neg45 s with
      | false =>
        simp only [cond_false, Bool.false_and]
        cases !(t52 ((bytesI (rest45 s)).foldl stp 0)) <;> simp
      | true =>
        simp only [cond_true, Bool.true_and]
        cases ((rest45 s).data.toList == (bs [48]).data.toList) <;> cases !(t52 (IntKind.wrap .i64 (0 - (bytesI (rest45 s)).foldl stp 0))) <;> simp
    | false =>
      have hgt := key false h10
      simp only [hgt, f1, f2, Bool.not_false, cond_true, cond_false]
      cases neg45 s with
      | false => simp
      | true =>
        simp only [cond_true, Bool.true_and]
        cases ((rest45 s).data.toList == (bs [48]).data.toList) <;> simp

theorem law12 (s : ByteArray) : p12 s = true ∧ t12 s = true := by
  unfold p12 t12
  cases h : decide ((s.size : Int) > 200) with
  | true => simp only [cond_true, p43_true, t43_true, and_self]
  | false =>
    have := of_decide_eq_false h
    obtain ⟨a, b, c⟩ := read_law (s := s) (by omega)
    simp only [cond_false, a, b, c, p43_true, t43_true, beq_self_eq_true, cond_true, and_self]
end Go.Proofs.YtmphlhnpichonaaDoor.K

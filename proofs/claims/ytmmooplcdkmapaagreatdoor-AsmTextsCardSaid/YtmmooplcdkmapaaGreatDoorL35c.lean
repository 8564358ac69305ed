/- Labels, plainly: the label of any text. -/
import Derived.Test.YtmmooplcdkmapaaGreatDoorL28b
import Derived.Lib.SplitLaws
import Derived.Lib.IndexBytes
import Derived.KernelRfl
set_option maxRecDepth 100000
set_option linter.unusedVariables false
set_option linter.unusedSimpArgs false
namespace Go.Proofs.YtmmooplcdkmapaaGreatDoor.K
open Go

theorem ixl (c : UInt8) : ∀ l : List UInt8, Lib.index l [c] = if fstI c l < l.length then ((fstI c l : Nat) : Int) else -1
  | [] => rfl
  | b :: r => by
    have ih := ixl c r
    unfold Lib.index
    unfold fstI at ih ⊢
    rw [List.findIdx_cons]
    by_cases hb : b = c
    · subst hb
      have hp : ([b] : List UInt8).isPrefixOf (b :: r) = true := by simp [List.isPrefixOf]
      rw [hp]
      simp
    · have hp : ([c] : List UInt8).isPrefixOf (b :: r) = false := by simp [List.isPrefixOf, Ne.symm hb]
      have he : (b == c) = false := beq_eq_false_iff_ne.2 hb
      rw [hp, he]
      simp only [Bool.false_eq_true, if_false, cond_false, List.length_cons, Nat.add_lt_add_iff_right]
      rw [ih]
      split
      · rw [if_neg (by simp)]; omega
      · simp
theorem fst_none {c : UInt8} {l : List UInt8} (h : l.count c = 0) : ¬ fstI c l < l.length := by
  intro q
  have := fstI_at q
  have hm : c ∈ l := List.mem_of_getElem? this
  rw [List.count_eq_zero] at h
  exact h hm
theorem fst_some {c : UInt8} {l : List UInt8} (h : l.count c ≠ 0) : fstI c l < l.length := by
  unfold fstI
  rw [List.findIdx_lt_length]
  have hm : c ∈ l := by
    rcases Nat.eq_zero_or_pos (l.count c) with q | q
    · exact absurd q h
    · exact List.count_pos_iff.1 q
  exact ⟨c, hm, by simp⟩
theorem split_u {r : ByteArray} (hr : r.size ≤ 1000000) : ∃ P, strings_Split.u r (bs [32]) = some P ∧ P.length = r.data.toList.count 32 + 1 ∧ (r.data.toList.count 32 = 0 → P = [r]) ∧
    (r.data.toList.count 32 = 1 → P = [subS none (some ((fstI 32 r.data.toList : Nat) : Int)) r, subS (some ((fstI 32 r.data.toList + 1 : Nat) : Int)) none r]) := by
  have h1 : 1 ≤ (bs [32]).size := by decide
  have hc : Lib.countB r (bs [32]) = r.data.toList.count 32 := Lib.count_one 32 r.data.toList
  refine ⟨Lib.splitB (bs [32]) 0 (Lib.countB r (bs [32])) r, ?_, ?_, fun h => ?_, fun h => ?_⟩
  · unfold strings_Split.u
    rw [decide_eq_true (show r.size < 4294967281 by omega), decide_eq_true h1]; rfl
  · rw [Lib.splitB_all (bs [32]) h1 0 _ r rfl, hc]
  · rw [hc, h]; rfl
  · have hf := fst_some (c := 32) (l := r.data.toList) (by omega)
    have hi : Lib.indexB r (bs [32]) = ((fstI 32 r.data.toList : Nat) : Int) := by
      show Lib.index r.data.toList [32] = _
      rw [ixl, if_pos hf]
    rw [hc, h, Lib.splitB_hit (bs [32]) 0 0 r _ hi]
    rfl

/-- A number among a label's parts. -/
def numL (k i : Int) (p : List UInt8) : Int × Int := bif (parseW p).2 == 3 then (0, 3) else bif p.take 1 == [45] then (bif (k != 2) || (i == 0) then (0, 3) else parseW p) else parseW p
theorem parseW_err (p : List UInt8) : (parseW p).2 = 0 ∨ (parseW p).2 = 3 ∨ (parseW p).2 = 8 := by
  have key : ∀ neg d, (wordOf neg d).2 = 0 ∨ (wordOf neg d).2 = 3 ∨ (wordOf neg d).2 = 8 := by
    intro neg d
    unfold wordOf
    cases plainF d
    · exact .inr (.inl rfl)
    · cases (neg && (d == [48]))
      · simp only [cond_true, cond_false]
        cases word_Fine.t (if neg = true then -(valN 0 d : Int) else (valN 0 d : Int))
        · exact .inr (.inr rfl)
        · exact .inl rfl
      · exact .inr (.inl rfl)
  unfold parseW
  cases (p.take 1 == [45]) <;> exact key _ _
theorem numL_err (k i : Int) (p : List UInt8) : (numL k i p).2 = 0 ∨ (numL k i p).2 = 3 ∨ (numL k i p).2 = 8 := by
  unfold numL
  cases (parseW p).2 == 3
  · cases (p.take 1 == [45])
    · exact parseW_err p
    · cases ((k != 2) || (i == 0))
      · exact parseW_err p
      · exact .inr (.inl rfl)
  · exact .inr (.inl rfl)
/-- A part's number: behind a 'k' for a bucket. -/
def partL (k i : Int) (p : List UInt8) : Int × Int := bif (k == 4) && (i == 1) then (bif p.take 1 == [107] then numL k i (p.drop 1) else (0, 3)) else numL k i p
theorem partL_err (k i : Int) (p : List UInt8) : (partL k i p).2 = 0 ∨ (partL k i p).2 = 3 ∨ (partL k i p).2 = 8 := by
  unfold partL
  cases ((k == 4) && (i == 1))
  · exact numL_err _ _ _
  · cases (p.take 1 == [107])
    · exact .inr (.inl rfl)
    · exact numL_err _ _ _
theorem num_step {α : Type} (k i : Int) (p : ByteArray) (X : Option α) (Y : Int × Int → Option α) :
    (bif (parseW p.data.toList).2 == 3 then X else bif (p.data.toList.take 1 == [45]) then (bif (k != 2) then X else bif (i == 0) then X else Y (parseW p.data.toList)) else Y (parseW p.data.toList)) =
    bif (numL k i p.data.toList).2 == 3 then X else Y (numL k i p.data.toList) := by
  unfold numL
  cases h : (parseW p.data.toList).2 == 3
  · simp only [cond_false]
    cases (p.data.toList.take 1 == [45])
    · simp only [cond_false, h]
    · cases (k != 2)
      · cases (i == 0)
        · simp only [cond_false, cond_true, Bool.or_self, h]
        · rfl
      · rfl
  · rfl
end Go.Proofs.YtmmooplcdkmapaaGreatDoor.K

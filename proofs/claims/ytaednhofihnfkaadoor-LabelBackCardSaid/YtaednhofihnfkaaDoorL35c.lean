/- Labels, plainly: the label of any text. -/
import Derived.Test.YtaednhofihnfkaaDoorL35b
import Derived.Lib.SplitLaws
import Derived.Lib.IndexBytes
import Derived.KernelRfl
set_option maxRecDepth 100000
set_option linter.unusedVariables false
set_option linter.unusedSimpArgs false
namespace Go.Proofs.YtaednhofihnfkaaDoor.K
open Go

theorem ixl (c : UInt8) : ∀ l : List UInt8, Lib.index l [c] = if fstI c l < l.length then ((fstI c l : Nat) : Int) else -1
  | [] => rfl
  | b :: r => by
    have ih := ixl c r
    unfold Lib.index
    unfold fstI at ih ⊢
    rw [List.findIdx_cons]
    by_cases hb : b = c
    · subst hb
      have hp : ([b] : List UInt8).isPrefixOf (b :: r) = true := by simp [List.isPrefixOf]
      rw [hp]
      simp
    · have hp : ([c] : List UInt8).isPrefixOf (b :: r) = false := by simp [List.isPrefixOf, Ne.symm hb]
      have he : (b == c) = false := beq_eq_false_iff_ne.2 hb
      rw [hp, he]
      simp only [Bool.false_eq_true, if_false, cond_false, List.length_cons, Nat.add_lt_add_iff_right]
      rw [ih]
      split
      · rw [if_neg (by simp)]; omega
      · simp
theorem fst_none {c : UInt8} {l : List UInt8} (h : l.count c = 0) : ¬ fstI c l < l.length := by
  intro q
  have := fstI_at q
  have hm : c ∈ l := List.mem_of_getElem? this
  rw [List.count_eq_zero] at h
  exact h hm
theorem fst_some {c : UInt8} {l : List UInt8} (h : l.count c ≠ 0) : fstI c l < l.length := by
  unfold fstI
  rw [List.findIdx_lt_length]
  have hm : c ∈ l := by
    rcases Nat.eq_zero_or_pos (l.count c) with q | q
    · exact absurd q h
    · exact List.count_pos_iff.1 q
  exact ⟨c, hm, by simp⟩
theorem split_u {r : ByteArray} (hr : r.size ≤ 1000000) : ∃ P, strings_Split.u r (bs [32]) = some P ∧ P.length = r.data.toList.count 32 + 1 ∧ (r.data.toList.count 32 = 0 → P = [r]) ∧
    (r.data.toList.count 32 = 1 → P = [subS none (some ((fstI 32 r.data.toList : Nat) : Int)) r, subS (some ((fstI 32 r.data.toList + 1 : Nat) : Int)) none r]) := by
  have h1 : 1 ≤ (bs [32]).size := by decide
  have hc : Lib.countB r (bs [32]) = r.data.toList.count 32 := Lib.count_one 32 r.data.toList
  refine ⟨Lib.splitB (bs [32]) 0 (Lib.countB r (bs [32])) r, ?_, ?_, fun h => ?_, fun h => ?_⟩
  · unfold strings_Split.u
    rw [decide_eq_true (show r.size < 4294967281 by omega), decide_eq_true h1]; rfl
  · rw [Lib.splitB_all (bs [32]) h1 0 _ r rfl, hc]
  · rw [hc, h]; rfl
  · have hf := fst_some (c := 32) (l := r.data.toList) (by omega)
    have hi : Lib.indexB r (bs [32]) = ((fstI 32 r.data.toList : Nat) : Int) := by
      show Lib.index r.data.toList [32] = _
      rw [ixl, if_pos hf]
    rw [hc, h, Lib.splitB_hit (bs [32]) 0 0 r _ hi]
    rfl

abbrev zLb : Lb := (0, (0, (0, (zEv, ()))))
def kindLb (l : List UInt8) : Int :=
  if l = nameL 1 then 1 else if l = nameL 2 then 2 else if l = nameL 3 then 3 else if l = nameL 4 then 4 else if l = nameL 5 then 5 else if l = nameL 6 then 6 else if l = nameL 8 then 8 else 0
def kfind (l : List UInt8) : Nat → Nat → Int
  | 0, _ => 0
  | d + 1, i => bif !((List.getD label_names.t i (bs [])).data.toList == ([] : List UInt8)) then (bif (List.getD label_names.t i (bs [])).data.toList == l then (i : Int) else kfind l d (i + 1)) else kfind l d (i + 1)
theorem kind_go (x : ByteArray) : ∀ (d i : Nat), i + d = 9 → label_kindOf.g0 x label_names.t some d (i : Int) = some (kfind x.data.toList d i)
  | 0, i, h => rfl
  | d + 1, i, h => by
    simp only [label_kindOf.g0, kfind, idxOK_nat (show i < 9 by omega), cond_true, Int.toNat_natCast, bs_list]
    rw [show ((i : Int) + 1) = ((i + 1 : Nat) : Int) by omega, kind_go x d (i + 1) (by omega)]
    cases (List.getD label_names.t i (bs [])).data.toList == ([] : List UInt8) <;> cases (List.getD label_names.t i (bs [])).data.toList == x.data.toList <;> rfl
theorem kfind_eq (l : List UInt8) : kfind l 9 0 = kindLb l := by
  have d : ∀ a b : List UInt8, (a == b) = decide (b = a) := fun a b => by rw [Bool.eq_iff_iff]; simp; exact eq_comm
  have n0 : (List.getD label_names.t 0 (bs [])).data.toList = [] := by kernel_rfl
  have n1 : (List.getD label_names.t 1 (bs [])).data.toList = nameL 1 := by kernel_rfl
  have n2 : (List.getD label_names.t 2 (bs [])).data.toList = nameL 2 := by kernel_rfl
  have n3 : (List.getD label_names.t 3 (bs [])).data.toList = nameL 3 := by kernel_rfl
  have n4 : (List.getD label_names.t 4 (bs [])).data.toList = nameL 4 := by kernel_rfl
  have n5 : (List.getD label_names.t 5 (bs [])).data.toList = nameL 5 := by kernel_rfl
  have n6 : (List.getD label_names.t 6 (bs [])).data.toList = nameL 6 := by kernel_rfl
  have n7 : (List.getD label_names.t 7 (bs [])).data.toList = [] := by kernel_rfl
  have n8 : (List.getD label_names.t 8 (bs [])).data.toList = nameL 8 := by kernel_rfl
  have e0 : (([] : List UInt8) == []) = true := rfl
  have e1 : (nameL 1 == ([] : List UInt8)) = false := by decide
  have e2 : (nameL 2 == ([] : List UInt8)) = false := by decide
  have e3 : (nameL 3 == ([] : List UInt8)) = false := by decide
  have e4 : (nameL 4 == ([] : List UInt8)) = false := by decide
  have e5 : (nameL 5 == ([] : List UInt8)) = false := by decide
  have e6 : (nameL 6 == ([] : List UInt8)) = false := by decide
  have e8 : (nameL 8 == ([] : List UInt8)) = false := by decide
  unfold kindLb
  simp only [kfind, Nat.zero_add, Nat.reduceAdd, n0, n1, n2, n3, n4, n5, n6, n7, n8, e0, e1, e2, e3, e4, e5, e6, e8, Bool.not_true, Bool.not_false, cond_true, cond_false]
  simp only [d]
  by_cases h1 : l = nameL 1
  · subst h1; rfl
  by_cases h2 : l = nameL 2
  · subst h2; rfl
  by_cases h3 : l = nameL 3
  · subst h3; rfl
  by_cases h4 : l = nameL 4
  · subst h4; rfl
  by_cases h5 : l = nameL 5
  · subst h5; rfl
  by_cases h6 : l = nameL 6
  · subst h6; rfl
  by_cases h8 : l = nameL 8
  · subst h8; rfl
  simp only [h1, h2, h3, h4, h5, h6, h8, decide_false, cond_false, if_false]
theorem kindOf_u (x : ByteArray) : label_kindOf.u x = some (kindLb x.data.toList) := by
  unfold label_kindOf.u label_kindOf.w
  rw [show Int.toNat ((9 : Int) - 0) = 9 from rfl]
  have := kind_go x 9 0 rfl
  rw [show ((0 : Nat) : Int) = 0 from rfl] at this
  rw [this, kfind_eq]

/-- A number among a label's parts. -/
def numL (k i : Int) (p : List UInt8) : Int × Int := bif (parseW p).2 == 3 then (0, 3) else bif p.take 1 == [45] then (bif (k != 2) || (i == 0) then (0, 3) else parseW p) else parseW p
theorem parseW_err (p : List UInt8) : (parseW p).2 = 0 ∨ (parseW p).2 = 3 ∨ (parseW p).2 = 8 := by
  have key : ∀ neg d, (wordOf neg d).2 = 0 ∨ (wordOf neg d).2 = 3 ∨ (wordOf neg d).2 = 8 := by
    intro neg d
    unfold wordOf
    cases plainF d
    · exact .inr (.inl rfl)
    · cases (neg && (d == [48]))
      · simp only [cond_true, cond_false]
        cases word_Fine.t (if neg = true then -(valN 0 d : Int) else (valN 0 d : Int))
        · exact .inr (.inr rfl)
        · exact .inl rfl
      · exact .inr (.inl rfl)
  unfold parseW
  cases (p.take 1 == [45]) <;> exact key _ _
theorem numL_err (k i : Int) (p : List UInt8) : (numL k i p).2 = 0 ∨ (numL k i p).2 = 3 ∨ (numL k i p).2 = 8 := by
  unfold numL
  cases (parseW p).2 == 3
  · cases (p.take 1 == [45])
    · exact parseW_err p
    · cases ((k != 2) || (i == 0))
      · exact parseW_err p
      · exact .inr (.inl rfl)
  · exact .inr (.inl rfl)
/-- A part's number: behind a 'k' for a bucket. -/
def partL (k i : Int) (p : List UInt8) : Int × Int := bif (k == 4) && (i == 1) then (bif p.take 1 == [107] then numL k i (p.drop 1) else (0, 3)) else numL k i p
theorem partL_err (k i : Int) (p : List UInt8) : (partL k i p).2 = 0 ∨ (partL k i p).2 = 3 ∨ (partL k i p).2 = 8 := by
  unfold partL
  cases ((k == 4) && (i == 1))
  · exact numL_err _ _ _
  · cases (p.take 1 == [107])
    · exact .inr (.inl rfl)
    · exact numL_err _ _ _
theorem hasp_u (s : ByteArray) (c : UInt8) : strings_HasPrefix.u s (bs [c]) = some (s.data.toList.take 1 == [c]) := by
  unfold strings_HasPrefix.u strings_HasPrefix.s
  rw [prefix_u]; rfl
theorem num_step {α : Type} (k i : Int) (p : ByteArray) (X : Option α) (Y : Int × Int → Option α) :
    (bif (parseW p.data.toList).2 == 3 then X else bif (p.data.toList.take 1 == [45]) then (bif (k != 2) then X else bif (i == 0) then X else Y (parseW p.data.toList)) else Y (parseW p.data.toList)) =
    bif (numL k i p.data.toList).2 == 3 then X else Y (numL k i p.data.toList) := by
  unfold numL
  cases h : (parseW p.data.toList).2 == 3
  · simp only [cond_false]
    cases (p.data.toList.take 1 == [45])
    · simp only [cond_false, h]
    · cases (k != 2)
      · cases (i == 0)
        · simp only [cond_false, cond_true, Bool.or_self, h]
        · rfl
      · rfl
  · rfl
theorem nums_cons (e4 : List ByteArray) (k : Int) {p : ByteArray} (hp : p.size ≤ 1000000) (xs : List ByteArray) (w i : Int) (a : List Int) (ha : a.length ≤ 100) :
    label_numbers.g0 k e4 some (p :: xs) w i a = bif (partL k i p.data.toList).2 == 3 then some ([], 3) else label_numbers.g0 k e4 some xs (if ((partL k i p.data.toList).2 : Int) > w then (partL k i p.data.toList).2 else w) (i + 1) (a ++ [(partL k i p.data.toList).1]) := by
  have hd : ∀ z : Int, decide (a.length + List.length [z] ≤ rowMax) = true := fun z => decide_eq_true (by simp [rowMax]; omega)
  have z1 : (subS (some 1) none p).size ≤ 1000000 := Nat.le_trans (sub_size_from p 1) hp
  rw [label_numbers.g0.eq_def]
  simp only [wparse_u hp, hasp_u, cutp_u, Option.bind_some, hd, cond_true]
  unfold partL
  cases h4 : (k == 4) with
  | false =>
    simp only [cond_false, Bool.false_and]
    exact num_step k i p (some ([], 3)) (fun y => label_numbers.g0 k e4 some xs (if (y.2 : Int) > w then y.2 else w) (i + 1) (a ++ [y.1]))
  | true =>
    cases h1 : (i == 1) with
    | false =>
      simp only [cond_false, cond_true, Bool.and_false]
      exact num_step k i p (some ([], 3)) (fun y => label_numbers.g0 k e4 some xs (if (y.2 : Int) > w then y.2 else w) (i + 1) (a ++ [y.1]))
    | true =>
      simp only [cond_true, Bool.and_true]
      cases hc : (p.data.toList.take 1 == [107]) with
      | false => rfl
      | true =>
        simp only [cond_true, Bool.not_true, cond_false, wparse_u z1, hasp_u, Option.bind_some]
        rw [← sub1_list]
        exact num_step k i (subS (some 1) none p) (some ([], 3)) (fun y => label_numbers.g0 k e4 some xs (if (y.2 : Int) > w then y.2 else w) (i + 1) (a ++ [y.1]))
/-- The numbers of one part. -/
theorem nums_one (k : Int) {p : ByteArray} (hp : p.size ≤ 1000000) : label_numbers.u [p] k = some (bif (partL k 0 p.data.toList).2 == 3 then ([], 3) else ([(partL k 0 p.data.toList).1], (partL k 0 p.data.toList).2)) := by
  unfold label_numbers.u label_numbers.w
  rw [dec_len (show [p].length ≤ 100 by simp) (by decide), cond_true, nums_cons [p] k hp [] 0 0 [] (by simp)]
  have he := partL_err k 0 p.data.toList
  generalize partL k 0 p.data.toList = y at he ⊢
  cases h : (y.2 == 3)
  · simp only [cond_false, label_numbers.g0, List.nil_append]
    congr 2
    rcases he with q | q | q <;> rw [q] <;> rfl
  · rfl
/-- .. of two. -/
theorem nums_two (k : Int) {p q : ByteArray} (hp : p.size ≤ 1000000) (hq : q.size ≤ 1000000) : label_numbers.u [p, q] k = some (bif (partL k 0 p.data.toList).2 == 3 then ([], 3) else bif (partL k 1 q.data.toList).2 == 3 then ([], 3) else
    ([(partL k 0 p.data.toList).1, (partL k 1 q.data.toList).1], bif ((partL k 0 p.data.toList).2 == 0) && ((partL k 1 q.data.toList).2 == 0) then 0 else 8)) := by
  unfold label_numbers.u label_numbers.w
  rw [dec_len (show [p, q].length ≤ 100 by simp) (by decide), cond_true, nums_cons [p, q] k hp [q] 0 0 [] (by simp), nums_cons [p, q] k hq [] _ (0 + 1) _ (by simp)]
  have he := partL_err k 0 p.data.toList
  have hf := partL_err k (0 + 1) q.data.toList
  rw [show ((0 : Int) + 1) = 1 from rfl] at hf ⊢
  generalize partL k 0 p.data.toList = y at he ⊢
  generalize partL k 1 q.data.toList = x at hf ⊢
  cases h : (y.2 == 3)
  · simp only [cond_false]
    cases h' : (x.2 == 3)
    · simp only [cond_false, label_numbers.g0, List.nil_append, List.cons_append]
      congr 2
      rcases he with a | a | a <;> rcases hf with b | b | b <;> rw [a, b] <;> first | rfl | (rw [a] at h; exact absurd h (by decide)) | (rw [b] at h'; exact absurd h' (by decide))
    · rfl
  · rfl
end Go.Proofs.YtaednhofihnfkaaDoor.K

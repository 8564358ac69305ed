/- Labels, plainly: what a text is read as, as one function; a label comes back from its text. -/
import Derived.Test.YtaednhofihnfkaaDoorL35c
import Derived.KernelRfl
set_option maxRecDepth 100000
set_option linter.unusedVariables false
set_option linter.unusedSimpArgs false
namespace Go.Proofs.YtaednhofihnfkaaDoor.K
open Go

def finL (x : Lb) : Lb × Int := bif chkL x != 0 then (zLb, chkL x) else (x, 0)
def oneF (k : Int) (r : List UInt8) : Lb × Int :=
  bif (partL k 0 r).2 == 3 then (zLb, 3) else bif (partL k 0 r).2 != 0 then (zLb, (partL k 0 r).2) else
    bif k == 8 then finL (8, (0, ((partL k 0 r).1, (zEv, ())))) else finL (k, ((partL k 0 r).1, (0, (zEv, ()))))
def twoF (k : Int) (a b : List UInt8) : Lb × Int :=
  bif (partL k 0 a).2 == 3 then (zLb, 3) else bif (partL k 1 b).2 == 3 then (zLb, 3) else
    bif ((partL k 0 a).2 == 0) && ((partL k 1 b).2 == 0) then finL (k, ((partL k 0 a).1, ((partL k 1 b).1, (zEv, ())))) else (zLb, 8)
def restF (k : Int) (r : List UInt8) : Lb × Int :=
  bif (k == 2) || (k == 4) || (k == 6) then (if r.count 32 = 1 then twoF k (r.take (fstI 32 r)) (r.drop (fstI 32 r + 1)) else (zLb, 3))
  else (if r.count 32 = 0 then oneF k r else (zLb, 3))
/-- The label of a text. -/
def parseLb (l : List UInt8) : Lb × Int :=
  bif kindLb (l.take (fstI 32 l)) == 0 then (bif (parseE l).2 != 0 then (zLb, (parseE l).2) else ((7, (0, (0, ((parseE l).1, ())))), 0)) else
  if fstI 32 l < l.length then restF (kindLb (l.take (fstI 32 l))) (l.drop (fstI 32 l + 1)) else (zLb, 3)

theorem kindLb_vals (l : List UInt8) : kindLb l = 0 ∨ kindLb l = 1 ∨ kindLb l = 2 ∨ kindLb l = 3 ∨ kindLb l = 4 ∨ kindLb l = 5 ∨ kindLb l = 6 ∨ kindLb l = 8 := by
  unfold kindLb
  repeat' split
  all_goals simp
theorem fin_step (x : Lb) : (bif (chkL x != 0) then some (zLb, chkL x) else some (x, 0)) = some (finL x) := by
  unfold finL; cases (chkL x != 0) <;> rfl
theorem lb_len {P : List ByteArray} {n : Nat} {c : Nat} (h : P.length = c + 1) (hc : ¬ c + 1 = n) : (((List.length P : Nat) : Int) != (n : Int)) = true := by
  rw [bne_iff_ne]; omega
theorem lparse_u {s : ByteArray} (hs : s.size ≤ 1000000) : label_Parse.u s = some (parseLb s.data.toList) := by
  unfold label_Parse.u label_Parse.s parseLb
  rw [cutb_u hs]
  simp only [Option.bind_some, kindOf_u]
  have hz := size_list s
  have hname : (cutF s 32).1.data.toList = s.data.toList.take (fstI 32 s.data.toList) := by
    unfold cutF
    by_cases h : fstI 32 s.data.toList < s.size
    · rw [if_pos h, sub_to_list]
    · rw [if_neg h, List.take_of_length_le (by omega)]
  rw [hname]
  have hv := kindLb_vals (s.data.toList.take (fstI 32 s.data.toList))
  generalize kindLb (s.data.toList.take (fstI 32 s.data.toList)) = k at hv ⊢
  cases h0 : (k == 0) with
  | true =>
    simp only [cond_true]
    rw [parse_u hs, Option.bind_some]
    cases ((parseE s.data.toList).2 != 0) <;> rfl
  | false =>
    have h0 : k ≠ 0 := by simpa using h0
    simp only [cond_false]
    by_cases h : fstI 32 s.data.toList < s.size
    · have hcf : cutF s 32 = (subS none (some ((fstI 32 s.data.toList : Nat) : Int)) s, subS (some (((fstI 32 s.data.toList + 1 : Nat)) : Int)) none s, true) := by unfold cutF; rw [if_pos h]
      rw [hcf, if_pos (by omega)]
      have z2 := sub_size_from s (fstI 32 s.data.toList + 1)
      rw [← sub_from_list]
      simp only
      generalize subS (some ((fstI 32 s.data.toList + 1 : Nat) : Int)) none s = r at z2 ⊢
      have hrz : r.size ≤ 1000000 := Nat.le_trans z2 hs
      obtain ⟨P, hP, hl, hP0, hP1⟩ := split_u hrz
      have hone : ∀ k : Int, r.data.toList.count 32 = 0 → ((label_numbers.u P k).bind fun y10 =>
          bif (y10.2 != 0) then some ((zLb : Lb), y10.2)
          else
            bif (k == 8) then
              bif (idxOK 0 (List.length y10.1)) then
                bif ((label_Check.t ((k, (0, ((List.getD y10.1 0 0), (zEv, ())))))) != 0) then some (zLb, (label_Check.t ((k, (0, ((List.getD y10.1 0 0), (zEv, ()))))))) else some ((k, (0, ((List.getD y10.1 0 0), (zEv, ())))), 0)
              else none
            else
              bif (idxOK 0 (List.length y10.1)) then
                bif ((label_Check.t ((k, ((List.getD y10.1 0 0), (0, (zEv, ())))))) != 0) then some (zLb, (label_Check.t ((k, ((List.getD y10.1 0 0), (0, (zEv, ()))))))) else some ((k, ((List.getD y10.1 0 0), (0, (zEv, ())))), 0)
              else none) = some (oneF k r.data.toList) := by
        intro k h0
        rw [hP0 h0, nums_one k hrz, Option.bind_some]
        unfold oneF
        cases h3 : ((partL k 0 r.data.toList).2 == 3) with
        | true => rfl
        | false =>
          simp only [cond_false]
          cases hne : ((partL k 0 r.data.toList).2 != 0) with
          | true => rfl
          | false =>
            simp only [cond_false, lcheck_t, show idxOK 0 (List.length [(partL k 0 r.data.toList).1]) = true from rfl, cond_true, show List.getD [(partL k 0 r.data.toList).1] 0 0 = (partL k 0 r.data.toList).1 from rfl, fin_step]
            cases h8 : (k == 8) with
            | true => rw [show k = 8 by simpa using h8]; rfl
            | false => rfl
      have htwo : ∀ k : Int, r.data.toList.count 32 = 1 → (k == 8) = false → ((label_numbers.u P k).bind fun y5 =>
          bif (y5.2 != 0) then some ((zLb : Lb), y5.2)
          else
            bif (k == 8) then
              bif (idxOK 0 (List.length y5.1)) then
                bif ((label_Check.t ((k, (0, ((List.getD y5.1 0 0), (zEv, ())))))) != 0) then some (zLb, (label_Check.t ((k, (0, ((List.getD y5.1 0 0), (zEv, ()))))))) else some ((k, (0, ((List.getD y5.1 0 0), (zEv, ())))), 0)
              else none
            else
              bif (idxOK 0 (List.length y5.1)) then
                bif (idxOK 1 (List.length y5.1)) then
                  bif ((label_Check.t ((k, ((List.getD y5.1 0 0), ((List.getD y5.1 1 0), (zEv, ())))))) != 0) then some (zLb, (label_Check.t ((k, ((List.getD y5.1 0 0), ((List.getD y5.1 1 0), (zEv, ()))))))) else some ((k, ((List.getD y5.1 0 0), ((List.getD y5.1 1 0), (zEv, ())))), 0)
                else none
              else none) = some (twoF k (r.data.toList.take (fstI 32 r.data.toList)) (r.data.toList.drop (fstI 32 r.data.toList + 1))) := by
        intro k h1 h8
        have hfl := fst_some (c := 32) (l := r.data.toList) (by omega)
        have hzr := size_list r
        have z3 := sub_size_to r (i := fstI 32 r.data.toList) (by omega)
        have z4 := sub_size_from r (fstI 32 r.data.toList + 1)
        rw [hP1 h1, nums_two k (Nat.le_trans z3 hrz) (Nat.le_trans z4 hrz), Option.bind_some, sub_to_list, sub_from_list]
        unfold twoF
        generalize partL k 0 (r.data.toList.take (fstI 32 r.data.toList)) = y
        generalize partL k 1 (r.data.toList.drop (fstI 32 r.data.toList + 1)) = x
        cases (y.2 == 3) with
        | true => rfl
        | false =>
          cases (x.2 == 3) with
          | true => rfl
          | false =>
            simp only [cond_false, h8]
            cases ((y.2 == 0) && (x.2 == 0)) with
            | false => rfl
            | true =>
              simp only [cond_true, bne_self_eq_false, cond_false, lcheck_t, show idxOK 0 (List.length [y.1, x.1]) = true from rfl, show idxOK 1 (List.length [y.1, x.1]) = true from rfl, show List.getD [y.1, x.1] 0 0 = y.1 from rfl, show List.getD [y.1, x.1] 1 0 = x.1 from rfl, fin_step]
      have h2 : ∀ k : Int, (k == 8) = false → (strings_Split.u r (bs [32])).bind (fun y4 => bif (((List.length y4 : Nat) : Int) != 2) then some ((zLb : Lb), (3 : Int)) else (label_numbers.u y4 k).bind fun y5 =>
          bif (y5.2 != 0) then some ((zLb : Lb), y5.2)
          else
            bif (k == 8) then
              bif (idxOK 0 (List.length y5.1)) then
                bif ((label_Check.t ((k, (0, ((List.getD y5.1 0 0), (zEv, ())))))) != 0) then some (zLb, (label_Check.t ((k, (0, ((List.getD y5.1 0 0), (zEv, ()))))))) else some ((k, (0, ((List.getD y5.1 0 0), (zEv, ())))), 0)
              else none
            else
              bif (idxOK 0 (List.length y5.1)) then
                bif (idxOK 1 (List.length y5.1)) then
                  bif ((label_Check.t ((k, ((List.getD y5.1 0 0), ((List.getD y5.1 1 0), (zEv, ())))))) != 0) then some (zLb, (label_Check.t ((k, ((List.getD y5.1 0 0), ((List.getD y5.1 1 0), (zEv, ()))))))) else some ((k, ((List.getD y5.1 0 0), ((List.getD y5.1 1 0), (zEv, ())))), 0)
                else none
              else none) = some (if r.data.toList.count 32 = 1 then twoF k (r.data.toList.take (fstI 32 r.data.toList)) (r.data.toList.drop (fstI 32 r.data.toList + 1)) else (zLb, 3)) := by
        intro k h8
        rw [hP, Option.bind_some]
        by_cases hc : r.data.toList.count 32 = 1
        · rw [if_pos hc, show (((List.length P : Nat) : Int) != 2) = false by rw [bne_eq_false_iff_eq]; omega, cond_false]
          exact htwo k hc h8
        · rw [if_neg hc, show (((List.length P : Nat) : Int) != 2) = true by rw [bne_iff_ne]; omega]
          rfl
      have h1 : ∀ k : Int, (strings_Split.u r (bs [32])).bind (fun y9 => bif (((List.length y9 : Nat) : Int) != 1) then some ((zLb : Lb), (3 : Int)) else (label_numbers.u y9 k).bind fun y10 =>
          bif (y10.2 != 0) then some ((zLb : Lb), y10.2)
          else
            bif (k == 8) then
              bif (idxOK 0 (List.length y10.1)) then
                bif ((label_Check.t ((k, (0, ((List.getD y10.1 0 0), (zEv, ())))))) != 0) then some (zLb, (label_Check.t ((k, (0, ((List.getD y10.1 0 0), (zEv, ()))))))) else some ((k, (0, ((List.getD y10.1 0 0), (zEv, ())))), 0)
              else none
            else
              bif (idxOK 0 (List.length y10.1)) then
                bif ((label_Check.t ((k, ((List.getD y10.1 0 0), (0, (zEv, ())))))) != 0) then some (zLb, (label_Check.t ((k, ((List.getD y10.1 0 0), (0, (zEv, ()))))))) else some ((k, ((List.getD y10.1 0 0), (0, (zEv, ())))), 0)
              else none) = some (if r.data.toList.count 32 = 0 then oneF k r.data.toList else (zLb, 3)) := by
        intro k
        rw [hP, Option.bind_some]
        by_cases hc : r.data.toList.count 32 = 0
        · rw [if_pos hc, show (((List.length P : Nat) : Int) != 1) = false by rw [bne_eq_false_iff_eq]; omega, cond_false]
          exact hone k hc
        · rw [if_neg hc, show (((List.length P : Nat) : Int) != 1) = true by rw [bne_iff_ne]; omega]
          rfl
      simp only [Bool.not_true, cond_false]
      rcases hv with rfl | rfl | rfl | rfl | rfl | rfl | rfl | rfl
      · exact absurd rfl h0
      · exact h1 1
      · exact h2 2 rfl
      · exact h1 3
      · exact h2 4 rfl
      · exact h1 5
      · exact h2 6 rfl
      · exact h1 8
    · have hcf : cutF s 32 = (s, bs [], false) := by unfold cutF; rw [if_neg h]
      rw [hcf, if_neg (by omega)]
      simp only
      obtain ⟨P, hP, _⟩ := split_u (r := bs []) (by decide)
      rw [hP]
      simp only [Option.bind_some, Bool.not_false, cond_true]
      cases label_valued.t k <;> cases (k != 8) <;> rfl
end Go.Proofs.YtaednhofihnfkaaDoor.K

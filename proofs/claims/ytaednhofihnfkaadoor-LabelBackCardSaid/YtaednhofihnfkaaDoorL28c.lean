/- Events, plainly: the event of any text. -/
import Derived.Test.YtaednhofihnfkaaDoorL28b
import Derived.KernelRfl
set_option maxRecDepth 100000
set_option linter.unusedVariables false
set_option linter.unusedSimpArgs false
namespace Go.Proofs.YtaednhofihnfkaaDoor.K
open Go

theorem ix_u (s : ByteArray) (c : UInt8) : internal_stringslite_Index.u s (bs [c]) = some (Lib.indexByte s.data.toList c) := by
  unfold internal_stringslite_Index.u internal_stringslite_Index.s
  have z : ((bs [c]).size : Int) = 1 := rfl
  simp only [z, show ((1 : Int) == 0) = false from rfl, cond_false, bs_list, show ((1 : Int) == 1) = true from rfl, cond_true]
  by_cases h : [c] = s.data.toList
  · rw [← h, beq_self_eq_true, cond_true, ixb]
    simp [fstI]
  · rw [beq_eq_false_iff_ne.2 h, cond_false]
    have i0 : idxOK 0 (bs [c]).size = true := rfl
    rw [i0, cond_true]
    unfold internal_stringslite_IndexByte.t
    have : (bAt (bs [c]) 0).toNat.toUInt8 = c := by
      unfold bAt
      show ((c.toNat : Int)).toNat.toUInt8 = c
      simp
    rw [this]
theorem cutb_u {s : ByteArray} (hs : s.size ≤ 1000000) (c : UInt8) : strings_Cut.u s (bs [c]) = some (cutF s c) := by
  unfold strings_Cut.u strings_Cut.s internal_stringslite_Cut.u internal_stringslite_Cut.s cutF
  rw [ix_u, ixb, ← size_list]
  have z : ((bs [c]).size : Int) = 1 := rfl
  by_cases h : fstI c s.data.toList < s.size
  · rw [if_pos h, if_pos h]
    have e1 : IntKind.wrap .i64 (((fstI c s.data.toList : Nat) : Int) + 1) = ((fstI c s.data.toList + 1 : Nat) : Int) := by rw [wrapN ⟨by omega, by omega⟩]; omega
    have c1 : subC none (some ((fstI c s.data.toList : Nat) : Int)) s.size = true := by simp [subC]; omega
    have c2 : subC (some ((fstI c s.data.toList + 1 : Nat) : Int)) none s.size = true := by simp [subC]; omega
    simp only [Option.bind_some, z, e1, c1, c2, cond_true, decide_eq_true (show ((fstI c s.data.toList : Nat) : Int) ≥ 0 by omega)]
  · rw [if_neg h, if_neg h]
    rfl

abbrev zEv : Evn := (0, (0, (0, (0, ()))))
/-- The kind of a word, 0: none. -/
def kindE (l : List UInt8) : Int :=
  if l = [102, 105, 114, 101] then 1 else if l = [112, 97, 115, 115] then 2 else if l = [112, 117, 116] then 3 else if l = [116, 97, 107, 101] then 4 else
  if l = [98, 97, 110, 101] then 5 else if l = [100, 117, 101] then 6 else if l = [103, 111, 110, 101] then 7 else if l = [102, 114, 101, 101] then 8 else 0
theorem kindE_vals (l : List UInt8) : kindE l = 0 ∨ kindE l = 1 ∨ kindE l = 2 ∨ kindE l = 3 ∨ kindE l = 4 ∨ kindE l = 5 ∨ kindE l = 6 ∨ kindE l = 7 ∨ kindE l = 8 := by
  unfold kindE
  repeat' split
  all_goals simp
theorem names_split : strings_Split.u (bs [102, 105, 114, 101, 32, 112, 97, 115, 115, 32, 112, 117, 116, 32, 116, 97, 107, 101, 32, 98, 97, 110, 101, 32, 100, 117, 101, 32, 103, 111, 110, 101, 32, 102, 114, 101, 101]) (bs [32]) = some ref28_Names.t := by kernel_rfl
theorem index_names (x : ByteArray) : slices_Index_string_string.u ref28_Names.t x = some (kindE x.data.toList - 1) := by
  unfold slices_Index_string_string.u slices_Index_string_string.w
  rw [show decide (((List.length ref28_Names.t : Nat) : Int) ≤ 4611686018427387904) = true from rfl, cond_true]
  generalize hZ : ref28_Names.t = Z
  rw [show slices_Index_string_string.g0 Z x some Z = slices_Index_string_string.g0 Z x some ref28_Names.t by rw [hZ]]
  unfold ref28_Names.t kindE
  simp only [slices_Index_string_string.g0, bs_list]
  generalize x.data.toList = l
  have d : ∀ a b : List UInt8, (a == b) = decide (a = b) := fun a b => by rw [Bool.eq_iff_iff]; simp
  simp only [d]
  by_cases h1 : l = [102, 105, 114, 101]
  · subst h1; rfl
  by_cases h2 : l = [112, 97, 115, 115]
  · subst h2; rfl
  by_cases h3 : l = [112, 117, 116]
  · subst h3; rfl
  by_cases h4 : l = [116, 97, 107, 101]
  · subst h4; rfl
  by_cases h5 : l = [98, 97, 110, 101]
  · subst h5; rfl
  by_cases h6 : l = [100, 117, 101]
  · subst h6; rfl
  by_cases h7 : l = [103, 111, 110, 101]
  · subst h7; rfl
  by_cases h8 : l = [102, 114, 101, 101]
  · subst h8; rfl
  simp only [h1, h2, h3, h4, h5, h6, h7, h8, decide_false, cond_false, if_false]
  rfl

def finE (x : Evn) : Evn × Int := bif chkE x != 0 then (zEv, chkE x) else (x, 0)
def markE (k : Int) : List UInt8 := bif k == 1 then [98] else [99]
def objF (k : Int) (r : List UInt8) : Evn × Int :=
  bif r.take 1 == markE k then bif plainF (r.drop 1) then finE (k, (held (valN 0 (r.drop 1)), (0, (0, ())))) else (zEv, 3) else (zEv, 3)
def pairF (k : Int) (r : List UInt8) : Evn × Int :=
  if fstI 46 r < r.length then
    bif plainF (r.take (fstI 46 r)) then bif plainF (r.drop (fstI 46 r + 1)) then finE (k, (0, (held (valN 0 (r.take (fstI 46 r))), (held (valN 0 (r.drop (fstI 46 r + 1))), ())))) else (zEv, 3) else (zEv, 3)
  else (zEv, 3)
/-- The event of a text. -/
def parseE (l : List UInt8) : Evn × Int :=
  bif kindE (l.take (fstI 32 l)) == 0 then (zEv, 12) else
  if fstI 32 l < l.length then (bif decide (kindE (l.take (fstI 32 l)) ≤ 4) then objF (kindE (l.take (fstI 32 l))) (l.drop (fstI 32 l + 1)) else pairF (kindE (l.take (fstI 32 l))) (l.drop (fstI 32 l + 1))) else (zEv, 3)

theorem chk_obj {k v : Int} (hk : 1 ≤ k ∧ k ≤ 4) (hv : 0 ≤ v) : chkE (k, (v, (0, (0, ())))) = if v > 7 then 8 else 0 := by
  unfold chkE ref28_Check.t
  simp only [bne_dec, show ¬ k < 1 by omega, show ¬ k > 8 by omega, hk.2, show ¬ v < 0 by omega, decide_true, decide_false, cond_true, cond_false]
  by_cases h : v > 7 <;> simp [h]
theorem chk_pair {k a b : Int} (hk : 5 ≤ k ∧ k ≤ 8) (ha : 0 ≤ a) (hb : 0 ≤ b) : chkE (k, (0, (a, (b, ())))) = if a > 15 then 8 else if b > 5 then 8 else 0 := by
  unfold chkE ref28_Check.t
  simp only [bne_dec, show ¬ k < 1 by omega, show ¬ k > 8 by omega, show ¬ k ≤ 4 by omega, show ¬ a < 0 by omega, show ¬ b < 0 by omega, decide_true, decide_false, cond_true, cond_false]
  by_cases h : a > 15
  · simp [h]
  · by_cases h2 : b > 5 <;> simp [h, h2]
theorem held_nn (n : Nat) : 0 ≤ held n := by unfold held; split <;> omega
theorem held_big {n : Nat} : held n > 15 ↔ (n : Int) > 15 := by unfold held; split <;> omega
theorem held_7 {n : Nat} : held n > 7 ↔ (n : Int) > 7 := by unfold held; split <;> omega
theorem held_5 {n : Nat} : held n > 5 ↔ (n : Int) > 5 := by unfold held; split <;> omega
theorem held_id {n : Nat} (h : (n : Int) ≤ 15) : held n = (n : Int) := by unfold held; split <;> omega
theorem fin_obj {k : Int} {n : Nat} (hk : 1 ≤ k ∧ k ≤ 4) : finE (k, (held n, (0, (0, ())))) = if (n : Int) > 7 then (zEv, 8) else ((k, ((n : Int), (0, (0, ())))), 0) := by
  unfold finE
  rw [chk_obj hk (held_nn n)]
  by_cases h : (n : Int) > 7
  · rw [if_pos (held_7.2 h), if_pos h]; rfl
  · rw [if_neg (fun q => h (held_7.1 q)), if_neg h, held_id (by omega)]; rfl
theorem fin_pair {k : Int} {a b : Nat} (hk : 5 ≤ k ∧ k ≤ 8) : finE (k, (0, (held a, (held b, ())))) = if (a : Int) > 15 ∨ (b : Int) > 5 then (zEv, 8) else ((k, (0, ((a : Int), ((b : Int), ())))), 0) := by
  unfold finE
  rw [chk_pair hk (held_nn a) (held_nn b)]
  by_cases h : (a : Int) > 15
  · rw [if_pos (held_big.2 h), if_pos (.inl h)]; rfl
  · rw [if_neg (fun q => h (held_big.1 q))]
    by_cases h2 : (b : Int) > 5
    · rw [if_pos (held_5.2 h2), if_pos (.inr h2)]; rfl
    · rw [if_neg (fun q => h2 (held_5.1 q)), if_neg (by omega), held_id (by omega), held_id (by omega)]; rfl
theorem neg_plain {l : List UInt8} (h : (l.take 1 == [45]) = true) : plainF l = false := by
  cases l with
  | nil => rfl
  | cons b r =>
    have hb : b = 45 := by simpa using h
    subst hb
    unfold plainF
    rw [List.all_cons]
    rw [show digB 45 = false from rfl]
    rfl
theorem wholeF_cases (l : List UInt8) : (plainF l = false ∧ wholeF l = (0, 3)) ∨ (plainF l = true ∧ valN 0 l ≤ 2147483647 ∧ wholeF l = ((valN 0 l : Int), 0)) ∨ (plainF l = true ∧ 2147483647 < valN 0 l ∧ wholeF l = (0, 8)) := by
  unfold wholeF
  cases h : (l.take 1 == [45]) with
  | true => exact .inl ⟨neg_plain h, rfl⟩
  | false =>
    simp only [cond_false]
    cases hp : plainF l with
    | false => exact .inl ⟨rfl, rfl⟩
    | true =>
      by_cases hv : valN 0 l ≤ 2147483647
      · exact .inr (.inl ⟨rfl, hv, by rw [decide_eq_true hv]; rfl⟩)
      · exact .inr (.inr ⟨rfl, by omega, by rw [decide_eq_false hv]; rfl⟩)

/-- What the program has of two numbers. -/
def pairW (r : List UInt8) : Int × Int × Int :=
  if fstI 46 r < r.length then
    (bif (wholeF (r.take (fstI 46 r))).2 == 3 then (0, 0, 3) else bif (wholeF (r.drop (fstI 46 r + 1))).2 == 3 then (0, 0, 3) else
      bif (wholeF (r.take (fstI 46 r))).2 != 0 then (0, 0, 8) else bif (wholeF (r.drop (fstI 46 r + 1))).2 != 0 then (0, 0, 8) else ((wholeF (r.take (fstI 46 r))).1, (wholeF (r.drop (fstI 46 r + 1))).1, 0))
  else (0, 0, 3)
theorem pair_u {r : ByteArray} (hr : r.size ≤ 1000000) : event_pair.u r = some (pairW r.data.toList) := by
  unfold event_pair.u event_pair.s pairW
  rw [cutb_u hr, Option.bind_some]
  unfold cutF
  have hz := size_list r
  by_cases h : fstI 46 r.data.toList < r.size
  · rw [if_pos h, if_pos (by rw [← hz]; exact h)]
    have z1 := sub_size_to r (i := fstI 46 r.data.toList) (by omega)
    have z2 := sub_size_from r (fstI 46 r.data.toList + 1)
    simp only [whole_t (Nat.le_trans z1 hr), whole_t (Nat.le_trans z2 hr), Option.bind_some, sub_to_list, sub_from_list, Bool.not_true, cond_false]
    generalize wholeF _ = A
    generalize wholeF _ = B
    cases (A.2 == 3) <;> cases (B.2 == 3) <;> cases (A.2 != 0) <;> cases (B.2 != 0) <;> rfl
  · rw [if_neg h, if_neg (by rw [← hz]; exact h)]
    have hb : (bs []).size ≤ 1000000 := by decide
    simp only [whole_t hr, whole_t hb, Option.bind_some, Bool.not_false, cond_true]
theorem markB {k : Int} (hk : 1 ≤ k ∧ k ≤ 4) : subC (some (IntKind.wrap .i64 (k - 1))) (some k) (bs [98, 99, 99, 99]).size = true ∧ ∃ c, markE k = [c] ∧ subS (some (IntKind.wrap .i64 (k - 1))) (some k) (bs [98, 99, 99, 99]) = bs [c] := by
  have : k = 1 ∨ k = 2 ∨ k = 3 ∨ k = 4 := by omega
  rcases this with rfl | rfl | rfl | rfl
  · exact ⟨by kernel_rfl, 98, rfl, by kernel_rfl⟩
  · exact ⟨by kernel_rfl, 99, rfl, by kernel_rfl⟩
  · exact ⟨by kernel_rfl, 99, rfl, by kernel_rfl⟩
  · exact ⟨by kernel_rfl, 99, rfl, by kernel_rfl⟩
theorem parse_u {s : ByteArray} (hs : s.size ≤ 1000000) : event_Parse.u s = some (parseE s.data.toList) := by
  unfold event_Parse.u event_Parse.s parseE
  rw [cutb_u hs, names_split]
  simp only [Option.bind_some, index_names]
  have hz := size_list s
  have hname : (cutF s 32).1.data.toList = s.data.toList.take (fstI 32 s.data.toList) := by
    unfold cutF
    by_cases h : fstI 32 s.data.toList < s.size
    · rw [if_pos h, sub_to_list]
    · rw [if_neg h, List.take_of_length_le (by omega)]
  rw [hname]
  generalize hk : kindE (s.data.toList.take (fstI 32 s.data.toList)) = k
  have hv := kindE_vals (s.data.toList.take (fstI 32 s.data.toList))
  rw [hk] at hv
  have hr : 0 ≤ k ∧ k ≤ 8 := by omega
  have hw : IntKind.wrap .i64 (1 + (k - 1)) = k := by rw [wrapN ⟨by omega, by omega⟩]; omega
  rw [hw]
  cases h0 : (k == 0) with
  | true => rfl
  | false =>
    have h0 : k ≠ 0 := by simpa using h0
    simp only [cond_false]
    unfold cutF
    by_cases h : fstI 32 s.data.toList < s.size
    · rw [if_pos h, if_pos (by omega)]
      simp only [Bool.not_true, cond_false]
      have z2 := sub_size_from s (fstI 32 s.data.toList + 1)
      rw [← sub_from_list]
      generalize subS (some ((fstI 32 s.data.toList + 1 : Nat) : Int)) none s = r at z2 ⊢
      have hrz : r.size ≤ 1000000 := Nat.le_trans z2 hs
      by_cases h4 : k ≤ 4
      · obtain ⟨m1, c, m2, m3⟩ := markB (k := k) (by omega)
        rw [decide_eq_true h4, m1, m3]
        simp only [cond_true]
        rw [cutp_u]
        unfold objF
        rw [m2]
        simp only [Option.bind_some]
        cases hc : (r.data.toList.take 1 == [c]) with
        | false => rfl
        | true =>
          simp only [cond_true, Bool.not_true, cond_false]
          have z3 := sub_size_from r 1
          have e1 : (subS (some 1) none r).size ≤ 1000000 := Nat.le_trans z3 hrz
          rw [whole_t e1, sub1_list]
          simp only [Option.bind_some]
          rcases wholeF_cases (r.data.toList.drop 1) with ⟨p, q⟩ | ⟨p, v, q⟩ | ⟨p, v, q⟩
          · rw [p, q]; rfl
          · rw [p, q]
            simp only [beq_self_eq_true, cond_true, check_t]
            rw [fin_obj (by omega), chk_obj (by omega) (by omega)]
            split <;> rfl
          · rw [p, q]
            simp only [cond_true]
            rw [fin_obj (by omega), if_pos (by omega)]
            rfl
      · rw [decide_eq_false h4]
        simp only [cond_false]
        rw [pair_u hrz]
        simp only [Option.bind_some]
        unfold pairW pairF
        split
        · rcases wholeF_cases (r.data.toList.take (fstI 46 r.data.toList)) with ⟨p, q⟩ | ⟨p, v, q⟩ | ⟨p, v, q⟩
          · rw [p, q]; rfl
          · rcases wholeF_cases (r.data.toList.drop (fstI 46 r.data.toList + 1)) with ⟨p', q'⟩ | ⟨p', v', q'⟩ | ⟨p', v', q'⟩
            · rw [p, q, p', q']; rfl
            · rw [p, q, p', q']
              simp only [show ((0 : Int) == 3) = false from rfl, show ((0 : Int) != 0) = false from rfl, beq_self_eq_true, cond_true, cond_false, check_t]
              rw [fin_pair (by omega), chk_pair (by omega) (by omega) (by omega)]
              split
              · rename_i g; rw [if_pos (.inl g)]; rfl
              · rename_i g
                split
                · rename_i g2; rw [if_pos (.inr g2)]; rfl
                · rename_i g2; rw [if_neg (by omega)]; rfl
            · rw [p, q, p', q']
              simp only [show ((0 : Int) == 3) = false from rfl, show ((8 : Int) == 3) = false from rfl, show ((8 : Int) != 0) = true from rfl, show ((8 : Int) == 0) = false from rfl, show ((0 : Int) != 0) = false from rfl, beq_self_eq_true, cond_true, cond_false]
              rw [fin_pair (by omega), if_pos (.inr (by omega))]
          · rcases wholeF_cases (r.data.toList.drop (fstI 46 r.data.toList + 1)) with ⟨p', q'⟩ | ⟨p', v', q'⟩ | ⟨p', v', q'⟩
            · rw [p, q, p', q']; rfl
            · rw [p, q, p', q']
              simp only [show ((0 : Int) == 3) = false from rfl, show ((8 : Int) == 3) = false from rfl, show ((8 : Int) != 0) = true from rfl, show ((8 : Int) == 0) = false from rfl, show ((0 : Int) != 0) = false from rfl, beq_self_eq_true, cond_true, cond_false]
              rw [fin_pair (by omega), if_pos (.inl (by omega))]
            · rw [p, q, p', q']
              simp only [show ((0 : Int) == 3) = false from rfl, show ((8 : Int) == 3) = false from rfl, show ((8 : Int) != 0) = true from rfl, show ((8 : Int) == 0) = false from rfl, show ((0 : Int) != 0) = false from rfl, beq_self_eq_true, cond_true, cond_false]
              rw [fin_pair (by omega), if_pos (.inl (by omega))]
        · rfl
    · rw [if_neg h, if_neg (by omega)]
      rfl
end Go.Proofs.YtaednhofihnfkaaDoor.K

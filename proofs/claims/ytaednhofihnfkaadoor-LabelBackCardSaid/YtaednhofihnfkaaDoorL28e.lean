/- Events, plainly: in order; EventOrder. -/
import Derived.Test.YtaednhofihnfkaaDoorL28d
import Derived.KernelRfl
set_option maxRecDepth 100000
set_option linter.unusedVariables false
set_option linter.unusedSimpArgs false
namespace Go.Proofs.YtaednhofihnfkaaDoor.K
open Go

theorem cmpc_t (x y : Int) : cmp_Compare_int.t x y = Lib.compareInt x y := by
  unfold cmp_Compare_int.t cmp_isNaN_int.t Lib.compareInt
  simp only [bne_self_eq_false, cond_false]
  by_cases h : x < y
  · rw [decide_eq_true h, if_pos h]; rfl
  · by_cases h2 : x > y
    · rw [decide_eq_false h, decide_eq_true h2, if_neg h, if_pos h2]; rfl
    · rw [decide_eq_false h, decide_eq_false h2, if_neg h, if_neg h2]; rfl
theorem or_go (e : List Int) : ∀ l : List Int, cmp_Or_int.g0 e some l = some (orI l)
  | [] => rfl
  | x :: l => by
    simp only [cmp_Or_int.g0, orI]
    rw [or_go e l]
    unfold bne
    cases (x == 0) <;> rfl
theorem or_u {l : List Int} (h : l.length ≤ 100) : cmp_Or_int.u l = some (orI l) := by
  unfold cmp_Or_int.u cmp_Or_int.w
  rw [dec_len h (by decide), cond_true, or_go]
theorem less_u (x y : Evn) : event_Less.u x y = some (decide (evCmp x y < 0)) := by
  unfold event_Less.u event_Less.s event_compare.u event_compare.s
  rw [or_u (by simp)]
  simp only [Option.bind_some, cmpc_t]
  rfl
theorem rless_t (x y : Evn) : ref28_Less.t x y = decide (evCmp x y < 0) := by
  rw [Bool.eq_iff_iff, decide_eq_true_eq, evCmp_lt]
  obtain ⟨x1, x2, x3, x4, u⟩ := x
  obtain ⟨y1, y2, y3, y4, v⟩ := y
  unfold ref28_Less.t
  simp only [bne_dec]
  by_cases h1 : x1 = y1
  · subst h1
    by_cases h2 : x2 = y2
    · subst h2
      by_cases h3 : x3 = y3
      · subst h3
        simp
      · simp [h3]
    · simp [h2]
  · simp [h1]

/-- Put ahead of the first one that it stands ahead of. -/
def insA (x : Evn) : List Evn → List Evn
  | [] => [x]
  | y :: l => bif decide (evCmp x y < 0) then x :: y :: l else y :: insA x l
theorem insA_perm (x : Evn) : ∀ l, (insA x l).Perm (x :: l)
  | [] => List.Perm.refl _
  | y :: l => by
    unfold insA
    cases decide (evCmp x y < 0) with
    | true => exact List.Perm.refl _
    | false => exact ((insA_perm x l).cons y).trans (List.Perm.swap x y l)
theorem insA_len (x : Evn) (l : List Evn) : (insA x l).length = l.length + 1 := (insA_perm x l).length_eq
theorem le_iff (a b : Evn) : evLe a b = true ↔ ¬ evCmp b a < 0 := by unfold evLe; simp
theorem le_trans' (a b c : Evn) (h1 : evLe a b = true) (h2 : evLe b c = true) : evLe a c = true := by
  rw [le_iff, evCmp_lt] at *; omega
theorem insA_sorted (x : Evn) : ∀ l : List Evn, l.Pairwise (fun a b => evLe a b = true) → (insA x l).Pairwise (fun a b => evLe a b = true)
  | [], _ => by simp [insA]
  | y :: l, h => by
    obtain ⟨h1, h2⟩ := List.pairwise_cons.1 h
    unfold insA
    cases hxy : decide (evCmp x y < 0) with
    | true =>
      have hxy := of_decide_eq_true hxy
      have hle : evLe x y = true := by rw [le_iff]; rw [evCmp_lt] at *; omega
      refine List.pairwise_cons.2 ⟨fun z hz => ?_, h⟩
      rcases List.mem_cons.1 hz with rfl | hz
      · exact hle
      · exact le_trans' _ _ _ hle (h1 z hz)
    | false =>
      have hxy := of_decide_eq_false hxy
      refine List.pairwise_cons.2 ⟨fun z hz => ?_, insA_sorted x l h2⟩
      rcases List.mem_cons.1 ((insA_perm x l).mem_iff.1 hz) with rfl | hz
      · rw [le_iff]; exact hxy
      · exact h1 z hz
theorem fold_perm : ∀ (l a : List Evn), (l.foldl (fun a x => insA x a) a).Perm (l ++ a)
  | [], a => List.Perm.refl _
  | x :: l, a => by
    rw [List.foldl_cons]
    refine (fold_perm l (insA x a)).trans ?_
    refine ((insA_perm x a).append_left l).trans ?_
    exact List.perm_middle
theorem fold_sorted : ∀ (l a : List Evn), a.Pairwise (fun a b => evLe a b = true) → (l.foldl (fun a x => insA x a) a).Pairwise (fun a b => evLe a b = true)
  | [], a, h => h
  | x :: l, a, h => fold_sorted l _ (insA_sorted x a h)
theorem le_total' (a b : Evn) : evLe a b = true ∨ evLe b a = true := by
  simp only [le_iff, evCmp_lt]; omega
theorem le_anti (a b : Evn) (h1 : evLe a b = true) (h2 : evLe b a = true) : a = b := by
  refine ev_total a b ?_ ?_
  · rw [evCmp_ltB]; exact decide_eq_false ((le_iff b a).1 h2)
  · rw [evCmp_ltB]; exact decide_eq_false ((le_iff a b).1 h1)
theorem fold_sort (l : List Evn) : l.foldl (fun a x => insA x a) [] = sortB evLe l := by
  refine List.Perm.eq_of_pairwise (le := fun a b => evLe a b = true) (fun a b _ _ h1 h2 => le_anti a b h1 h2) (fold_sorted l [] List.Pairwise.nil) (sortB_sorted le_trans' le_total' l) ?_
  refine (fold_perm l []).trans ?_
  rw [List.append_nil]
  exact (sortB_perm l).symm
theorem subL_to {α : Type} (l : List α) (i : Nat) : subL none (some (i : Int)) l = l.take i := by
  simp [subL, subLo, subHi]
theorem subL_from {α : Type} (l : List α) (i : Nat) : subL (some (i : Int)) none l = l.drop i := by
  simp [subL, subLo, subHi]
theorem sort_in {e out : List Evn} (he : e.length ≤ 100) (ho : out.length ≤ 100) {i : Nat} (hi : i < e.length) (r : List Evn × Int → Option (List Evn)) (k : List Evn → Option (List Evn)) : ∀ (xs : List Evn) (j : Nat), out.drop j = xs → j ≤ out.length →
    ref28_Sort.g0 e out (i : Int) r k xs (j : Int) = r (out.take j ++ insA e[i] xs, ((i : Int) + 1)) := by
  have hx : List.getD e (Int.toNat (i : Int)) zEv = e[i] := by
    rw [Int.toNat_natCast, List.getD_eq_getElem?_getD, List.getElem?_eq_getElem hi]; rfl
  have tail : ∀ j : Nat, j ≤ out.length → (bif (subC none (some (j : Int)) (List.length out)) then
      bif (decide (List.length (subL none (some (j : Int)) out) ≤ rowMax)) then
        bif (idxOK (i : Int) (List.length e)) then
          bif (decide (List.length (subL none (some (j : Int)) out) + List.length [(List.getD e (Int.toNat (i : Int)) zEv)] ≤ rowMax)) then
            bif (subC (some (j : Int)) none (List.length out)) then
              bif (decide (List.length ((subL none (some (j : Int)) out) ++ [(List.getD e (Int.toNat (i : Int)) zEv)]) + List.length (subL (some (j : Int)) none out) ≤ rowMax)) then
                r ((((subL none (some (j : Int)) out) ++ [(List.getD e (Int.toNat (i : Int)) zEv)]) ++ (subL (some (j : Int)) none out)), ((i : Int) + 1))
              else none
            else none
          else none
        else none
      else none
    else none) = r (out.take j ++ (e[i] :: out.drop j), ((i : Int) + 1)) := by
    intro j hj
    have c1 : subC none (some (j : Int)) out.length = true := by simp [subC]; omega
    have c2 : subC (some (j : Int)) none out.length = true := by simp [subC]; omega
    rw [c1, c2, subL_to, subL_from, hx, idxOK_nat hi]
    have d1 : decide (List.length (out.take j) ≤ rowMax) = true := decide_eq_true (by simp [rowMax]; omega)
    have d2 : decide (List.length (out.take j) + List.length [e[i]] ≤ rowMax) = true := decide_eq_true (by simp [rowMax]; omega)
    have d3 : decide (List.length (out.take j ++ [e[i]]) + List.length (out.drop j) ≤ rowMax) = true := decide_eq_true (by simp [rowMax]; omega)
    simp only [d1, d2, d3, cond_true, List.append_assoc, List.cons_append, List.nil_append]
  intro xs
  induction xs with
  | nil =>
    intro j hd hj
    simp only [ref28_Sort.g0]
    rw [tail j hj, hd]
    rfl
  | cons y xs ih =>
    intro j hd hj
    obtain ⟨hlt, hd', hy⟩ : j < out.length ∧ out.drop (j + 1) = xs ∧ out[j]? = some y := by
      have hlt : j < out.length := by
        rcases Nat.lt_or_ge j out.length with h | h
        · exact h
        · rw [List.drop_eq_nil_of_le h] at hd; cases hd
      have h1 := List.drop_eq_getElem_cons hlt
      rw [hd] at h1
      injection h1 with h1 h2
      exact ⟨hlt, h2.symm, by rw [List.getElem?_eq_getElem hlt, h1]⟩
    simp only [ref28_Sort.g0, idxOK_nat hi, cond_true, hx]
    rw [rless_t]
    unfold insA
    cases hl : decide (evCmp e[i] y < 0) with
    | true =>
      simp only [Bool.not_true, cond_false, cond_true]
      have := tail j hj
      rw [hx, idxOK_nat hi] at this
      simp only [cond_true] at this
      rw [this, hd]
    | false =>
      simp only [Bool.not_false, cond_true, cond_false]
      rw [show ((j : Int) + 1) = ((j + 1 : Nat) : Int) by omega, ih (j + 1) hd' (by omega)]
      congr 2
      rw [List.take_add_one, hy]
      simp
theorem sort_out {e : List Evn} (he : e.length ≤ 60) : ∀ (xs a : List Evn) (i : Nat), e.drop i = xs → a.length + xs.length ≤ 60 → ref28_Sort.g1 e some xs a (i : Int) = some (xs.foldl (fun a x => insA x a) a)
  | [], a, i, h, hl => rfl
  | x :: xs, a, i, h, hl => by
    have hlt : i < e.length := by
      rcases Nat.lt_or_ge i e.length with h' | h'
      · exact h'
      · rw [List.drop_eq_nil_of_le h'] at h; cases h
    have h1 := List.drop_eq_getElem_cons hlt
    rw [h] at h1
    injection h1 with h1 h2
    rw [List.length_cons] at hl
    simp only [ref28_Sort.g1]
    rw [dec_len (show a.length ≤ 100 by omega) (by decide), cond_true]
    have := sort_in (e := e) (out := a) (by omega) (by omega) hlt (fun q => ref28_Sort.g1 e some xs q.1 q.2) some a 0 (by simp) (Nat.zero_le _)
    rw [show ((0 : Nat) : Int) = 0 from rfl] at this
    rw [this, List.take_zero, List.nil_append, ← h1, List.foldl_cons, show ((i : Int) + 1) = ((i + 1 : Nat) : Int) by omega]
    exact sort_out he xs _ (i + 1) h2.symm (by rw [insA_len]; omega)
theorem rsort_u {l : List Evn} (h : l.length ≤ 60) : ref28_Sort.u l = some (sortB evLe l) := by
  unfold ref28_Sort.u ref28_Sort.w
  rw [dec_len (show l.length ≤ 100 by omega) (by decide), cond_true]
  have := sort_out h l [] 0 rfl (by simpa using h)
  rw [show ((0 : Nat) : Int) = 0 from rfl] at this
  rw [this, fold_sort]
theorem sort_u {l : List Evn} (h : l.length ≤ 60) : event_Sort.u l = some (sortB evLe l) := by
  unfold event_Sort.u event_Sort.s
  have : decide (l.length ≤ rowMax) = true := decide_eq_true (by simp [rowMax]; omega)
  rw [this, cond_true, cond_true]
theorem to_go (e : List Evn) : ∀ (xs a : List Evn), a.length + xs.length ≤ 100 → law28_To.g0 e some xs a = some (a ++ xs)
  | [], a, h => by simp [law28_To.g0]
  | x :: xs, a, h => by
    rw [List.length_cons] at h
    have hd : decide (a.length + List.length [x] ≤ rowMax) = true := decide_eq_true (by simp [rowMax]; omega)
    simp only [law28_To.g0, hd, cond_true]
    rw [to_go e xs (a ++ [x]) (by simp; omega)]
    simp
theorem to_u {l : List Evn} (h : l.length ≤ 60) : law28_To.u l = some l := by
  unfold law28_To.u law28_To.w
  rw [dec_len (show l.length ≤ 100 by omega) (by decide), cond_true, to_go l l [] (by simp; omega)]
  rfl
theorem back_go (e : List Evn) : ∀ (xs a : List Evn), a.length + xs.length ≤ 100 → law28_Back.g0 e some xs a = some (a ++ xs)
  | [], a, h => by simp [law28_Back.g0]
  | x :: xs, a, h => by
    rw [List.length_cons] at h
    have hd : decide (a.length + List.length [x] ≤ rowMax) = true := decide_eq_true (by simp [rowMax]; omega)
    simp only [law28_Back.g0, hd, cond_true]
    rw [back_go e xs (a ++ [x]) (by simp; omega)]
    simp
theorem back_u {l : List Evn} (h : l.length ≤ 60) : law28_Back.u l = some l := by
  unfold law28_Back.u law28_Back.w
  rw [dec_len (show l.length ≤ 100 by omega) (by decide), cond_true, back_go l l [] (by simp; omega)]
  rfl
theorem sameE_go (ys : List Evn) : ∀ (xs : List Evn) (n : Nat), ys.drop n = xs → ref28_Same.g0 ys ys some xs (n : Int) = some true
  | [], n, h => rfl
  | x :: xs, n, h => by
    have hn : n < ys.length := by
      rcases Nat.lt_or_ge n ys.length with h' | h'
      · exact h'
      · rw [List.drop_eq_nil_of_le h'] at h; cases h
    have h1 := List.drop_eq_getElem_cons hn
    rw [h] at h1
    cases h1
    have hx : List.getD ys (Int.toNat (n : Int)) zEv = ys[n] := by
      rw [Int.toNat_natCast, List.getD_eq_getElem?_getD, List.getElem?_eq_getElem hn]; rfl
    simp only [ref28_Same.g0, idxOK_nat hn, cond_true, hx, eqEv, Bool.not_true, cond_false]
    exact sameE_go ys _ (n + 1) rfl
theorem sameE_u {l : List Evn} (h : l.length ≤ 100) : ref28_Same.u l l = some true := by
  unfold ref28_Same.u ref28_Same.w
  rw [bne_self_eq_false, cond_false, dec_len h (by decide), cond_true]
  exact sameE_go l l 0 rfl
theorem eqBv (x y : Bool) : eqI .bool x y = (x == y) := rfl
theorem law_EventOrder (l : List Evn) (x y : Evn) : law28_EventOrder.u l x y = some true := by
  unfold law28_EventOrder.u law28_EventOrder.s
  by_cases h : ((l.length : Nat) : Int) > 60
  · rw [decide_eq_true h, alive28]; rfl
  · have hl : l.length ≤ 60 := by omega
    have hsl : (sortB evLe l).length ≤ 60 := by rw [sortB_length]; exact hl
    rw [decide_eq_false h, to_u hl, Option.bind_some, sort_u hl, Option.bind_some, back_u hsl, Option.bind_some, rsort_u hl, Option.bind_some, sameE_u (by omega), Option.bind_some]
    simp only [less_u, rless_t, cond_false, Bool.not_true, Option.bind_some, eqBv, beq_self_eq_true, alive28]
    have hback : ((event_Text.u x).bind fun y10 =>
        bif (y10.2 != 0) then some true
        else (event_Parse.u y10.1).bind fun y12 => bif (eqI tyEvn y12.1 x) then bif (y12.2 == 0) then some true else some false else some false) = some true := by
      cases hc : (chkE x != 0) with
      | true =>
        rw [(text_bad hc).1]
        simp only [Option.bind_some, hc, cond_true]
      | false =>
        have h0 : chkE x = 0 := by simpa using hc
        obtain ⟨t, h1, _, _, h4⟩ := text_back h0
        rw [h1]
        simp only [Option.bind_some, bne_self_eq_false, cond_false, h4, eqEv, beq_self_eq_true, cond_true]
    cases h1 : decide (evCmp x y < 0) with
    | true =>
      have h1 := of_decide_eq_true h1
      have hne : eqI tyEvn x y = false := by
        rw [eqEv_iff, beq_eq_false_iff_ne]
        intro e; subst e
        rw [evCmp_lt] at h1; omega
      simp only [Bool.not_true, cond_false, hne, beq_self_eq_true]
      exact hback
    | false =>
      have h1 := of_decide_eq_false h1
      simp only [Bool.not_false, cond_true]
      have hiff : eqI tyEvn x y = !decide (evCmp y x < 0) := by
        rw [eqEv_iff, Bool.eq_iff_iff]
        simp only [beq_iff_eq, Bool.not_eq_true', decide_eq_false_iff_not]
        constructor
        · intro e; subst e; exact h1
        · intro h2
          exact ev_total x y (by rw [evCmp_ltB]; exact decide_eq_false h1) (by rw [evCmp_ltB]; exact decide_eq_false h2)
      simp only [hiff, beq_self_eq_true, Bool.not_true, cond_false]
      exact hback
theorem row_EventOrder (xs : Args [.slice tyEvn, tyEvn, tyEvn]) (h : fitsA _ xs) : law28_EventOrder.u xs.1 xs.2.1 xs.2.2.1 = some true := law_EventOrder _ _ _
end Go.Proofs.YtaednhofihnfkaaDoor.K

/- Guards, plainly: lists of them. -/
import Derived.Test.YtfihhbgppgkafaaDoorL25b
set_option maxRecDepth 100000
set_option linter.unusedVariables false
set_option linter.unusedSimpArgs false
namespace Go.Proofs.YtfihhbgppgkafaaDoor.K
open Go

abbrev noGd : Gd := (0, (0, (0, (0, (0, ())))))
def noOf (g : Gd) : Int := g.2.2.2.2.1
def clashF (a b : Gd) : Bool := guard_clash.t a b
/-- What is wrong with a guard beside those ahead of it. -/
def besF (p : List Gd) (g : Gd) : Int := bif decide (0 < p.length) && decide (noOf g ≤ noOf (p.getD (p.length - 1) noGd)) then 3 else bif p.any (fun x => clashF x g) then 7 else 0
theorem beside_go (e : List Gd) (g : Gd) : ∀ p : List Gd, guard_beside.g0 e g some p = some (bif p.any (fun x => clashF x g) then 7 else 0)
  | [] => rfl
  | x :: xs => by
    have ih := beside_go e g xs
    simp only [guard_beside.g0, List.any_cons, ih]
    unfold clashF
    cases guard_clash.t x g <;> rfl
theorem beside_u {p : List Gd} (h : p.length ≤ 100) (g : Gd) : guard_beside.u p g = some (besF p g) := by
  unfold guard_beside.u guard_beside.w besF
  rw [dec_len h (by decide), beside_go]
  by_cases h0 : 0 < p.length
  · have e1 : IntKind.wrap .i64 (((List.length p : Nat) : Int) - 1) = ((p.length - 1 : Nat) : Int) := by rw [wrapN ⟨by omega, by omega⟩]; omega
    rw [decide_eq_true (show ((List.length p : Nat) : Int) > 0 by omega), e1, idxOK_nat (show p.length - 1 < p.length by omega), Int.toNat_natCast, decide_eq_true h0]
    simp only [cond_true, Bool.true_and]
    show (bif decide (noOf g ≤ noOf (p.getD (p.length - 1) noGd)) then some 3 else _) = _
    cases decide (noOf g ≤ noOf (p.getD (p.length - 1) noGd)) <;> rfl
  · rw [decide_eq_false (show ¬ ((List.length p : Nat) : Int) > 0 by omega), decide_eq_false h0]
    rfl
/-- What is wrong with guards together, and where. -/
def allF (e : List Gd) : List Gd → Nat → Int × Int
  | [], _ => (0, 0)
  | x :: xs, i => bif chkG x != 0 then ((i : Int), chkG x) else bif besF (e.take i) x != 0 then ((i : Int), besF (e.take i) x) else allF e xs (i + 1)
theorem drop_next {α : Type} {e xs : List α} {x : α} {i : Nat} (h : e.drop i = x :: xs) : i < e.length ∧ e.drop (i + 1) = xs ∧ e[i]? = some x := by
  have hi : i < e.length := by
    rcases Nat.lt_or_ge i e.length with hlt | hge
    · exact hlt
    · rw [List.drop_eq_nil_of_le hge] at h; cases h
  rw [List.drop_eq_getElem_cons hi] at h
  refine ⟨hi, (List.cons.inj h).2, ?_⟩
  rw [List.getElem?_eq_getElem hi, (List.cons.inj h).1]
theorem gall_go {e : List Gd} (he : e.length ≤ 100) : ∀ (xs : List Gd) (i : Nat), e.drop i = xs → guard_All.g0 e some xs (i : Int) = some (allF e xs i)
  | [], i, _ => rfl
  | x :: xs, i, h => by
    obtain ⟨hi, hd, hx⟩ := drop_next h
    have ih := gall_go he xs (i + 1) hd
    rw [show ((i + 1 : Nat) : Int) = (i : Int) + 1 by omega] at ih
    have c1 : subC none (some (i : Int)) (List.length e) = true := by simp [subC]; omega
    have s1 : subL none (some (i : Int)) e = e.take i := by simp [subL]
    simp only [guard_All.g0, gcheck_u, Option.bind_some, c1, s1, cond_true, beside_u (show (e.take i).length ≤ 100 by rw [List.length_take]; omega), ih, allF, bne]
    cases (chkG x == 0) <;> cases (besF (e.take i) x == 0) <;> rfl

def clashR (a b : Gd) : Bool := (a.1 == b.1) && decide (a.1 ≤ 3) && (a.2.1 == b.2.1)
theorem rall_in {e : List Gd} (he : e.length ≤ 100) {i : Nat} (hi : i < e.length) (r : Int → Option (Int × Int)) : ∀ (d j : Nat), j + d = i →
    ref25_All.g0 e (i : Int) r some d (j : Int) = bif ((e.take i).drop j).any (fun y => clashR y (e.getD i noGd)) then some ((i : Int), 7) else r ((i : Int) + 1)
  | 0, j, h => by
    have : (e.take i).drop j = [] := by rw [List.drop_eq_nil_of_le]; rw [List.length_take]; omega
    rw [this]; rfl
  | d + 1, j, h => by
    have ih := rall_in he hi r d (j + 1) (by omega)
    rw [show ((j + 1 : Nat) : Int) = (j : Int) + 1 by omega] at ih
    have hj : j < e.length := by omega
    have hjt : j < (e.take i).length := by rw [List.length_take]; omega
    have e1 : (e.take i).drop j = e.getD j noGd :: (e.take i).drop (j + 1) := by
      rw [List.drop_eq_getElem_cons hjt]
      congr 1
      rw [List.getElem_take, List.getD_eq_getElem?_getD, List.getElem?_eq_getElem hj]; rfl
    simp only [ref25_All.g0, idxOK_nat hj, idxOK_nat hi, cond_true, Int.toNat_natCast, ih, e1, List.any_cons]
    unfold clashR
    cases ((e.getD j noGd).1 == (e.getD i noGd).1) <;> cases decide ((e.getD j noGd).1 ≤ 3) <;> cases ((e.getD j noGd).2.1 == (e.getD i noGd).2.1) <;> rfl
theorem clash_same {a b : Gd} (h : 1 ≤ a.1) : clashR a b = clashF a b := by
  unfold clashR clashF guard_clash.t
  cases hk : (a.1 == b.1) with
  | false => rfl
  | true =>
    cases ho : (a.2.1 == b.2.1) with
    | false => simp
    | true =>
      simp only [cond_true, Bool.true_and, Bool.and_true]
      by_cases h3 : a.1 ≤ 3
      · rw [decide_eq_true h3]
        rcases (show a.1 = 1 ∨ a.1 = 2 ∨ a.1 = 3 by omega) with e | e | e <;> rw [e] <;> rfl
      · rw [decide_eq_false h3, beq_eq_false_iff_ne.2 (show a.1 ≠ 1 by omega), beq_eq_false_iff_ne.2 (show a.1 ≠ 2 by omega), beq_eq_false_iff_ne.2 (show a.1 ≠ 3 by omega)]; rfl
theorem any_same {α : Type} {p q : α → Bool} : ∀ {l : List α}, (∀ x ∈ l, p x = q x) → l.any p = l.any q
  | [], _ => rfl
  | x :: l, h => by rw [List.any_cons, List.any_cons, h x (by simp), any_same (fun y hy => h y (List.mem_cons_of_mem _ hy))]
theorem rall_go {e : List Gd} (he : e.length ≤ 100) : ∀ (xs : List Gd) (i : Nat), e.drop i = xs → (∀ y ∈ e.take i, 1 ≤ y.1) → ref25_All.g1 e some xs (i : Int) = some (allF e xs i)
  | [], i, _, _ => rfl
  | x :: xs, i, h, hk => by
    obtain ⟨hi, hd, hx⟩ := drop_next h
    have hxi : e.getD i noGd = x := by rw [List.getD_eq_getElem?_getD, hx]; rfl
    simp only [ref25_All.g1, rcheck_u, Option.bind_some, allF]
    cases hc : (chkG x != 0) with
    | true => rfl
    | false =>
      have hx1 : 1 ≤ x.1 := by obtain ⟨hh, _⟩ := chk0 hc; omega
      have ih := rall_go he xs (i + 1) hd (fun y hy => by
        rw [List.take_add_one, hx] at hy
        rcases List.mem_append.1 hy with hy | hy
        · exact hk y hy
        · have : y = x := by simpa using hy
          rw [this]; exact hx1)
      rw [show ((i + 1 : Nat) : Int) = (i : Int) + 1 by omega] at ih
      have hin := rall_in he hi (fun q => ref25_All.g1 e some xs q) i 0 (by omega)
      rw [List.drop_zero, hxi, any_same (fun y hy => clash_same (b := x) (hk y hy))] at hin
      have hz : ((0 : Nat) : Int) = 0 := rfl
      rw [hz] at hin
      have hle : decide ((i : Int) ≤ 4611686018427387904) = true := decide_eq_true (by omega)
      have htn : Int.toNat ((i : Int) - 0) = i := by omega
      simp only [cond_false, hle, htn, cond_true, hin, ih]
      unfold besF
      by_cases h0 : 0 < i
      · have e1 : IntKind.wrap .i64 ((i : Int) - 1) = ((i - 1 : Nat) : Int) := by rw [wrapN ⟨by omega, by omega⟩]; omega
        have hl : (e.take i).length = i := by rw [List.length_take]; omega
        have hg : (e.take i).getD (i - 1) noGd = e.getD (i - 1) noGd := by
          rw [List.getD_eq_getElem?_getD, List.getD_eq_getElem?_getD, List.getElem?_take, if_pos (by omega)]
        rw [decide_eq_true (show (i : Int) > 0 by omega), e1, idxOK_nat (show i - 1 < e.length by omega), Int.toNat_natCast, hl, hg, decide_eq_true h0]
        simp only [cond_true, Bool.true_and]
        show (bif decide (noOf x ≤ noOf (e.getD (i - 1) noGd)) then _ else _) = _
        cases decide (noOf x ≤ noOf (e.getD (i - 1) noGd)) <;> cases (e.take i).any (fun y => clashF y x) <;> rfl
      · have : i = 0 := by omega
        subst this
        rfl
def AllF (l : List Gd) : Int × Int := bif ((List.length l : Nat) : Int) == 0 then (0, 11) else bif decide (((List.length l : Nat) : Int) > 6) then (6, 5) else allF l l 0
theorem gall_u (l : List Gd) : guard_All.u l = some (AllF l) := by
  unfold guard_All.u guard_All.w AllF
  cases h0 : (((List.length l : Nat) : Int) == 0) with
  | true => rfl
  | false =>
    by_cases h1 : ((List.length l : Nat) : Int) > 6
    · rw [decide_eq_true h1]; rfl
    · have := gall_go (e := l) (by omega) l 0 rfl
      rw [decide_eq_false h1, dec_len (show l.length ≤ 6 by omega) (by decide)]
      exact this
theorem rall_u (l : List Gd) : ref25_All.u l = some (AllF l) := by
  unfold ref25_All.u ref25_All.w AllF
  cases h0 : (((List.length l : Nat) : Int) == 0) with
  | true => rfl
  | false =>
    by_cases h1 : ((List.length l : Nat) : Int) > 6
    · rw [decide_eq_true h1]; rfl
    · have := rall_go (e := l) (by omega) l 0 rfl (fun y hy => by simp at hy)
      rw [decide_eq_false h1, dec_len (show l.length ≤ 6 by omega) (by decide)]
      exact this

theorem earliest_go (e e' : List Gd) : ∀ (xs : List Gd) (a : Int) (b : Bool), guard_Earliest.g0 e some xs a b = ref25_Earliest.g0 e' some xs a b
  | [], a, b => rfl
  | x :: xs, a, b => by
    simp only [guard_Earliest.g0, ref25_Earliest.g0, bne, earliest_go e e' xs]
    cases (x.1 == 4) <;> cases b <;> cases decide (x.2.2.1 < a) <;> rfl
theorem earliest_u {l : List Gd} (h : l.length ≤ 100) : ∃ v, guard_Earliest.u l = some v ∧ ref25_Earliest.u l = some v := by
  have tot : ∀ (e xs : List Gd) (a : Int) (b : Bool), ∃ v, guard_Earliest.g0 e some xs a b = some v := by
    intro e xs
    induction xs with
    | nil => intro a b; exact ⟨_, rfl⟩
    | cons x xs ih =>
      intro a b
      simp only [guard_Earliest.g0]
      cases (x.1 == 4)
      · exact ih _ _
      · cases b
        · exact ih _ _
        · cases decide (x.2.2.1 < a)
          · exact ih _ _
          · exact ih _ _
  unfold guard_Earliest.u guard_Earliest.w ref25_Earliest.u ref25_Earliest.w
  rw [dec_len h (by decide), cond_true, cond_true]
  obtain ⟨v, hv⟩ := tot l l 0 false
  exact ⟨v, hv, by rw [← earliest_go l l]; exact hv⟩
theorem find_go (e e' : List Gd) (n : Int) : ∀ xs : List Gd, guard_Find.g0 n e some xs = ref25_Find.g0 e' n some xs
  | [] => rfl
  | x :: xs => by
    simp only [guard_Find.g0, ref25_Find.g0, find_go e e' n xs]
theorem find_u {l : List Gd} (h : l.length ≤ 100) (n : Int) : ∃ v, guard_Find.u l n = some v ∧ ref25_Find.u l n = some v := by
  have tot : ∀ (e xs : List Gd), ∃ v, guard_Find.g0 n e some xs = some v := by
    intro e xs
    induction xs with
    | nil => exact ⟨_, rfl⟩
    | cons x xs ih =>
      simp only [guard_Find.g0]
      cases (x.2.2.2.2.1 == n)
      · exact ih
      · exact ⟨_, rfl⟩
  unfold guard_Find.u guard_Find.w ref25_Find.u ref25_Find.w
  rw [dec_len h (by decide), cond_true, cond_true]
  obtain ⟨v, hv⟩ := tot l l
  exact ⟨v, hv, by rw [← find_go l l]; exact hv⟩
end Go.Proofs.YtfihhbgppgkafaaDoor.K

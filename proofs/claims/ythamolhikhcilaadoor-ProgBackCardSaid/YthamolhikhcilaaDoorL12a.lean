/- Programs, plainly: whether instructions are a program. -/
import Derived.Test.YthamolhikhcilaaDoorZ12
import Derived.Test.YthamolhikhcilaaDoorL10p
set_option maxRecDepth 100000
set_option linter.unusedVariables false
set_option linter.unusedSimpArgs false
namespace Go.Proofs.YthamolhikhcilaaDoor.K
open Go

abbrev noIn : In := (0, (0, (0, (0, ()))))
def PrOK (l : List In) : Prop := ∀ x ∈ l, InOK x
theorem noIn_ok : InOK noIn := ⟨by decide, by decide, by decide, by decide⟩
theorem PrOK.at {l : List In} (h : PrOK l) (i : Nat) : InOK (l.getD i noIn) := by
  rw [List.getD_eq_getElem?_getD]
  cases hx : l[i]? with
  | none => exact noIn_ok
  | some x => exact h x (List.mem_of_getElem? hx)

/-- Is it a guard? -/
def isG (x : In) : Bool := (bif opcode_fine.t x.1 then (lineOf x.1).2.2.1 else -1) == 3
theorem guard_u {x : In} (h : InOK x) : prog_isGuard.u x = some (isG x) := by
  unfold prog_isGuard.u prog_isGuard.s
  rw [wrapN (x := x.1) ⟨by have := h.o; omega, by have := h.o; omega⟩, class_u]
  rfl
theorem guards_u {x : In} (h : InOK x) : ref12_Guards.u x = some (isG x) := by
  unfold ref12_Guards.u ref12_Guards.s isG
  rw [wrapN (x := x.1) ⟨by have := h.o; omega, by have := h.o; omega⟩, of_u]
  cases opcode_fine.t x.1 <;> rfl
theorem alt_notG {x : In} (h : x.1 = 41) : isG x = false := by
  unfold isG lineOf
  rw [h]
  decide +kernel

theorem contains_u {l : List In} (h : PrOK l) (hl : l.length ≤ 4611686018427387904) : slices_ContainsFunc_api_Instr_api_Instr__prog_guarded_1.u l = some (l.any fun x => !isG x) := by
  have step : ∀ x ∈ l, prog_guarded_1.u x = some (!isG x) := fun x hx => by
    unfold prog_guarded_1.u prog_guarded_1.s
    rw [guard_u (h x hx)]; rfl
  have key : ∀ (xs : List In) (i : Int), (∀ x ∈ xs, x ∈ l) → 0 ≤ i → ∃ j, slices_IndexFunc_api_Instr_api_Instr__prog_guarded_1.g0 l some xs i = some j ∧ decide (j ≥ 0) = xs.any fun x => !isG x := by
    intro xs
    induction xs with
    | nil => intro i _ _; exact ⟨-1, rfl, rfl⟩
    | cons x xs ih =>
      intro i hx hi
      simp only [slices_IndexFunc_api_Instr_api_Instr__prog_guarded_1.g0, step x (hx x (by simp)), Option.bind_some, List.any_cons]
      cases hg : !isG x with
      | true => exact ⟨i, rfl, by simp; omega⟩
      | false =>
        obtain ⟨j, e1, e2⟩ := ih (i + 1) (fun y hy => hx y (List.mem_cons_of_mem _ hy)) (by omega)
        exact ⟨j, e1, by rw [e2]; simp⟩
  obtain ⟨j, e1, e2⟩ := key l 0 (fun _ h => h) (by omega)
  unfold slices_ContainsFunc_api_Instr_api_Instr__prog_guarded_1.u slices_ContainsFunc_api_Instr_api_Instr__prog_guarded_1.s slices_IndexFunc_api_Instr_api_Instr__prog_guarded_1.u slices_IndexFunc_api_Instr_api_Instr__prog_guarded_1.w
  rw [dec_len hl (Nat.le_refl _), cond_true, e1]
  simp only [Option.bind_some, e2]

/-- Are an alt's guards all there? -/
def gdF (l : List In) (a C : Nat) : Bool := (List.range' 1 C).all fun j => decide (a + j < l.length) && isG (l.getD (a + j) noIn)
theorem gd_slice {l : List In} {a C : Nat} (ha : a < l.length) : (decide (a + 1 + C ≤ l.length) && ((l.take (a + 1 + C)).drop (a + 1)).all isG) = gdF l a C := by
  unfold gdF
  by_cases h : a + 1 + C ≤ l.length
  · rw [decide_eq_true h, Bool.true_and]
    have e : (l.take (a + 1 + C)).drop (a + 1) = (List.range' 1 C).map fun j => l.getD (a + j) noIn := by
      apply List.ext_getElem
      · rw [List.length_drop, List.length_take, List.length_map, List.length_range']; omega
      · intro n h1 h2
        rw [List.length_map, List.length_range'] at h2
        rw [List.getElem_drop, List.getElem_take, List.getElem_map, List.getElem_range', List.getD_eq_getElem?_getD, List.getElem?_eq_getElem (by omega)]
        simp only [Option.getD_some]
        congr 1; omega
    rw [e, List.all_map]
    rw [Bool.eq_iff_iff]
    simp only [List.all_eq_true, Function.comp, Bool.and_eq_true, decide_eq_true_eq]
    constructor
    · intro hh j hj
      refine ⟨?_, hh j hj⟩
      rw [List.mem_range'_1] at hj; omega
    · intro hh j hj
      exact (hh j hj).2
  · rw [decide_eq_false h, Bool.false_and]
    symm
    rw [Bool.eq_false_iff]
    intro hh
    rw [List.all_eq_true] at hh
    have := hh (l.length - a) (by rw [List.mem_range'_1]; omega)
    simp only [Bool.and_eq_true, decide_eq_true_eq] at this
    omega
theorem guarded_u {l : List In} (h : PrOK l) (hl : l.length ≤ 64) {a : Nat} (ha : a < l.length) : prog_guarded.u l (a : Int) = some (gdF l a (l.getD a noIn).2.2.2.1.toNat) := by
  unfold prog_guarded.u prog_guarded.s
  have hx := (h.at a).c
  rw [idxOK_nat ha, cond_true, Int.toNat_natCast]
  have e1 : IntKind.wrap .i64 ((a : Int) + 1) = (a : Int) + 1 := wrapN ⟨by omega, by omega⟩
  have e2 : IntKind.wrap .i64 (List.getD l a noIn).2.2.2.1 = (List.getD l a noIn).2.2.2.1 := wrapN ⟨by omega, by omega⟩
  have e3 : IntKind.wrap .i64 ((a : Int) + 1 + (List.getD l a noIn).2.2.2.1) = (a : Int) + 1 + (List.getD l a noIn).2.2.2.1 := wrapN ⟨by omega, by omega⟩
  rw [e1, e2, e3]
  generalize hC : (List.getD l a noIn).2.2.2.1.toNat = C
  have hC' : (List.getD l a noIn).2.2.2.1 = (C : Int) := by omega
  rw [hC']
  simp only
  rw [← gd_slice ha]
  by_cases hle : a + 1 + C ≤ l.length
  · have d1 : decide ((a : Int) + 1 + (C : Int) ≤ ((List.length l : Nat) : Int)) = true := decide_eq_true (by omega)
    have d2 : subC (some ((a : Int) + 1)) (some ((a : Int) + 1 + (C : Int))) (List.length l) = true := by simp [subC]; omega
    have d3 : subL (some ((a : Int) + 1)) (some ((a : Int) + 1 + (C : Int))) l = (l.take (a + 1 + C)).drop (a + 1) := by
      rw [subL_eq]
      show (l.take ((a : Int) + 1 + (C : Int)).toNat).drop ((a : Int) + 1).toNat = _
      rw [show ((a : Int) + 1 + (C : Int)).toNat = a + 1 + C by omega, show ((a : Int) + 1).toNat = a + 1 by omega]
    rw [d1, d2, d3, cond_true, cond_true, contains_u (fun x hx => h x (List.mem_of_mem_take (List.mem_of_mem_drop hx))) (by rw [List.length_drop, List.length_take]; omega), decide_eq_true hle, Bool.true_and]
    simp only [Option.bind_some]
    rw [bnot_any]
  · rw [decide_eq_false (show ¬ ((a : Int) + 1 + (C : Int) ≤ ((List.length l : Nat) : Int)) by omega), decide_eq_false hle]
    rfl

/-- What is wrong with where it leads. -/
def ledF (l : List In) (x : In) : Int := bif (plcF x).2 then (bif decide ((plcF x).1 > (l.length : Int)) then 8 else bif decide ((plcF x).1 < (l.length : Int)) && isG (l.getD (plcF x).1.toNat noIn) then 3 else 0) else 0
theorem plc_nonneg {x : In} (h : InOK x) : 0 ≤ (plcF x).1 ∧ (plcF x).1 ≤ 255 := by
  have := h.a; have := h.b; have := h.c
  unfold plcF
  cases opcode_fine.t x.1 <;> cases (bAt (lineOf x.1).2.1 0 == 116) <;> cases (bAt (lineOf x.1).2.1 1 == 116) <;> cases (bAt (lineOf x.1).2.1 2 == 116) <;> simp <;> omega
theorem led_u {l : List In} (h : PrOK l) {x : In} (hx : InOK x) : prog_led.u l x = some (ledF l x) := by
  unfold prog_led.u prog_led.s ledF
  rw [place_u hx]
  have hp := plc_nonneg hx
  generalize plcF x = q at hp
  obtain ⟨p, is⟩ := q
  cases is with
  | false => rfl
  | true =>
    simp only [Option.bind_some, Bool.not_true, cond_false, cond_true]
    simp only at hp
    by_cases e1 : p = (l.length : Int)
    · subst e1; simp
    · by_cases e2 : p > (l.length : Int)
      · simp [beq_eq_false_iff_ne.2 e1, e2]
      · have hi : idxOK p (List.length l) = true := idxOK_of hp.1 (by omega)
        simp only [beq_eq_false_iff_ne.2 e1, cond_false, e2, decide_false, hi, cond_true, guard_u (h.at _), Option.bind_some, show p < (l.length : Int) by omega, decide_true, Bool.true_and]
        cases isG (l.getD p.toNat noIn) <;> rfl

def wrF (l : List In) (a : Nat) (own : Bool) : Int :=
  bif chk (l.getD a noIn) != 0 then chk (l.getD a noIn) else bif isG (l.getD a noIn) && !own then 3 else
    bif ((l.getD a noIn).1 == 41) && !gdF l a (l.getD a noIn).2.2.2.1.toNat then 3 else ledF l (l.getD a noIn)

theorem wrong_u {l : List In} (h : PrOK l) (hl : l.length ≤ 64) {a : Nat} (ha : a < l.length) (left : Int) : prog_wrong.u l (a : Int) left = some (wrF l a (left != 0)) := by
  unfold prog_wrong.u prog_wrong.s wrF
  rw [idxOK_nat ha, cond_true, Int.toNat_natCast]
  simp only [check_u (h.at a), guard_u (h.at a), guarded_u h hl ha, led_u h (h.at a), Option.bind_some, bne]
  cases (chk (l.getD a noIn) == 0) <;> cases isG (l.getD a noIn) <;> cases (left == 0) <;> cases ((l.getD a noIn).1 == 41) <;> cases gdF l a (l.getD a noIn).2.2.2.1.toNat <;> rfl

/-- Is a place one of an alt's guards? -/
def ownF (l : List In) (a j : Nat) : Bool := !((List.range' 0 a).all fun i => !(((l.getD i noIn).1 == 41) && decide ((j : Int) ≤ (i : Int) + (l.getD i noIn).2.2.2.1)))
theorem owned_u {l : List In} (h : PrOK l) (hl : l.length ≤ 64) {a : Nat} (ha : a < l.length) : ref12_owned.u l (a : Int) = some (ownF l a a) := by
  unfold ref12_owned.u ref12_owned.w
  rw [decide_eq_true (show (a : Int) ≤ 4611686018427387904 by omega), cond_true, Int.sub_zero, Int.toNat_natCast]
  have := count_all (fun n i => ref12_owned.g0 l (a : Int) some n i) (fun i => !(((l.getD i noIn).1 == 41) && decide ((a : Int) ≤ (i : Int) + (l.getD i noIn).2.2.2.1))) (some false) (some true) a rfl (fun n i hi => by
    have hx := (h.at i).c
    simp only [ref12_owned.g0]
    rw [idxOK_nat (by omega), cond_true, Int.toNat_natCast]
    have e2 : IntKind.wrap .i64 (List.getD l i noIn).2.2.2.1 = (List.getD l i noIn).2.2.2.1 := wrapN ⟨by omega, by omega⟩
    have e3 : IntKind.wrap .i64 ((i : Int) + (List.getD l i noIn).2.2.2.1) = (i : Int) + (List.getD l i noIn).2.2.2.1 := wrapN ⟨by omega, by omega⟩
    rw [e2, e3]
    unfold ref12_Alting.t
    cases ((l.getD i noIn).1 == 41) <;> cases decide ((a : Int) ≤ (i : Int) + (l.getD i noIn).2.2.2.1) <;> rfl) a 0 (by omega)
  refine this.trans ?_
  unfold ownF
  cases (List.range' 0 a).all fun i => !(((l.getD i noIn).1 == 41) && decide ((a : Int) ≤ (i : Int) + (l.getD i noIn).2.2.2.1)) <;> rfl

theorem one_fin {l : List In} (h : PrOK l) {x : In} (hx : InOK x) : ((ref10_Place.u x).bind fun y5 : Int × Bool =>
    bif y5.2 then
      bif (decide (y5.1 > ((List.length l : Nat) : Int))) then some 8
      else
        bif y5.2 then
          bif (decide (y5.1 < ((List.length l : Nat) : Int))) then
            bif (idxOK y5.1 (List.length l)) then (ref12_Guards.u ((List.getD l (Int.toNat y5.1) (0, (0, (0, (0, ()))))))).bind fun y6 => bif y6 then some 3 else some 0
            else none
          else some 0
        else some 0
    else
      bif y5.2 then
        bif (decide (y5.1 < ((List.length l : Nat) : Int))) then
          bif (idxOK y5.1 (List.length l)) then (ref12_Guards.u ((List.getD l (Int.toNat y5.1) (0, (0, (0, (0, ()))))))).bind fun y7 => bif y7 then some 3 else some 0
          else none
        else some 0
      else some 0) = some (ledF l x) := by
  rw [refplace_u hx]
  have hp := plc_nonneg hx
  unfold ledF
  generalize plcF x = q at hp
  obtain ⟨p, is⟩ := q
  cases is with
  | false => rfl
  | true =>
    simp only [Option.bind_some, cond_true]
    simp only at hp
    by_cases e2 : p > (l.length : Int)
    · simp [e2]
    · by_cases e3 : p < (l.length : Int)
      · have hi : idxOK p (List.length l) = true := idxOK_of hp.1 e3
        simp only [e2, e3, decide_false, decide_true, cond_false, cond_true, hi, guards_u (h.at _), Option.bind_some, Bool.true_and]
        cases isG (l.getD p.toNat noIn) <;> rfl
      · simp [e2, e3]

theorem one_u {l : List In} (h : PrOK l) (hl : l.length ≤ 64) {a : Nat} (ha : a < l.length) : ref12_one.u l (a : Int) = some (wrF l a (ownF l a a)) := by
  unfold ref12_one.u ref12_one.w wrF
  have hx := (h.at a).c
  rw [idxOK_nat ha, cond_true, Int.toNat_natCast]
  generalize hC : (List.getD l a noIn).2.2.2.1.toNat = C
  have hC' : (List.getD l a noIn).2.2.2.1 = (C : Int) := by omega
  have e2 : IntKind.wrap .i64 (List.getD l a noIn).2.2.2.1 = (C : Int) := by rw [hC']; exact wrapN ⟨by omega, by omega⟩
  have hd : decide ((C : Int) ≤ 4611686018427387904) = true := decide_eq_true (by omega)
  have hloop : ref12_one.g0 l (a : Int) (List.getD l a noIn) some (Int.toNat ((C : Int) + 1 - 1)) 1 = bif gdF l a C then some (ledF l (List.getD l a noIn)) else some 3 := by
    have := count_all (fun n i => ref12_one.g0 l (a : Int) (List.getD l a noIn) some n i) (fun j => decide (a + j < l.length) && isG (l.getD (a + j) noIn)) (some (ledF l (List.getD l a noIn))) (some 3) (C + 1) (one_fin h (h.at a)) (fun n i hi => by
      simp only [ref12_one.g0]
      have e3 : IntKind.wrap .i64 ((a : Int) + (i : Int)) = ((a + i : Nat) : Int) := by rw [wrapN ⟨by omega, by omega⟩]; omega
      rw [e3]
      by_cases hlt : a + i < l.length
      · rw [decide_eq_false (show ¬ (((a + i : Nat) : Int) ≥ ((List.length l : Nat) : Int)) by omega), idxOK_nat hlt, Int.toNat_natCast, guards_u (h.at _), decide_eq_true hlt]
        simp only [cond_false, cond_true, Option.bind_some, Bool.true_and]
        cases isG (l.getD (a + i) noIn) <;> rfl
      · rw [decide_eq_true (show (((a + i : Nat) : Int) ≥ ((List.length l : Nat) : Int)) by omega), decide_eq_false hlt]
        rfl) C 1 (by omega)
    rw [show ((C : Int) + 1 - 1).toNat = C by omega]
    exact this
  simp only [refcheck_u (h.at a), guards_u (h.at a), owned_u h hl ha, Option.bind_some, ref12_Alting.t, e2, hd, cond_true, hloop, bne]
  have hf := one_fin h (h.at a)
  simp only [hf]
  cases (chk (l.getD a noIn) == 0) <;> cases isG (l.getD a noIn) <;> cases ownF l a a <;> cases ((l.getD a noIn).1 == 41) <;> cases gdF l a C <;> rfl

/-- What is known at a place: 'left' guards are to come. -/
structure LeftOK (l : List In) (a left : Nat) : Prop where
  own : ∀ j, a ≤ j → (ownF l a j = true ↔ j < a + left)
  all : ∀ j, a ≤ j → j < a + left → isG (l.getD j noIn) = true
  le : left ≤ 255
theorem own_iff {l : List In} {a j : Nat} : ownF l a j = true ↔ ∃ i, i < a ∧ (l.getD i noIn).1 = 41 ∧ (j : Int) ≤ (i : Int) + (l.getD i noIn).2.2.2.1 := by
  unfold ownF
  rw [Bool.not_eq_true', Bool.eq_false_iff]
  simp only [ne_eq, List.all_eq_true, Bool.not_eq_true', Bool.and_eq_false_iff, beq_eq_false_iff_ne, decide_eq_false_iff_not]
  constructor
  · intro hh
    apply Classical.byContradiction
    intro hn
    apply hh
    intro i hi
    rw [List.mem_range'_1] at hi
    by_cases e : (l.getD i noIn).1 = 41
    · right; intro hj; exact hn ⟨i, by omega, e, hj⟩
    · exact .inl e
  · rintro ⟨i, h1, h2, h3⟩ hh
    have := hh i (by rw [List.mem_range'_1]; omega)
    rcases this with e | e
    · exact e h2
    · exact e h3

theorem left_alt {l : List In} (h : PrOK l) {a left : Nat} (hi : LeftOK l a left) (h41 : (l.getD a noIn).1 = 41) (hg : gdF l a (l.getD a noIn).2.2.2.1.toNat = true) : LeftOK l (a + 1) (l.getD a noIn).2.2.2.1.toNat := by
  have hx := (h.at a).c
  have h0 : left = 0 := by
    rcases Nat.eq_zero_or_pos left with e | e
    · exact e
    · have := hi.all a (Nat.le_refl _) (by omega)
      rw [alt_notG h41] at this; cases this
  refine ⟨fun j hj => ?_, fun j h1 h2 => ?_, by omega⟩
  · rw [own_iff]
    constructor
    · rintro ⟨i, q1, q2, q3⟩
      by_cases e : i = a
      · subst e; omega
      · have := (hi.own j (by omega)).1 (own_iff.2 ⟨i, by omega, q2, q3⟩)
        omega
    · intro hlt
      exact ⟨a, by omega, h41, by omega⟩
  · unfold gdF at hg
    rw [List.all_eq_true] at hg
    have := hg (j - a) (by rw [List.mem_range'_1]; omega)
    simp only [Bool.and_eq_true] at this
    rw [show a + (j - a) = j by omega] at this
    exact this.2
theorem left_on {l : List In} {a left : Nat} (hi : LeftOK l a left) (h41 : (l.getD a noIn).1 ≠ 41) : LeftOK l (a + 1) (left - 1) := by
  refine ⟨fun j hj => ?_, fun j h1 h2 => hi.all j (by omega) (by omega), by have := hi.le; omega⟩
  have : ownF l (a + 1) j = true ↔ ownF l a j = true := by
    rw [own_iff, own_iff]
    constructor
    · rintro ⟨i, q1, q2, q3⟩
      by_cases e : i = a
      · subst e; exact absurd q2 h41
      · exact ⟨i, by omega, q2, q3⟩
    · rintro ⟨i, q1, q2, q3⟩; exact ⟨i, by omega, q2, q3⟩
  rw [this, hi.own j (by omega)]
  omega

theorem check_go {l : List In} (h : PrOK l) (hl : l.length ≤ 64) : ∀ (xs : List In) (a left : Nat), l.drop a = xs → LeftOK l a left →
    ∃ v, prog_Check.g0 l some xs (left : Int) (a : Int) = some v ∧ ref12_Check.g0 l some xs (a : Int) = some v
  | [], a, left, _, _ => ⟨_, rfl, rfl⟩
  | x :: xs, a, left, hd, hi => by
    have ha : a < l.length := by
      rcases Nat.lt_or_ge a l.length with hlt | hge
      · exact hlt
      · rw [List.drop_eq_nil_of_le hge] at hd; cases hd
    have hx : l.getD a noIn = x := by
      rw [List.drop_eq_getElem_cons ha] at hd
      rw [List.getD_eq_getElem?_getD, List.getElem?_eq_getElem ha]
      cases hd; rfl
    have hd' : l.drop (a + 1) = xs := by
      rw [List.drop_eq_getElem_cons ha] at hd
      cases hd; rfl
    have ho : ((left : Int) != 0) = ownF l a a := by
      rw [Bool.eq_iff_iff, hi.own a (Nat.le_refl _)]
      simp only [bne_iff_ne, ne_eq]
      omega
    simp only [prog_Check.g0, ref12_Check.g0, wrong_u h hl ha, one_u h hl ha, Option.bind_some, ho]
    cases hw : (wrF l a (ownF l a a) != 0) with
    | true => exact ⟨_, rfl, rfl⟩
    | false =>
      simp only [cond_false]
      have hle := hi.le
      have hxc := (h.at a).c
      cases h41 : (x.1 == 41) with
      | true =>
        have e41 : (l.getD a noIn).1 = 41 := by rw [hx]; simpa using h41
        have hg : gdF l a (l.getD a noIn).2.2.2.1.toNat = true := by
          cases hg : gdF l a (l.getD a noIn).2.2.2.1.toNat with
          | true => rfl
          | false =>
            exfalso
            unfold wrF at hw
            rw [hg, hx, h41] at hw
            cases hc : (chk x != 0) with
            | true => rw [hc, cond_true, hc] at hw; cases hw
            | false =>
              rw [hc] at hw
              cases (isG x && !ownF l a a) <;> simp at hw
        obtain ⟨v, v1, v2⟩ := check_go h hl xs (a + 1) _ hd' (left_alt h hi e41 hg)
        refine ⟨v, ?_, ?_⟩
        · rw [cond_true]
          rw [hx] at v1 hxc
          rw [wrapN (x := x.2.2.2.1) ⟨by omega, by omega⟩]
          rw [show ((x.2.2.2.1.toNat : Nat) : Int) = x.2.2.2.1 by omega, show ((a + 1 : Nat) : Int) = (a : Int) + 1 by omega] at v1
          exact v1
        · rw [show ((a + 1 : Nat) : Int) = (a : Int) + 1 by omega] at v2
          exact v2
      | false =>
        have e41 : (l.getD a noIn).1 ≠ 41 := by rw [hx]; simpa using h41
        obtain ⟨v, v1, v2⟩ := check_go h hl xs (a + 1) _ hd' (left_on hi e41)
        refine ⟨v, ?_, ?_⟩
        · rw [cond_false]
          have e1 : (if (0 : Int) > IntKind.wrap .i64 ((left : Int) - 1) then 0 else IntKind.wrap .i64 ((left : Int) - 1)) = ((left - 1 : Nat) : Int) := by
            rw [wrapN ⟨by omega, by omega⟩]
            split <;> omega
          rw [e1, ← show ((a + 1 : Nat) : Int) = (a : Int) + 1 by omega]
          exact v1
        · rw [show ((a + 1 : Nat) : Int) = (a : Int) + 1 by omega] at v2
          exact v2

/-- Whether instructions are a program, and where they are not: the program's answer is the reference's. -/
theorem check_law {l : List In} (h : PrOK l) : ∃ v, prog_Check.u l = some v ∧ ref12_Check.u l = some v := by
  unfold prog_Check.u prog_Check.w ref12_Check.u ref12_Check.w
  cases h0 : (((List.length l : Nat) : Int) == 0) with
  | true => exact ⟨_, rfl, rfl⟩
  | false =>
    cases h1 : decide (((List.length l : Nat) : Int) > 64) with
    | true => exact ⟨_, rfl, rfl⟩
    | false =>
      have hl : l.length ≤ 64 := by have := of_decide_eq_false h1; omega
      simp only [cond_false, dec_len hl (by decide), cond_true]
      refine check_go h hl l 0 0 rfl ⟨fun j _ => ?_, fun j _ h => by omega, by omega⟩
      rw [own_iff]
      constructor
      · rintro ⟨i, h, _⟩; omega
      · intro h; omega
def okPr (l : List In) : Bool := match prog_Check.u l with | some v => v.2 == 0 | none => false
theorem reffine_u {l : List In} (h : PrOK l) : ref12_Fine.u l = some (okPr l) := by
  obtain ⟨v, v1, v2⟩ := check_law h
  unfold ref12_Fine.u ref12_Fine.s okPr
  rw [v1, v2]; rfl
end Go.Proofs.YthamolhikhcilaaDoor.K
